/- ParseTouches, plainly: Touches tells the first substring that the set does not touch, or that there is none; Fewest the first one of the smallest sets that touch a short word; or the errors. -/
import Derived.Test.YtpeeflkodpnbpaaDoorPr0
import Derived.Test.YtpeeflkodpnbpaaDoorPrA1
import Derived.Test.YtpeeflkodpnbpaaDoorHWord
import Derived.Test.YtpeeflkodpnbpaaDoorHSub
import Derived.Test.YtpeeflkodpnbpaaDoorHKeys
import Derived.Test.YtpeeflkodpnbpaaDoorPrA11
import Derived.Test.YtpeeflkodpnbpaaDoorHSubs
import Derived.Test.YtpeeflkodpnbpaaDoorHUnt
import Derived.Test.YtpeeflkodpnbpaaDoorPrB23
import Derived.Test.YtpeeflkodpnbpaaDoorPrA12
import Derived.Test.YtpeeflkodpnbpaaDoorHFew
import Derived.Test.YtpeeflkodpnbpaaDoorPrA13
import Derived.Test.YtpeeflkodpnbpaaDoorPrA8
import Derived.Test.YtpeeflkodpnbpaaDoorPrB19
import Derived.Test.YtpeeflkodpnbpaaDoorPrB20
/- Tools of the plain laws: with enough rounds. -/
namespace Go.Proofs.YtpeeflkodpnbpaaDoor.Pr
open Go.RowKit Go.Proofs.YtpeeflkodpnbpaaDoorW.PrintWords Go.Proofs.YtpeeflkodpnbpaaDoorW.PrintLast Go.Proofs.YtpeeflkodpnbpaaDoorW.PrintMore
set_option linter.unusedVariables false
set_option linter.unusedSimpArgs false

/-- with enough rounds: this answer -/
def Evt {α : Type} (g : Nat → Option α) (r : α) : Prop := ∃ K, ∀ k, K ≤ k → g k = some r
theorem Evt.bind {α β : Type} {g : Nat → Option α} {h : Nat → α → Option β} {a : α} {b : β} (hg : Evt g a) (hh : Evt (fun k => h k a) b) : Evt (fun k => (g k).bind (h k)) b := by
  obtain ⟨K, h1⟩ := hg
  obtain ⟨K', h2⟩ := hh
  refine ⟨max K K', fun k hk => ?_⟩
  show (g k).bind (h k) = some b
  rw [h1 k (by omega), Option.bind_some]
  exact h2 k (by omega)
theorem Evt.ex {α : Type} {g : Nat → Option α} {r : α} (h : Evt g r) : ∃ k, g k = some r := by
  obtain ⟨K, h⟩ := h
  exact ⟨K, h K (Nat.le_refl _)⟩
theorem Evt.congr {α : Type} {g g' : Nat → Option α} {r : α} (h : Evt g r) (e : ∀ k, g' k = g k) : Evt g' r := by
  obtain ⟨K, h⟩ := h
  exact ⟨K, fun k hk => (e k).trans (h k hk)⟩
theorem Evt.val {α : Type} {g : Nat → Option α} {r r' : α} (h : Evt g r) (e : r = r') : Evt g r' := e ▸ h
/-- one round -/
theorem Evt.succ {α : Type} {g : Nat → Option α} {r : α} (h : Evt (fun k => g (k + 1)) r) : Evt g r := by
  obtain ⟨K, h⟩ := h
  refine ⟨K + 1, fun k hk => ?_⟩
  obtain ⟨m, rfl⟩ : ∃ m, k = m + 1 := ⟨k - 1, by omega⟩
  exact h m (by omega)
theorem Evt.step {α : Type} {g g' : Nat → Option α} {r : α} (e : ∀ k, g (k + 1) = g' k) (h : Evt g' r) : Evt g r := Evt.succ (h.congr e)
theorem Evt.now {α : Type} {g : Nat → Option α} {r : α} (e : ∀ k, g (k + 1) = some r) : Evt g r := Evt.succ ⟨0, fun k _ => e k⟩
theorem Evt.all {α : Type} {g : Nat → Option α} {r : α} (e : ∀ k, g k = some r) : Evt g r := ⟨0, fun k _ => e k⟩
theorem Evt.pos {α : Type} {c : Prop} [Decidable c] {g g' : Nat → Option α} {r : α} (hc : c) (h : Evt g r) : Evt (fun k => if c then g k else g' k) r := h.congr fun _ => if_pos hc
theorem Evt.neg {α : Type} {c : Prop} [Decidable c] {g g' : Nat → Option α} {r : α} (hc : ¬ c) (h : Evt g' r) : Evt (fun k => if c then g k else g' k) r := h.congr fun _ => if_neg hc

theorem wr {x : Int} (h1 : -9223372036854775808 ≤ x) (h2 : x ≤ 9223372036854775807) : wrap64 x = x := by unfold wrap64; omega
end Go.Proofs.YtpeeflkodpnbpaaDoor.Pr

/- The reference's test of a word, plainly; two small facts. -/
namespace Go.Proofs.YtpeeflkodpnbpaaDoor.Pr
open Go.RowKit Go.Proofs.YtpeeflkodpnbpaaDoorW.PrintWords Go.Proofs.YtpeeflkodpnbpaaDoorW.PrintLast Go.Proofs.YtpeeflkodpnbpaaDoorW.PrintMore
set_option linter.unusedVariables false
set_option linter.unusedSimpArgs false

theorem bt_get (s : ByteArray) (i : Nat) (h : i < s.size) : bt s (i : Int) = ((s.get! i).toNat : Int) := by
  unfold bt
  rw [dif_pos (by simpa using h)]
  have : s.get! i = s[i] := by
    cases s with
    | mk a =>
      have h' : i < a.size := h
      simp [ByteArray.get!, h']
      rfl
  rw [this]
  simp
theorem word_good (s : ByteArray) (hs : s.size ≤ 1000) : ∀ (m i : Nat), i + m = s.size → (∀ j, i ≤ j → j < s.size → okAt s j) → Evt (fun k => numnahref09_Word.l0 k s (i : Int)) (decide ((s.size : Int) ≤ 160))
  | 0, i, hi, _ => by
    refine Evt.now fun k => ?_
    rw [numnahref09_Word.l0, if_neg (by omega)]
  | m + 1, i, hi, h => by
    have ih := word_good s hs m (i + 1) (by omega) (fun j h1 h2 => h j (by omega) h2)
    have ok := h i (Nat.le_refl _) (by omega)
    have hb := bt_get s i (by omega)
    refine Evt.step (g' := fun k => numnahref09_Word.l0 k s ((i + 1 : Nat) : Int)) (fun k => ?_) ih
    rw [numnahref09_Word.l0, if_pos (by omega), if_pos (by omega), if_neg (by rw [hb]; have := ok.1; omega), if_neg (by rw [hb]; have := ok.2; omega), wr (by omega) (by omega)]
    rfl
theorem word_bad (s : ByteArray) (hs : s.size ≤ 1000) : ∀ (m i : Nat), i + m = s.size → (∃ j, i ≤ j ∧ j < s.size ∧ ¬ okAt s j) → Evt (fun k => numnahref09_Word.l0 k s (i : Int)) false
  | 0, i, hi, ⟨j, h1, h2, _⟩ => by omega
  | m + 1, i, hi, h => by
    have hb := bt_get s i (by omega)
    by_cases c1 : bt s (i : Int) < 97
    · refine Evt.now fun k => ?_
      rw [numnahref09_Word.l0, if_pos (by omega), if_pos (by omega), if_pos c1]
    · by_cases c2 : bt s (i : Int) > 100
      · refine Evt.now fun k => ?_
        rw [numnahref09_Word.l0, if_pos (by omega), if_pos (by omega), if_neg c1, if_pos c2]
      · obtain ⟨j, h1, h2, h3⟩ := h
        have hne : j ≠ i := fun e => h3 (by rw [e]; unfold okAt; rw [hb] at c1 c2; omega)
        refine Evt.step (g' := fun k => numnahref09_Word.l0 k s ((i + 1 : Nat) : Int)) (fun k => ?_) (word_bad s hs m (i + 1) (by omega) ⟨j, by omega, h2, h3⟩)
        rw [numnahref09_Word.l0, if_pos (by omega), if_pos (by omega), if_neg c1, if_neg c2, wr (by omega) (by omega)]
        rfl
theorem word_ev (s : ByteArray) (hs : s.size ≤ 1000) : Evt (fun k => numnahref09_Word.f k s) (isWordC s) := by
  by_cases h : ∀ j, j < s.size → okAt s j
  · have := word_good s hs s.size 0 (by omega) (fun j _ hj => h j hj)
    refine Evt.val this ?_
    cases hc : isWordC s with
    | true => exact decide_eq_true (by have := ((isWordC_iff s).1 hc).1; omega)
    | false => exact decide_eq_false (fun hh => by
        have : isWordC s = true := (isWordC_iff s).2 ⟨by omega, h⟩
        rw [hc] at this; cases this)
  · have ⟨j, hj, hn⟩ : ∃ j, j < s.size ∧ ¬ okAt s j := by
      apply Classical.byContradiction
      intro hc
      exact h fun j hj => Classical.byContradiction fun hk => hc ⟨j, hj, hk⟩
    refine Evt.val (word_bad s hs s.size 0 (by omega) ⟨j, by omega, hj, hn⟩) ?_
    cases hc : isWordC s with
    | false => rfl
    | true => exact absurd (((isWordC_iff s).1 hc).2 j hj) hn
theorem toList_eq_iff (a b : ByteArray) : a.toList = b.toList ↔ a = b := by
  rw [ByteArray.toList_eq, ByteArray.toList_eq]
  constructor
  · intro h
    cases a; cases b
    simp at h
    rw [h]
  · intro h; rw [h]
theorem sub_eq (s : ByteArray) (i n : Nat) (a b : Int) (ha : a = (i : Int)) (hb : b = ((i + n : Nat) : Int)) : s.extract a.toNat b.toNat = subAt s n i := by
  subst ha; subst hb
  rw [Int.toNat_natCast, Int.toNat_natCast]; rfl
end Go.Proofs.YtpeeflkodpnbpaaDoor.Pr

/- The references of parts and places, plainly. -/
namespace Go.Proofs.YtpeeflkodpnbpaaDoor.Pr
open Go.RowKit Go.Proofs.YtpeeflkodpnbpaaDoorW.PrintWords Go.Proofs.YtpeeflkodpnbpaaDoorW.PrintLast Go.Proofs.YtpeeflkodpnbpaaDoorW.PrintMore
set_option linter.unusedVariables false
set_option linter.unusedSimpArgs false

/-! ### the reference's list of different substrings -/
theorem insD_at (x : ByteArray) : ∀ (l : List ByteArray) (p : Nat), p ≤ l.length → (∀ y, y ∈ l.take p → Op.bytesLess y.toList x.toList = true) → insD x l = l.take p ++ insD x (l.drop p)
  | l, 0, _, _ => by simp
  | [], p + 1, h, _ => by simp at h
  | y :: l, p + 1, h, hl => by
    rw [List.take_succ_cons, List.drop_succ_cons, insD, if_pos (hl y (by simp)), List.cons_append, ← insD_at x l p (by simpa using h) (fun z hz => hl z (by simp [hz]))]
theorem part_l1 (s : ByteArray) (n : Nat) (hs : s.size ≤ 200) (l : List ByteArray) (hl : l.length ≤ 400) (i : Nat) (hi : i ≤ 400) (x : ByteArray) (r : List ByteArray) : ∀ (m p : Nat), p + m = l.length → (∀ y, y ∈ l.take p → Op.bytesLess y.toList x.toList = true) →
    Evt (fun k => numnahref09_parts.l0 k s (n : Int) (insD x l) ((i + 1 : Nat) : Int)) r → Evt (fun k => numnahref09_parts.l1 k s (n : Int) l (i : Int) x (p : Int)) r := by
  have w : Aside0 (wrap64 ((i : Int) + 1) = ((i + 1 : Nat) : Int)) := ⟨(wr (by omega) (by omega)).trans (by omega)⟩
  have fin : ∀ p, p ≤ l.length → ∀ k, ((some (l.take (p : Int).toNat : List ByteArray)).bind fun y384 => (if ([] : List ByteArray).length + y384.length < 8796093022208 then ((some (([] : List ByteArray) ++ y384 : List ByteArray)).bind fun y388 => (if y388.length < 8796093022208 then ((some (y388 ++ [x] : List ByteArray)).bind fun y391 => ((some (l.drop (p : Int).toNat : List ByteArray)).bind fun y394 => (if y391.length + y394.length < 8796093022208 then (numnahref09_parts.l0 k s (n : Int) (y391 ++ y394) (wrap64 ((i : Int) + 1))) else (none)))) else (none))) else (none))) = numnahref09_parts.l0 k s (n : Int) ((l.take p ++ [x]) ++ l.drop p) ((i + 1 : Nat) : Int) := by
    intro p hp k
    rw [Option.bind_some, if_pos (by simp; omega), Option.bind_some, if_pos (by simp; omega), Option.bind_some, Option.bind_some, if_pos (by simp; omega), w.out]
    rfl
  intro m
  induction m with
  | zero =>
    intro p hp hlt h
    have e : insD x l = (l.take p ++ [x]) ++ l.drop p := by
      rw [insD_at x l p (by omega) hlt, List.drop_eq_nil_of_le (by omega), insD, List.append_nil]
    refine Evt.step (fun k => ?_) h
    rw [numnahref09_parts.l1, if_neg (by omega), if_pos (by omega), if_pos (by omega), fin p (by omega), e]
  | succ m ih =>
    intro p hp hlt h
    have hpl : p < l.length := by omega
    have w2 : Aside0 (wrap64 ((p : Int) + 1) = ((p + 1 : Nat) : Int)) := ⟨(wr (by omega) (by omega)).trans (by omega)⟩
    have e : rdOf ByteArray.empty l (p : Int) = l[p] := by simp [rdOf, hpl]
    by_cases c : Op.bytesLess l[p].toList x.toList = true
    · refine Evt.step (g' := fun k => numnahref09_parts.l1 k s (n : Int) l (i : Int) x ((p + 1 : Nat) : Int)) (fun k => ?_) (ih (p + 1) (by omega) (fun y hy => ?_) h)
      · rw [numnahref09_parts.l1, if_pos (by omega), if_pos (by omega), e, if_pos c, w2.out]
      · rw [List.take_succ_eq_append_getElem hpl, List.mem_append, List.mem_singleton] at hy
        rcases hy with hy | rfl
        · exact hlt y hy
        · exact c
    · by_cases c2 : l[p] = x
      · have e2 : insD x l = l := by
          rw [insD_at x l p (by omega) hlt, List.drop_eq_getElem_cons hpl, insD, if_neg c, if_pos c2, ← List.drop_eq_getElem_cons hpl, List.take_append_drop]
        rw [e2] at h
        refine Evt.step (fun k => ?_) h
        rw [numnahref09_parts.l1, if_pos (by omega), if_pos (by omega), e, if_neg c, if_pos ((toList_eq_iff _ _).2 c2), w.out]
      · have e2 : insD x l = (l.take p ++ [x]) ++ l.drop p := by
          rw [insD_at x l p (by omega) hlt, List.drop_eq_getElem_cons hpl, insD, if_neg c, if_neg c2]
          simp
        refine Evt.step (fun k => ?_) h
        rw [numnahref09_parts.l1, if_pos (by omega), if_pos (by omega), e, if_neg c, if_neg (fun hh => c2 ((toList_eq_iff _ _).1 hh)), if_pos (by omega), fin p (by omega), e2]
theorem part_l0 (s : ByteArray) (n : Nat) (hs : s.size ≤ 200) (hn : n ≤ s.size) : ∀ (m i : Nat), i + m = s.size + 1 - n → Evt (fun k => numnahref09_parts.l0 k s (n : Int) (partsUp s n i) (i : Int)) (partsS s n)
  | 0, i, hi => by
    have w : Aside0 (wrap64 ((i : Int) + (n : Int)) = ((i + n : Nat) : Int)) := ⟨(wr (by omega) (by omega)).trans (by omega)⟩
    obtain rfl : i = s.size + 1 - n := by omega
    refine Evt.now fun k => ?_
    rw [numnahref09_parts.l0, w.out, if_neg (by omega)]
    rfl
  | m + 1, i, hi => by
    have w : Aside0 (wrap64 ((i : Int) + (n : Int)) = ((i + n : Nat) : Int)) := ⟨(wr (by omega) (by omega)).trans (by omega)⟩
    have hx : s.extract (i : Int).toNat ((i + n : Nat) : Int).toNat = subAt s n i := sub_eq s i n _ _ rfl rfl
    have hlen := partsUp_len s n i
    refine Evt.step (g' := fun k => numnahref09_parts.l1 k s (n : Int) (partsUp s n i) (i : Int) (subAt s n i) ((0 : Nat) : Int)) (fun k => ?_) (part_l1 s n hs (partsUp s n i) (by omega) i (by omega) (subAt s n i) _ (partsUp s n i).length 0 (by omega) (fun y hy => by simp at hy) (part_l0 s n hs hn m (i + 1) (by omega)))
    rw [numnahref09_parts.l0, w.out, if_pos (by omega), if_pos (by omega), if_pos (by omega), hx]
    rfl
theorem parts_ev (s : ByteArray) (n : Nat) (hs : s.size ≤ 200) (hn : n ≤ s.size) : Evt (fun k => numnahref09_parts.f k s (n : Int)) (partsS s n) := part_l0 s n hs hn (s.size + 1 - n) 0 (by omega)
theorem plac_l0 (s t : ByteArray) (n : Nat) (hs : s.size ≤ 200) (hn : n ≤ s.size) (ht : t.size = n) : ∀ (m i : Nat), i + m = s.size + 1 - n → Evt (fun k => numnahref09_places.l0 k s t (posUp s n t i) (i : Int)) (posS s n t)
  | 0, i, hi => by
    have w : Aside0 (wrap64 ((i : Int) + (t.size : Int)) = ((i + n : Nat) : Int)) := ⟨(wr (by omega) (by omega)).trans (by omega)⟩
    obtain rfl : i = s.size + 1 - n := by omega
    refine Evt.now fun k => ?_
    rw [numnahref09_places.l0, w.out, if_neg (by omega)]
    rfl
  | m + 1, i, hi => by
    have w : Aside0 (wrap64 ((i : Int) + (t.size : Int)) = ((i + n : Nat) : Int)) := ⟨(wr (by omega) (by omega)).trans (by omega)⟩
    have w2 : Aside0 (wrap64 ((i : Int) + 1) = ((i + 1 : Nat) : Int)) := ⟨(wr (by omega) (by omega)).trans (by omega)⟩
    have hx : s.extract (i : Int).toNat ((i + n : Nat) : Int).toNat = subAt s n i := sub_eq s i n _ _ rfl rfl
    have hlen := posUp_len s n t i
    refine Evt.step (fun k => ?_) (plac_l0 s t n hs hn ht m (i + 1) (by omega))
    rw [numnahref09_places.l0, w.out, if_pos (by omega), if_pos (by omega), if_pos (by omega), hx]
    by_cases c : subAt s n i = t
    · rw [if_pos ((toList_eq_iff _ _).2 c), if_pos (by omega), w2.out, posUp, if_pos c]
    · rw [if_neg (fun hh => c ((toList_eq_iff _ _).1 hh)), w2.out, posUp, if_neg c, List.append_nil]
theorem places_ev (s t : ByteArray) (n : Nat) (hs : s.size ≤ 200) (hn : n ≤ s.size) (ht : t.size = n) : Evt (fun k => numnahref09_places.f k s t) (posS s n t) := plac_l0 s t n hs hn ht (s.size + 1 - n) 0 (by omega)

end Go.Proofs.YtpeeflkodpnbpaaDoor.Pr

/- The numbers of substrings, plainly. -/
namespace Go.Proofs.YtpeeflkodpnbpaaDoor.Pr
open Go.RowKit Go.WideMaps Go.Maps Go.Proofs.YtpeeflkodpnbpaaDoorW Go.Proofs.YtpeeflkodpnbpaaDoorW.PrintWords Go.Proofs.YtpeeflkodpnbpaaDoorW.PrintLast Go.Proofs.YtpeeflkodpnbpaaDoorW.PrintMore
set_option linter.unusedVariables false
set_option linter.unusedSimpArgs false

theorem insD_old {x : ByteArray} : ∀ {l : List ByteArray}, l.Pairwise ltS → x ∈ l → (insD x l).length = l.length
  | y :: l, h, hm => by
    have hy := List.pairwise_cons.1 h
    rw [insD]
    split
    · rename_i hlt
      have : x ∈ l := by
        rcases List.mem_cons.1 hm with rfl | hm
        · exact absurd rfl ((ltS_iff _ _).1 hlt).2
        · exact hm
      rw [List.length_cons, insD_old hy.2 this, List.length_cons]
    · split
      · rfl
      · rename_i hlt hne
        exfalso
        rcases List.mem_cons.1 hm with rfl | hm
        · exact hne rfl
        · exact hlt (hy.1 x hm)
theorem insD_new {x : ByteArray} : ∀ {l : List ByteArray}, x ∉ l → (insD x l).length = l.length + 1
  | [], _ => rfl
  | y :: l, hm => by
    rw [insD]
    split
    · rw [List.length_cons, insD_new (fun h => hm (List.mem_cons_of_mem _ h)), List.length_cons]
    · split
      · rename_i _ e
        exact absurd (e ▸ List.mem_cons_self) hm
      · rfl
theorem subG_tidy {H : Type} (s : ByteArray) (n : Nat) : ∀ k, Tidy (subG (H := H) s n k)
  | 0 => tidy_empty
  | k + 1 => (subG_tidy s n k).put (keyLit _) _
theorem size_up {H : Type} (s : ByteArray) (n : Nat) : ∀ k, Maps.size (subG (H := H) s n k) = (partsUp s n k).length
  | 0 => rfl
  | k + 1 => by
    rw [subG, size_put (subG_tidy s n k), partsUp, size_up s n k]
    by_cases h : Maps.has (subG (H := H) s n k) (keyS (subAt s n k)) = true
    · rw [if_pos h, insD_old (partsUp_sorted s n k) (mem_partsUp.2 ((subG_has s n _ k).1 h))]
    · rw [if_neg h, insD_new (fun hm => h ((subG_has s n _ k).2 (mem_partsUp.1 hm)))]
theorem subsF_eq (s : ByteArray) : ∀ m n l, subsF s m n l = l ++ (List.range m).map (fun i => (cntS s (n + i) : Int))
  | 0, n, l => by simp [subsF]
  | m + 1, n, l => by
    rw [subsF, subsF_eq s m (n + 1), List.range_succ_eq_map, List.map_cons, List.map_map, List.append_assoc]
    congr 1
    rw [List.singleton_append]
    congr 1
    apply List.map_congr_left
    intro a _
    show (cntS s (n + 1 + a) : Int) = cntS s (n + (a + 1))
    rw [show n + 1 + a = n + (a + 1) by omega]
/-! ### counting -/
theorem nodup_le {α : Type} : ∀ {l m : List α}, l.Nodup → (∀ x, x ∈ l → x ∈ m) → l.length ≤ m.length
  | [], _, _, _ => by simp
  | x :: l, m, hn, h => by
    obtain ⟨a, b, rfl⟩ := List.append_of_mem (h x List.mem_cons_self)
    have hn2 := List.nodup_cons.1 hn
    have := nodup_le (l := l) (m := a ++ b) hn2.2 (fun y hy => by
      have h1 := h y (List.mem_cons_of_mem _ hy)
      rcases List.mem_append.1 h1 with h1 | h1
      · exact List.mem_append_left _ h1
      · rcases List.mem_cons.1 h1 with e | h1
        · exact absurd (e ▸ hy) hn2.1
        · exact List.mem_append_right _ h1)
    simp only [List.length_append, List.length_cons] at this ⊢
    omega
/-- a substring occurs -/
def occ (s t : ByteArray) (n : Nat) : Prop := ∃ j, j + n ≤ s.size ∧ subAt s n j = t
theorem mem_parts {s t : ByteArray} {n : Nat} : t ∈ partsS s n ↔ occ s t n := by
  rw [mem_partsS]
  constructor
  · rintro ⟨j, hj, h⟩; exact ⟨j, by omega, h⟩
  · rintro ⟨j, hj, h⟩; exact ⟨j, by omega, h⟩
/-! ### strings as lists of bytes -/
/-! ### one more letter; one more place -/
def ext4 : List ByteArray → List ByteArray
  | [] => []
  | t :: l => t.push 97 :: t.push 98 :: t.push 99 :: t.push 100 :: ext4 l
theorem ext4_len : ∀ l, (ext4 l).length = 4 * l.length
  | [] => rfl
  | t :: l => by simp only [ext4, List.length_cons, ext4_len l]; omega
theorem mem_ext4 {t : ByteArray} {c : UInt8} (hc : c = 97 ∨ c = 98 ∨ c = 99 ∨ c = 100) : ∀ {l : List ByteArray}, t ∈ l → t.push c ∈ ext4 l
  | x :: l, h => by
    rw [ext4]
    rcases List.mem_cons.1 h with rfl | h
    · rcases hc with rfl | rfl | rfl | rfl <;> simp
    · have := mem_ext4 hc h
      simp [this]
end Go.Proofs.YtpeeflkodpnbpaaDoor.Pr

/- Sets that touch a word: what untF says, and how many substrings there are at most. -/
namespace Go.Proofs.YtpeeflkodpnbpaaDoor.Pr
open Go.RowKit Go.Proofs.YtpeeflkodpnbpaaDoorW.PrintWords Go.Proofs.YtpeeflkodpnbpaaDoorW.PrintLast Go.Proofs.YtpeeflkodpnbpaaDoorW.PrintMore
set_option linter.unusedVariables false
set_option linter.unusedSimpArgs false

/-- a set touches the word -/
def Tch (s : ByteArray) (set : List Int) : Prop := ∀ k j : Nat, 1 ≤ k → j + k ≤ s.size → ∃ j' p : Nat, j' + k ≤ s.size ∧ subAt s k j' = subAt s k j ∧ (p : Int) ∈ set ∧ j' ≤ p ∧ p < j' + k
theorem cntB_mono (set : List Int) (i : Nat) : ∀ n, cntB set i ≤ cntB set (i + n)
  | 0 => Int.le_refl _
  | n + 1 => by
    have := cntB_mono set i n
    rw [← Nat.add_assoc, cntB]
    split <;> omega
theorem cntB_lt (set : List Int) (i : Nat) : ∀ n, cntB set i < cntB set (i + n) ↔ ∃ p : Nat, (p : Int) ∈ set ∧ i ≤ p ∧ p < i + n
  | 0 => by
    constructor
    · intro h; exact absurd h (by rw [Nat.add_zero]; exact Int.lt_irrefl _)
    · rintro ⟨p, _, h1, h2⟩; omega
  | n + 1 => by
    have ih := cntB_lt set i n
    have mo := cntB_mono set i n
    rw [← Nat.add_assoc, cntB]
    by_cases c : memI ((i + n : Nat) : Int) set = true
    · rw [if_pos c]
      constructor
      · intro _; exact ⟨i + n, memI_iff.1 c, by omega, by omega⟩
      · intro _; omega
    · rw [if_neg c]
      constructor
      · intro h
        obtain ⟨p, h1, h2, h3⟩ := ih.1 (by omega)
        exact ⟨p, h1, h2, by omega⟩
      · rintro ⟨p, h1, h2, h3⟩
        have hne : p ≠ i + n := fun e => c (memI_iff.2 (e ▸ h1))
        have := ih.2 ⟨p, h1, h2, by omega⟩
        omega
theorem tch_any (s : ByteArray) (set : List Int) (n : Nat) (t : ByteArray) : (posS s n t).any (tchP set n) = true ↔ ∃ j p : Nat, j + n ≤ s.size ∧ subAt s n j = t ∧ (p : Int) ∈ set ∧ j ≤ p ∧ p < j + n := by
  rw [List.any_eq_true]
  constructor
  · rintro ⟨x, hx, h⟩
    obtain ⟨j, hj, rfl, hs⟩ := mem_posUp.1 hx
    unfold tchP at h
    rw [decide_eq_true_iff, Int.toNat_natCast, cntB_lt] at h
    obtain ⟨p, h1, h2, h3⟩ := h
    exact ⟨j, p, by omega, hs, h1, h2, h3⟩
  · rintro ⟨j, p, hj, hs, h1, h2, h3⟩
    refine ⟨(j : Int), mem_posUp.2 ⟨j, by omega, rfl, hs⟩, ?_⟩
    unfold tchP
    rw [decide_eq_true_iff, Int.toNat_natCast, cntB_lt]
    exact ⟨p, h1, h2, h3⟩
theorem findU_none (s : ByteArray) (set : List Int) (n : Nat) : ∀ l, findU s set n l = none ↔ ∀ t, t ∈ l → (posS s n t).any (tchP set n) = true
  | [] => by simp [findU]
  | t :: l => by
    rw [findU]
    by_cases c : (posS s n t).any (tchP set n) = true
    · rw [if_pos c, findU_none s set n l]
      constructor
      · intro h x hx
        rcases List.mem_cons.1 hx with rfl | hx
        · exact c
        · exact h x hx
      · intro h x hx; exact h x (List.mem_cons_of_mem _ hx)
    · rw [if_neg c]
      constructor
      · intro h; cases h
      · intro h; exact absurd (h t List.mem_cons_self) c
theorem untF_iff (s : ByteArray) (set : List Int) : ∀ q n, (untF s set q n).2 = false ↔ ∀ k, n ≤ k → k < n + q → ∀ t, t ∈ partsS s k → (posS s k t).any (tchP set k) = true
  | 0, n => by
    rw [untF]
    exact ⟨fun _ k h1 h2 => by omega, fun _ => rfl⟩
  | q + 1, n => by
    rw [untF]
    cases h : findU s set n (partsS s n) with
    | some t =>
      constructor
      · intro h2; cases h2
      · intro h2
        have := (findU_none s set n (partsS s n)).2 (h2 n (Nat.le_refl _) (by omega))
        rw [h] at this; cases this
    | none =>
      show (untF s set q (n + 1)).2 = false ↔ _
      rw [untF_iff s set q (n + 1)]
      have h3 := (findU_none s set n (partsS s n)).1 h
      constructor
      · intro h2 k h4 h5
        by_cases e : k = n
        · subst e; exact h3
        · exact h2 k (by omega) (by omega)
      · intro h2 k h4 h5; exact h2 k (by omega) (by omega)
theorem unt_tch (s : ByteArray) (set : List Int) : (untF s set s.size 1).2 = false ↔ Tch s set := by
  rw [untF_iff]
  constructor
  · intro h k j hk hj
    have := (tch_any s set k _).1 (h k hk (by omega) (subAt s k j) (mem_parts.2 ⟨j, hj, rfl⟩))
    obtain ⟨j', p, h1, h2, h3, h4, h5⟩ := this
    exact ⟨j', p, h1, h2, h3, h4, h5⟩
  · intro h k h1 h2 t ht
    obtain ⟨j, hj, rfl⟩ := mem_parts.1 ht
    obtain ⟨j', p, g1, g2, g3, g4, g5⟩ := h k j h1 hj
    exact (tch_any s set k _).2 ⟨j', p, g1, g2, g3, g4, g5⟩
theorem untF_no (s : ByteArray) (set : List Int) : ∀ q n, (untF s set q n).2 = false → (untF s set q n).1 = emptyB
  | 0, n, _ => rfl
  | q + 1, n, h => by
    rw [untF] at h ⊢
    cases hf : findU s set n (partsS s n) with
    | some t => rw [hf] at h; cases h
    | none =>
      rw [hf] at h
      exact untF_no s set q (n + 1) h

/-! ### how many substrings -/
def cand (s : ByteArray) (k : Nat) : List Int → List ByteArray
  | [] => []
  | p :: l => (List.range k).map (fun o => subAt s k (p.toNat - o)) ++ cand s k l
theorem cand_len (s : ByteArray) (k : Nat) : ∀ l, (cand s k l).length = l.length * k
  | [] => by simp [cand]
  | p :: l => by rw [cand, List.length_append, cand_len s k l, List.length_map, List.length_range, List.length_cons, Nat.succ_mul, Nat.add_comm]
theorem mem_cand (s : ByteArray) (k : Nat) {p o : Nat} (ho : o < k) : ∀ {l : List Int}, (p : Int) ∈ l → subAt s k (p - o) ∈ cand s k l
  | q :: l, h => by
    rw [cand, List.mem_append]
    rcases List.mem_cons.1 h with h | h
    · refine .inl (List.mem_map.2 ⟨o, List.mem_range.2 ho, ?_⟩)
      rw [← h, Int.toNat_natCast]
    · exact .inr (mem_cand s k ho h)
end Go.Proofs.YtpeeflkodpnbpaaDoor.Pr

/- parse.Touches, plainly. -/
namespace Go.Proofs.YtpeeflkodpnbpaaDoor.Pr
open Go.RowKit Go.Proofs.YtpeeflkodpnbpaaDoorW.PrintWords Go.Proofs.YtpeeflkodpnbpaaDoorW.PrintLast Go.Proofs.YtpeeflkodpnbpaaDoorW.PrintMore
set_option linter.unusedVariables false
set_option linter.unusedSimpArgs false

/-- place i of a list of positions is well -/
def posAt (s : ByteArray) (l : List Int) (i : Nat) : Prop := 0 ≤ rd l (i : Int) ∧ rd l (i : Int) < s.size ∧ (0 < i → rd l ((i - 1 : Nat) : Int) < rd l (i : Int))
def tchR (s : ByteArray) (l : List Int) : ByteArray × Bool × Int := ((untF s l s.size 1).1, !(untF s l s.size 1).2, 0)
theorem tchs_step (s : ByteArray) (l : List Int) (hs : s.size ≤ 160) (hl : l.length ≤ 200) (i : Nat) (hi : i < l.length) (h : posAt s l i) (k : Nat) : parse_Touches.l0 (k + 1) s l l (l.length : Int) (i : Int) = parse_Touches.l0 k s l l (l.length : Int) ((i + 1 : Nat) : Int) := by
  obtain ⟨h1, h2, h3⟩ := h
  have w2 : Aside0 (wrap64 ((i : Int) + 1) = ((i + 1 : Nat) : Int)) := ⟨(wr (by omega) (by omega)).trans (by omega)⟩
  have w3 : Aside0 (wrap64 ((s.size : Int) - 1) = (s.size : Int) - 1) := ⟨wr (by omega) (by omega)⟩
  have hw : parse_within.f (rd l (i : Int)) 0 ((s.size : Int) - 1) = some true := by
    rw [parse_within.f, if_pos (by omega), decide_eq_true (by omega)]
  rw [parse_Touches.l0, if_pos (by omega), if_pos (by omega), if_pos (by omega), w3.out, hw, Option.bind_some, if_pos rfl]
  by_cases c : (i : Int) > 0
  · have w4 : Aside0 (wrap64 ((i : Int) - 1) = ((i - 1 : Nat) : Int)) := ⟨(wr (by omega) (by omega)).trans (by omega)⟩
    have h4 := h3 (by omega)
    rw [if_pos c, w4.out, if_pos (by omega), if_pos (by omega), if_neg (by omega), w2.out]
  · rw [if_neg c, w2.out]
theorem tchs_good (s : ByteArray) (l : List Int) (hs : s.size ≤ 160) (hl : l.length ≤ 200) : ∀ m i, i + m = l.length → (∀ j, i ≤ j → j < l.length → posAt s l j) → Evt (fun k => parse_Touches.l0 k s l l (l.length : Int) (i : Int)) (tchR s l)
  | 0, i, hi, h => by
    refine Evt.now fun k => ?_
    rw [parse_Touches.l0, if_neg (by omega), parse_untouched.f, if_pos hs]
    rfl
  | m + 1, i, hi, h =>
    Evt.step (fun k => tchs_step s l hs hl i (by omega) (h i (Nat.le_refl _) (by omega)) k) (tchs_good s l hs hl m (i + 1) (by omega) (fun j h1 h2 => h j (by omega) h2))
theorem tchs_bad (s : ByteArray) (l : List Int) (hs : s.size ≤ 160) (hl : l.length ≤ 200) : ∀ m i, i + m = l.length → (∃ j, i ≤ j ∧ j < l.length ∧ ¬ posAt s l j) → Evt (fun k => parse_Touches.l0 k s l l (l.length : Int) (i : Int)) ((⟨#[]⟩ : ByteArray), false, 2)
  | 0, i, hi, ⟨j, h1, h2, _⟩ => by omega
  | m + 1, i, hi, h => by
    by_cases c : posAt s l i
    · obtain ⟨j, h1, h2, h3⟩ := h
      have : j ≠ i := fun e => h3 (e ▸ c)
      exact Evt.step (fun k => tchs_step s l hs hl i (by omega) c k) (tchs_bad s l hs hl m (i + 1) (by omega) ⟨j, by omega, h2, h3⟩)
    · have w3 : Aside0 (wrap64 ((s.size : Int) - 1) = (s.size : Int) - 1) := ⟨wr (by omega) (by omega)⟩
      refine Evt.now fun k => ?_
      rw [parse_Touches.l0, if_pos (by omega), if_pos (by omega), if_pos (by omega), w3.out, parse_within.f]
      by_cases c1 : rd l (i : Int) ≥ 0
      · rw [if_pos c1, Option.bind_some]
        by_cases c2 : rd l (i : Int) ≤ (s.size : Int) - 1
        · rw [decide_eq_true c2, if_pos rfl]
          by_cases c3 : (i : Int) > 0
          · have w4 : Aside0 (wrap64 ((i : Int) - 1) = ((i - 1 : Nat) : Int)) := ⟨(wr (by omega) (by omega)).trans (by omega)⟩
            have c4 : rd l ((i - 1 : Nat) : Int) ≥ rd l (i : Int) := by
              apply Decidable.byContradiction
              intro hn
              exact c ⟨c1, by omega, fun _ => by omega⟩
            rw [if_pos c3, w4.out, if_pos (by omega), if_pos (by omega), if_pos c4]
          · exact absurd ⟨c1, by omega, fun h => absurd h (by omega)⟩ c
        · rw [decide_eq_false c2, if_neg (by decide)]
      · rw [if_neg c1, Option.bind_some, if_neg (by decide)]
theorem touches_ev (s : ByteArray) (hw : isWordC s = true) (l : List Int) (hl : l.length ≤ 200) (h : ∀ j, j < l.length → posAt s l j) : Evt (fun k => parse_Touches.f k s l) (tchR s l) := by
  have hs := ((isWordC_iff s).1 hw).1
  refine Evt.congr (tchs_good s l hs hl l.length 0 (by omega) (fun j _ h2 => h j h2)) (fun k => ?_)
  rw [parse_Touches.f, parse_isWord.f, hw, Option.bind_some, if_pos rfl]
  rfl
theorem touches_bad (s : ByteArray) (hw : isWordC s = true) (l : List Int) (hl : l.length ≤ 200) (h : ∃ j, j < l.length ∧ ¬ posAt s l j) : Evt (fun k => parse_Touches.f k s l) ((⟨#[]⟩ : ByteArray), false, 2) := by
  have hs := ((isWordC_iff s).1 hw).1
  obtain ⟨j, h1, h2⟩ := h
  refine Evt.congr (tchs_bad s l hs hl l.length 0 (by omega) ⟨j, by omega, h1, h2⟩) (fun k => ?_)
  rw [parse_Touches.f, parse_isWord.f, hw, Option.bind_some, if_pos rfl]
  rfl
theorem touches_no (s : ByteArray) (hw : isWordC s = false) (l : List Int) : Evt (fun k => parse_Touches.f k s l) ((⟨#[]⟩ : ByteArray), false, 2) := by
  refine Evt.all (fun k => ?_)
  rw [parse_Touches.f, parse_isWord.f, hw, Option.bind_some, if_neg (by decide)]
end Go.Proofs.YtpeeflkodpnbpaaDoor.Pr

/- The references of Touches and Positions, plainly. -/
namespace Go.Proofs.YtpeeflkodpnbpaaDoor.Pr
open Go.RowKit Go.Proofs.YtpeeflkodpnbpaaDoorW.PrintWords Go.Proofs.YtpeeflkodpnbpaaDoorW.PrintLast Go.Proofs.YtpeeflkodpnbpaaDoorW.PrintMore
set_option linter.unusedVariables false
set_option linter.unusedSimpArgs false

def inW (n : Nat) (a z : Int) : Bool := decide (a ≤ z) && decide (z < a + n)
theorem rd_at (l : List Int) (i : Nat) (h : i < l.length) : rd l (i : Int) = l[i] := by simp [rd, h]
theorem tou_l1 (t : ByteArray) (n : Nat) (hn : t.size = n) (hn2 : n ≤ 1000) (set pl : List Int) (hs : set.length ≤ 1000) (hp : pl.length ≤ 1000) (hpl : ∀ a, a ∈ pl → 0 ≤ a ∧ a ≤ 1000) (j : Nat) (hj : j < pl.length) (r : Bool) : ∀ (m i : Nat), i + m = set.length →
    ((set.drop i).any (inW n pl[j]) = true → r = true) → ((set.drop i).any (inW n pl[j]) = false → Evt (fun k => numnahref09_touched.l0 k t set pl ((j + 1 : Nat) : Int)) r) → Evt (fun k => numnahref09_touched.l1 k t set pl (j : Int) (i : Int)) r
  | 0, i, hi, h1, h2 => by
    have w1 : Aside0 (wrap64 ((j : Int) + 1) = ((j + 1 : Nat) : Int)) := ⟨(wr (by omega) (by omega)).trans (by omega)⟩
    refine Evt.step (fun k => ?_) (h2 (by rw [List.drop_eq_nil_of_le (by omega)]; rfl))
    rw [numnahref09_touched.l1, if_neg (by omega), w1.out]
  | m + 1, i, hi, h1, h2 => by
    have hlt : i < set.length := by omega
    have e1 := rd_at set i hlt
    have e2 := rd_at pl j hj
    have hr := hpl _ (List.getElem_mem hj)
    have w1 : Aside0 (wrap64 ((i : Int) + 1) = ((i + 1 : Nat) : Int)) := ⟨(wr (by omega) (by omega)).trans (by omega)⟩
    have w2 : Aside0 (wrap64 (pl[j] + (t.size : Int)) = pl[j] + (n : Int)) := ⟨(wr (by omega) (by omega)).trans (by omega)⟩
    rw [List.drop_eq_getElem_cons hlt, List.any_cons] at h1 h2
    by_cases c1 : set[i] ≥ pl[j]
    · by_cases c2 : set[i] < pl[j] + (n : Int)
      · have hr1 : r = true := h1 (by simp [inW, show pl[j] ≤ set[i] from c1, c2])
        subst hr1
        refine Evt.now fun k => ?_
        rw [numnahref09_touched.l1, if_pos (by omega), if_pos (by omega), if_pos (by omega), if_pos (by omega), e1, e2, if_pos c1, w2.out, if_pos c2]
      · have hf : inW n pl[j] set[i] = false := by simp [inW, c2]
        rw [hf, Bool.false_or] at h1 h2
        refine Evt.step (fun k => ?_) (tou_l1 t n hn hn2 set pl hs hp hpl j hj r m (i + 1) (by omega) h1 h2)
        rw [numnahref09_touched.l1, if_pos (by omega), if_pos (by omega), if_pos (by omega), if_pos (by omega), e1, e2, if_pos c1, w2.out, if_neg c2, w1.out]
    · have hf : inW n pl[j] set[i] = false := by simp [inW, show ¬ pl[j] ≤ set[i] from c1]
      rw [hf, Bool.false_or] at h1 h2
      refine Evt.step (fun k => ?_) (tou_l1 t n hn hn2 set pl hs hp hpl j hj r m (i + 1) (by omega) h1 h2)
      rw [numnahref09_touched.l1, if_pos (by omega), if_pos (by omega), if_pos (by omega), if_pos (by omega), e1, e2, if_neg c1, w1.out]
theorem tou_l0 (t : ByteArray) (n : Nat) (hn : t.size = n) (hn2 : n ≤ 1000) (set pl : List Int) (hs : set.length ≤ 1000) (hp : pl.length ≤ 1000) (hpl : ∀ a, a ∈ pl → 0 ≤ a ∧ a ≤ 1000) : ∀ (m j : Nat), j + m = pl.length →
    Evt (fun k => numnahref09_touched.l0 k t set pl (j : Int)) ((pl.drop j).any (fun a => set.any (inW n a)))
  | 0, j, hj => by
    rw [List.drop_eq_nil_of_le (by omega)]
    refine Evt.now fun k => ?_
    rw [numnahref09_touched.l0, if_neg (by omega)]; rfl
  | m + 1, j, hj => by
    have hlt : j < pl.length := by omega
    have ih := tou_l0 t n hn hn2 set pl hs hp hpl m (j + 1) (by omega)
    rw [List.drop_eq_getElem_cons hlt, List.any_cons]
    refine Evt.step (g' := fun k => numnahref09_touched.l1 k t set pl (j : Int) ((0 : Nat) : Int)) (fun k => by rw [numnahref09_touched.l0, if_pos (by omega)]; rfl) ?_
    refine tou_l1 t n hn hn2 set pl hs hp hpl j hlt _ set.length 0 (by omega) (fun h => ?_) (fun h => ?_)
    · rw [List.drop_zero] at h
      rw [h]; rfl
    · rw [List.drop_zero] at h
      rw [h, Bool.false_or]
      exact ih
theorem touched_ev (s t : ByteArray) (n : Nat) (hs : s.size ≤ 200) (hn : n ≤ s.size) (ht : t.size = n) (set : List Int) (hl : set.length ≤ 1000) : Evt (fun k => numnahref09_touched.f k s t set) ((posS s n t).any (tchP set n)) := by
  unfold numnahref09_touched.f
  have hpl : ∀ a, a ∈ posS s n t → 0 ≤ a ∧ a ≤ 1000 := fun a ha => by
    obtain ⟨j, hj, rfl, _⟩ := mem_posUp.1 ha
    omega
  have hlen := posUp_len s n t (s.size + 1 - n)
  refine Evt.val (Evt.bind (places_ev s t n hs hn ht) (tou_l0 t n ht (by omega) set (posS s n t) hl (by unfold posS; omega) hpl (posS s n t).length 0 (by omega))) ?_
  rw [List.drop_zero, Bool.eq_iff_iff, tch_any, List.any_eq_true]
  constructor
  · rintro ⟨a, ha, h⟩
    obtain ⟨z, hz, h2⟩ := List.any_eq_true.1 h
    obtain ⟨j, hj, rfl, e⟩ := mem_posUp.1 ha
    simp [inW] at h2
    refine ⟨j, z.toNat, by omega, e, by rw [Int.toNat_of_nonneg (by omega)]; exact hz, by omega, by omega⟩
  · rintro ⟨j, p, hj, e, hp, h1, h2⟩
    refine ⟨(j : Int), mem_posUp.2 ⟨j, by omega, rfl, e⟩, List.any_eq_true.2 ⟨(p : Int), hp, ?_⟩⟩
    simp [inW]
    omega
theorem tchs_l1 (s : ByteArray) (hs : s.size ≤ 160) (set : List Int) (hl : set.length ≤ 200) (n : Nat) (hn : n ≤ s.size) (l : List ByteArray) (hll : l.length ≤ 400) (hsz : ∀ t, t ∈ l → t.size = n) (r : ByteArray × Bool) : ∀ (m p : Nat), p + m = l.length →
    (findU s set n (l.drop p) = none → Evt (fun k => numnahref09_Touches.l0 k s set ((n + 1 : Nat) : Int)) r) → (∀ t, findU s set n (l.drop p) = some t → (t, false) = r) → Evt (fun k => numnahref09_Touches.l1 k s set (n : Int) l (p : Int)) r
  | 0, p, hp, h1, h2 => by
    have w1 : Aside0 (wrap64 ((n : Int) + 1) = ((n + 1 : Nat) : Int)) := ⟨(wr (by omega) (by omega)).trans (by omega)⟩
    refine Evt.step (fun k => ?_) (h1 (by rw [List.drop_eq_nil_of_le (by omega)]; rfl))
    rw [numnahref09_Touches.l1, if_neg (by omega), w1.out]
  | m + 1, p, hp, h1, h2 => by
    have hlt : p < l.length := by omega
    have w1 : Aside0 (wrap64 ((p : Int) + 1) = ((p + 1 : Nat) : Int)) := ⟨(wr (by omega) (by omega)).trans (by omega)⟩
    have e : rdOf ByteArray.empty l (p : Int) = l[p] := by simp [rdOf, hlt]
    have ht := touched_ev s l[p] n (by omega) hn (hsz _ (List.getElem_mem hlt)) set (by omega)
    rw [List.drop_eq_getElem_cons hlt, findU] at h1 h2
    refine Evt.step (g' := fun k => (numnahref09_touched.f k s l[p] set).bind fun t481 => (if t481 = true then (numnahref09_Touches.l1 k s set (n : Int) l ((p + 1 : Nat) : Int)) else (some (l[p], false)))) (fun k => ?_) (Evt.bind ht ?_)
    · rw [numnahref09_Touches.l1, if_pos (by omega), if_pos (by omega), e, w1.out]
    · by_cases c : (posS s n l[p]).any (tchP set n) = true
      · rw [if_pos c] at h1 h2
        exact Evt.pos c (tchs_l1 s hs set hl n hn l hll hsz r m (p + 1) (by omega) h1 h2)
      · rw [if_neg c] at h1 h2
        exact Evt.neg c (Evt.all (fun _ => by rw [h2 _ rfl]))
theorem tchs_l0 (s : ByteArray) (hs : s.size ≤ 160) (set : List Int) (hl : set.length ≤ 200) : ∀ (q n : Nat), n + q = s.size + 1 → Evt (fun k => numnahref09_Touches.l0 k s set (n : Int)) ((untF s set q n).1, !(untF s set q n).2)
  | 0, n, hq => by
    refine Evt.now fun k => ?_
    rw [numnahref09_Touches.l0, if_neg (by omega)]; rfl
  | q + 1, n, hq => by
    have ih := tchs_l0 s hs set hl q (n + 1) (by omega)
    have hlen := partsS_len s n
    have hsz : ∀ t, t ∈ partsS s n → t.size = n := by
      intro t ht
      obtain ⟨j, hj, rfl⟩ := mem_partsS.1 ht
      exact subAt_size s _ _ (by omega)
    refine Evt.step (g' := fun k => (numnahref09_parts.f k s (n : Int)).bind fun t477 => (numnahref09_Touches.l1 k s set (n : Int) t477 ((0 : Nat) : Int))) (fun k => by rw [numnahref09_Touches.l0, if_pos (by omega)]; rfl) (Evt.bind (parts_ev s n (by omega) (by omega)) ?_)
    refine tchs_l1 s hs set hl n (by omega) _ (by omega) hsz _ (partsS s n).length 0 (by omega) (fun h => ?_) (fun t h => ?_)
    · rw [List.drop_zero] at h
      rw [untF, h]; exact ih
    · rw [List.drop_zero] at h
      rw [untF, h]; rfl
theorem refTouches_ev (s : ByteArray) (hs : s.size ≤ 160) (set : List Int) (hl : set.length ≤ 200) : Evt (fun k => numnahref09_Touches.f k s set) ((tchR s set).1, (tchR s set).2.1) := tchs_l0 s hs set hl s.size 1 (by omega)

/-! ### Positions -/
theorem pos_step (s : ByteArray) (l : List Int) (hs : s.size ≤ 160) (hl : l.length ≤ 200) (i : Nat) (hi : i < l.length) (h : posAt s l i) (k : Nat) : numnahref09_Positions.l0 (k + 1) s l (i : Int) = numnahref09_Positions.l0 k s l ((i + 1 : Nat) : Int) := by
  obtain ⟨h1, h2, h3⟩ := h
  have w2 : Aside0 (wrap64 ((i : Int) + 1) = ((i + 1 : Nat) : Int)) := ⟨(wr (by omega) (by omega)).trans (by omega)⟩
  rw [numnahref09_Positions.l0, if_pos (by omega), if_pos (by omega), if_neg (by omega), if_neg (by omega)]
  by_cases c : (i : Int) > 0
  · have w4 : Aside0 (wrap64 ((i : Int) - 1) = ((i - 1 : Nat) : Int)) := ⟨(wr (by omega) (by omega)).trans (by omega)⟩
    have h4 := h3 (by omega)
    rw [if_pos c, w4.out, if_pos (by omega), if_pos (by omega), if_neg (by omega), w2.out]
  · rw [if_neg c, w2.out]
theorem pos_good (s : ByteArray) (l : List Int) (hs : s.size ≤ 160) (hl : l.length ≤ 200) : ∀ m i, i + m = l.length → (∀ j, i ≤ j → j < l.length → posAt s l j) → Evt (fun k => numnahref09_Positions.l0 k s l (i : Int)) true
  | 0, i, hi, h => by
    refine Evt.now fun k => ?_
    rw [numnahref09_Positions.l0, if_neg (by omega)]
  | m + 1, i, hi, h =>
    Evt.step (fun k => pos_step s l hs hl i (by omega) (h i (Nat.le_refl _) (by omega)) k) (pos_good s l hs hl m (i + 1) (by omega) (fun j h1 h2 => h j (by omega) h2))
theorem pos_bad (s : ByteArray) (l : List Int) (hs : s.size ≤ 160) (hl : l.length ≤ 200) : ∀ m i, i + m = l.length → (∃ j, i ≤ j ∧ j < l.length ∧ ¬ posAt s l j) → Evt (fun k => numnahref09_Positions.l0 k s l (i : Int)) false
  | 0, i, hi, ⟨j, h1, h2, _⟩ => by omega
  | m + 1, i, hi, h => by
    by_cases c : posAt s l i
    · obtain ⟨j, h1, h2, h3⟩ := h
      have : j ≠ i := fun e => h3 (e ▸ c)
      exact Evt.step (fun k => pos_step s l hs hl i (by omega) c k) (pos_bad s l hs hl m (i + 1) (by omega) ⟨j, by omega, h2, h3⟩)
    · refine Evt.now fun k => ?_
      rw [numnahref09_Positions.l0, if_pos (by omega), if_pos (by omega)]
      by_cases c1 : rd l (i : Int) < 0
      · rw [if_pos c1]
      · rw [if_neg c1]
        by_cases c2 : rd l (i : Int) ≥ (s.size : Int)
        · rw [if_pos c2]
        · rw [if_neg c2]
          by_cases c3 : (i : Int) > 0
          · have w4 : Aside0 (wrap64 ((i : Int) - 1) = ((i - 1 : Nat) : Int)) := ⟨(wr (by omega) (by omega)).trans (by omega)⟩
            have c4 : rd l ((i - 1 : Nat) : Int) ≥ rd l (i : Int) := by
              apply Decidable.byContradiction
              intro hn
              exact c ⟨by omega, by omega, fun _ => by omega⟩
            rw [if_pos c3, w4.out, if_pos (by omega), if_pos (by omega), if_pos c4]
          · exact absurd ⟨by omega, by omega, fun h => absurd h (by omega)⟩ c
end Go.Proofs.YtpeeflkodpnbpaaDoor.Pr

/- Fewest's list: it touches the word, and is the first one of the shortest lists of positions that do. -/
namespace Go.Proofs.YtpeeflkodpnbpaaDoor.Pr
open Go.RowKit Go.Proofs.YtpeeflkodpnbpaaDoorW.PrintWords Go.Proofs.YtpeeflkodpnbpaaDoorW.PrintLast Go.Proofs.YtpeeflkodpnbpaaDoorW.PrintMore
set_option linter.unusedVariables false
set_option linter.unusedSimpArgs false

/-- positions from frm to N - 1, ascending -/
def Asc (N : Nat) : Nat → List Int → Prop
  | _, [] => True
  | frm, x :: r => ∃ a : Nat, x = (a : Int) ∧ frm ≤ a ∧ a < N ∧ Asc N (a + 1) r
def Lx : List Int → List Int → Prop
  | x :: r, y :: r' => x < y ∨ (x = y ∧ Lx r r')
  | _, _ => False
theorem asc_mono {N : Nat} {a b : Nat} (h : a ≤ b) : ∀ {r : List Int}, Asc N b r → Asc N a r
  | [], _ => trivial
  | x :: r, ⟨c, h1, h2, h3, h4⟩ => ⟨c, h1, by omega, h3, h4⟩
theorem asc_len {N : Nat} : ∀ {r : List Int} {a : Nat}, Asc N a r → r = [] ∨ a + r.length ≤ N
  | [], _, _ => .inl rfl
  | x :: r, a, ⟨c, h1, h2, h3, h4⟩ => by
    refine .inr ?_
    rcases asc_len h4 with h | h
    · subst h; simp; omega
    · rw [List.length_cons]; omega
theorem asc_mem {N : Nat} : ∀ {r : List Int} {a : Nat}, Asc N a r → ∀ x, x ∈ r → ∃ c : Nat, x = (c : Int) ∧ a ≤ c ∧ c < N
  | y :: r, a, ⟨c, h1, h2, h3, h4⟩, x, hx => by
    rcases List.mem_cons.1 hx with rfl | hx
    · exact ⟨c, h1, h2, h3⟩
    · obtain ⟨d, d1, d2, d3⟩ := asc_mem h4 x hx
      exact ⟨d, d1, by omega, d3⟩
theorem asc_sorted {N : Nat} : ∀ {r : List Int} {a : Nat}, Asc N a r → r.Pairwise (fun x y => x < y)
  | [], _, _ => .nil
  | x :: r, a, ⟨c, h1, h2, h3, h4⟩ => List.pairwise_cons.2 ⟨fun y hy => by
      obtain ⟨d, d1, d2, d3⟩ := asc_mem h4 y hy
      omega, asc_sorted h4⟩
theorem asc_of {N : Nat} : ∀ {r : List Int} {a : Nat}, r.Pairwise (fun x y => x < y) → (∀ x, x ∈ r → (a : Int) ≤ x ∧ x < N) → Asc N a r
  | [], _, _, _ => trivial
  | x :: r, a, hp, h => by
    have hp2 := List.pairwise_cons.1 hp
    have hx := h x List.mem_cons_self
    refine ⟨x.toNat, by omega, by omega, by omega, asc_of hp2.2 (fun y hy => ?_)⟩
    have h1 := hp2.1 y hy
    have h2 := h y (List.mem_cons_of_mem _ hy)
    omega
def Found (s : ByteArray) (set : List Int) (l frm : Nat) (o : Bool × List Int) : Prop :=
  (o.1 = true → ∃ r, o.2 = set ++ r ∧ r.length = l ∧ Asc s.size frm r ∧ Tch s (set ++ r) ∧ ∀ r', r'.length = l → Asc s.size frm r' → Tch s (set ++ r') → r' = r ∨ Lx r r') ∧
  (o.1 = false → ∀ r', r'.length = l → Asc s.size frm r' → ¬ Tch s (set ++ r'))
theorem extLoop_found (s : ByteArray) (l : Nat) (hrec : ∀ set frm found, Found s set l frm (extF s l set frm found)) : ∀ q set at_ found, s.size ≤ at_ + q → Found s set (l + 1) at_ (extLoop s (extF s l) (l + 1) q set at_ found)
  | 0, set, at_, found, hq => by
    refine ⟨fun h => (by cases h), fun _ r' hl ha => ?_⟩
    cases r' with
    | nil => simp at hl
    | cons x r' => obtain ⟨a, h1, h2, h3, h4⟩ := ha; omega
  | q + 1, set, at_, found, hq => by
    rw [extLoop]
    by_cases c : at_ + (l + 1) ≤ s.size
    · rw [if_pos c]
      have h1 := hrec (set ++ [(at_ : Int)]) (at_ + 1) found
      generalize extF s l (set ++ [(at_ : Int)]) (at_ + 1) found = o at h1
      obtain ⟨b, f⟩ := o
      cases b with
      | true =>
        obtain ⟨r, r1, r2, r3, r4, r5⟩ := h1.1 rfl
        refine ⟨fun _ => ⟨(at_ : Int) :: r, ?_, by rw [List.length_cons, r2], ⟨at_, rfl, Nat.le_refl _, by omega, r3⟩, ?_, fun r' hl ha ht => ?_⟩, fun h => by cases h⟩
        · show f = _
          rw [show f = _ from r1, List.append_assoc]; rfl
        · rw [List.append_assoc] at r4; exact r4
        · cases r' with
          | nil => simp at hl
          | cons x r' =>
            obtain ⟨a, rfl, a2, a3, a4⟩ := ha
            by_cases e : a = at_
            · subst e
              rcases r5 r' (by simpa using hl) a4 (by rw [List.append_assoc]; exact ht) with e | e
              · exact .inl (by rw [e])
              · exact .inr (.inr ⟨rfl, e⟩)
            · exact .inr (.inl (by omega))
      | false =>
        obtain ⟨i1, i2⟩ := extLoop_found s l hrec q set (at_ + 1) f (by omega)
        have key : ∀ r' : List Int, r'.length = l + 1 → Asc s.size at_ r' → Tch s (set ++ r') → Asc s.size (at_ + 1) r' := by
          intro r' hl ha ht
          cases r' with
          | nil => simp at hl
          | cons x r' =>
            obtain ⟨a, rfl, a2, a3, a4⟩ := ha
            by_cases e : a = at_
            · subst e
              exact absurd (by rw [List.append_assoc]; exact ht) (h1.2 rfl r' (by simpa using hl) a4)
            · exact ⟨a, rfl, by omega, a3, a4⟩
        refine ⟨fun h => ?_, fun h r' hl ha ht => i2 h r' hl (key r' hl ha ht) ht⟩
        obtain ⟨r, r1, r2, r3, r4, r5⟩ := i1 h
        exact ⟨r, r1, r2, asc_mono (by omega) r3, r4, fun r' hl ha ht => r5 r' hl (key r' hl ha ht) ht⟩
    · rw [if_neg c]
      refine ⟨fun h => (by cases h), fun _ r' hl ha => ?_⟩
      rcases asc_len ha with e | e
      · subst e; simp at hl
      · omega
theorem extF_found (s : ByteArray) : ∀ l set frm found, Found s set l frm (extF s l set frm found)
  | 0, set, frm, found => by
    rw [extF]
    refine ⟨fun h => ⟨[], by simp, rfl, trivial, ?_, fun r' hl _ _ => .inl (List.length_eq_zero_iff.1 hl)⟩, fun h r' hl _ ht => ?_⟩
    · have h2 : (untF s set s.size 1).2 = false := by simpa using h
      rw [List.append_nil]
      exact (unt_tch s set).1 h2
    · have h2 : (untF s set s.size 1).2 = true := by simpa using h
      rw [List.length_eq_zero_iff.1 hl, List.append_nil, ← unt_tch, h2] at ht
      cases ht
  | l + 1, set, frm, found => by
    rw [extF]
    exact extLoop_found s l (extF_found s l) (s.size + 1) set frm found (by omega)
/-- all positions -/
def allP (N : Nat) : Nat → List Int
  | 0 => []
  | k + 1 => ((N - (k + 1) : Nat) : Int) :: allP N k
theorem allP_len (N : Nat) : ∀ k, (allP N k).length = k
  | 0 => rfl
  | k + 1 => by rw [allP, List.length_cons, allP_len N k]
theorem allP_asc (N : Nat) : ∀ k, k ≤ N → Asc N (N - k) (allP N k)
  | 0, _ => trivial
  | k + 1, h => ⟨N - (k + 1), rfl, Nat.le_refl _, by omega, by
      have := allP_asc N k (by omega)
      rwa [show N - (k + 1) + 1 = N - k by omega]⟩
theorem mem_allP (N : Nat) : ∀ k p, N - k ≤ p → p < N → k ≤ N → (p : Int) ∈ allP N k
  | 0, p, h1, h2, _ => by omega
  | k + 1, p, h1, h2, h3 => by
    rw [allP]
    by_cases e : p = N - (k + 1)
    · rw [e]; exact List.mem_cons_self
    · exact List.mem_cons_of_mem _ (mem_allP N k p (by omega) h2 (by omega))
theorem all_tch (s : ByteArray) : Tch s (allP s.size s.size) := fun k j hk hj => ⟨j, j, hj, rfl, mem_allP _ _ _ (by omega) (by omega) (Nat.le_refl _), Nat.le_refl _, by omega⟩
/-- the first one of the shortest lists -/
def IsFew (s : ByteArray) (f : List Int) : Prop := Tch s f ∧ Asc s.size 0 f ∧ ∀ r, Asc s.size 0 r → Tch s r → f.length < r.length ∨ (f.length = r.length ∧ (r = f ∨ Lx f r))
theorem fewL_is (s : ByteArray) : ∀ q many found, many + q = s.size + 1 → (∀ r, r.length < many → Asc s.size 0 r → ¬ Tch s r) → IsFew s (fewL s q many found)
  | 0, many, found, hq, h => by
    exact absurd (all_tch s) (h _ (by rw [allP_len]; omega) (by have := allP_asc s.size s.size (Nat.le_refl _); rwa [Nat.sub_self] at this))
  | q + 1, many, found, hq, h => by
    rw [fewL]
    have h1 := extF_found s many [] 0 found
    generalize extF s many [] 0 found = o at h1
    obtain ⟨b, f⟩ := o
    cases b with
    | true =>
      obtain ⟨r, r1, r2, r3, r4, r5⟩ := h1.1 rfl
      have e : f = r := r1
      subst e
      refine ⟨r4, r3, fun r' ha ht => ?_⟩
      by_cases c : r'.length < many
      · exact absurd ht (h r' c ha)
      · by_cases c2 : r'.length = many
        · exact .inr ⟨by rw [r2, c2], r5 r' c2 ha ht⟩
        · exact .inl (by rw [r2]; omega)
    | false =>
      exact fewL_is s q (many + 1) f (by omega) (fun r hl ha => by
        by_cases c : r.length < many
        · exact h r c ha
        · exact h1.2 rfl r (by omega) ha)
theorem few_is (s : ByteArray) : IsFew s (fewL s (s.size + 1) 0 []) := fewL_is s (s.size + 1) 0 [] (by omega) (fun r h => by omega)
end Go.Proofs.YtpeeflkodpnbpaaDoor.Pr

/- Sets of positions as the bits of a number. -/
namespace Go.Proofs.YtpeeflkodpnbpaaDoor.Pr
open Go.RowKit Go.Proofs.YtpeeflkodpnbpaaDoorW.PrintWords Go.Proofs.YtpeeflkodpnbpaaDoorW.PrintLast Go.Proofs.YtpeeflkodpnbpaaDoorW.PrintMore
set_option linter.unusedVariables false
set_option linter.unusedSimpArgs false

theorem bits_and (a b : Nat) (ha : a < 2 ^ 62) (hb : b < 2 ^ 62) : Go.bits .and .i64 (a : Int) (b : Int) = ((a &&& b : Nat) : Int) := by
  have h1 : (BitVec.ofInt 64 (a : Int)).toNat = a := by rw [BitVec.ofInt_natCast, BitVec.toNat_ofNat]; omega
  have h2 : (BitVec.ofInt 64 (b : Int)).toNat = b := by rw [BitVec.ofInt_natCast, BitVec.toNat_ofNat]; omega
  have h3 : a &&& b ≤ a := Nat.and_le_left
  show IntKind.i64.wrap (((BitVec.ofInt 64 (a : Int)) &&& (BitVec.ofInt 64 (b : Int))).toNat : Int) = _
  rw [BitVec.toNat_and, h1, h2, i64_w]
  exact wr (by omega) (by omega)
theorem shl_one (p : Nat) (hp : p ≤ 60) : shl .i64 1 (p : Int) = ((2 ^ p : Nat) : Int) := by
  unfold shl
  have h : 2 ^ p ≤ 2 ^ 60 := Nat.pow_le_pow_right (by omega) hp
  have e : min (p : Int).toNat IntKind.i64.bits = p := by
    show min (p : Int).toNat 64 = p
    omega
  rw [e, Int.one_mul, i64_w, show (2 : Int) ^ p = ((2 ^ p : Nat) : Int) by rw [Int.natCast_pow]; rfl]
  generalize 2 ^ p = Q at *
  exact wr (by omega) (by omega)
theorem shr_bit (m p : Nat) (hp : p ≤ 60) : (Int.tmod (shr .i64 (m : Int) (p : Int)) 2 = 1) ↔ m.testBit p = true := by
  unfold shr
  have e : min (p : Int).toNat IntKind.i64.bits = p := by
    show min (p : Int).toNat 64 = p
    omega
  rw [e, show (2 : Int) ^ p = ((2 ^ p : Nat) : Int) by rw [Int.natCast_pow]; rfl]
  rw [Nat.testBit_eq_decide_div_mod_eq, decide_eq_true_iff]
  have h1 : (m : Int) / ((2 ^ p : Nat) : Int) = ((m / 2 ^ p : Nat) : Int) := (Int.natCast_ediv _ _).symm
  rw [h1]
  generalize m / 2 ^ p = Q
  rw [Int.tmod_eq_emod_of_nonneg (by omega)]
  omega
/-- the number with the bits that f tells -/
def maskUp (f : Nat → Bool) : Nat → Nat
  | 0 => 0
  | k + 1 => if f k = true then 2 ^ k + maskUp f k else maskUp f k
theorem maskUp_lt (f : Nat → Bool) : ∀ k, maskUp f k < 2 ^ k
  | 0 => by simp [maskUp]
  | k + 1 => by
    have := maskUp_lt f k
    rw [maskUp, Nat.pow_succ]
    split <;> omega
theorem maskUp_bit (f : Nat → Bool) : ∀ k p, (maskUp f k).testBit p = (decide (p < k) && f p)
  | 0, p => by simp [maskUp]
  | k + 1, p => by
    have ih := maskUp_bit f k
    have hl := maskUp_lt f k
    rw [maskUp]
    by_cases c : f k = true
    · rw [if_pos c]
      by_cases h1 : p < k
      · rw [Nat.testBit_two_pow_add_gt h1, ih]
        simp [h1, show p < k + 1 by omega]
      · by_cases h2 : p = k
        · subst h2
          rw [Nat.testBit_two_pow_add_eq, ih]
          simp [c]
        · rw [Nat.testBit_lt_two_pow]
          · simp [show ¬ p < k + 1 by omega]
          · have h3 : 2 ^ (k + 1) ≤ 2 ^ p := Nat.pow_le_pow_right (by omega) (by omega)
            rw [Nat.pow_succ] at h3
            omega
    · rw [if_neg c, ih]
      by_cases h2 : p = k
      · subst h2; simp [c]
      · by_cases h1 : p < k
        · simp [h1, show p < k + 1 by omega]
        · simp [h1, show ¬ p < k + 1 by omega]
/-- the positions below k that are bits -/
def lstUp (m : Nat) : Nat → List Int
  | 0 => []
  | k + 1 => if m.testBit k = true then lstUp m k ++ [(k : Int)] else lstUp m k
theorem mem_lstUp (m : Nat) (x : Int) : ∀ k, x ∈ lstUp m k ↔ ∃ p : Nat, x = p ∧ p < k ∧ m.testBit p = true
  | 0 => by simp [lstUp]
  | k + 1 => by
    have ih := mem_lstUp m x k
    rw [lstUp]
    by_cases c : m.testBit k = true
    · rw [if_pos c, List.mem_append, List.mem_singleton, ih]
      constructor
      · rintro (⟨p, h1, h2, h3⟩ | h)
        · exact ⟨p, h1, by omega, h3⟩
        · exact ⟨k, h, by omega, c⟩
      · rintro ⟨p, h1, h2, h3⟩
        by_cases e : p = k
        · subst e; exact .inr h1
        · exact .inl ⟨p, h1, by omega, h3⟩
    · rw [if_neg c, ih]
      constructor
      · rintro ⟨p, h1, h2, h3⟩; exact ⟨p, h1, by omega, h3⟩
      · rintro ⟨p, h1, h2, h3⟩
        have : p ≠ k := fun e => c (e ▸ h3)
        exact ⟨p, h1, by omega, h3⟩
theorem lstUp_sorted (m : Nat) : ∀ k, (lstUp m k).Pairwise (fun x y => x < y)
  | 0 => .nil
  | k + 1 => by
    rw [lstUp]
    split
    · refine List.pairwise_append.2 ⟨lstUp_sorted m k, List.pairwise_singleton _ _, fun a ha b hb => ?_⟩
      obtain ⟨p, h1, h2, _⟩ := (mem_lstUp m a k).1 ha
      rw [List.mem_singleton] at hb
      omega
    · exact lstUp_sorted m k
theorem lstUp_len (m : Nat) : ∀ k, (lstUp m k).length ≤ k
  | 0 => by simp [lstUp]
  | k + 1 => by
    have := lstUp_len m k
    rw [lstUp]
    split
    · rw [List.length_append, List.length_singleton]; omega
    · omega
theorem lstUp_asc (m N : Nat) : Asc N 0 (lstUp m N) := asc_of (lstUp_sorted m N) (fun x hx => by
  obtain ⟨p, h1, h2, _⟩ := (mem_lstUp m x N).1 hx
  omega)
theorem asc_ext {N : Nat} : ∀ {r r' : List Int} {a a' : Nat}, Asc N a r → Asc N a' r' → (∀ x, x ∈ r ↔ x ∈ r') → r = r'
  | [], [], _, _, _, _, _ => rfl
  | [], y :: t', _, _, _, _, h => absurd ((h y).2 List.mem_cons_self) (by simp)
  | x :: t, [], _, _, _, _, h => absurd ((h x).1 List.mem_cons_self) (by simp)
  | x :: t, y :: t', a, a', h1, h2, h => by
    have s1 := List.pairwise_cons.1 (asc_sorted h1)
    have s2 := List.pairwise_cons.1 (asc_sorted h2)
    have e : x = y := by
      rcases List.mem_cons.1 ((h x).1 List.mem_cons_self) with e | e
      · exact e
      · rcases List.mem_cons.1 ((h y).2 List.mem_cons_self) with e2 | e2
        · exact e2.symm
        · have := s1.1 y e2
          have := s2.1 x e
          omega
    subst e
    obtain ⟨c, _, _, _, k1⟩ := h1
    obtain ⟨c', _, _, _, k2⟩ := h2
    congr 1
    refine asc_ext k1 k2 (fun z => ?_)
    constructor
    · intro hz
      rcases List.mem_cons.1 ((h z).1 (List.mem_cons_of_mem _ hz)) with e | e
      · have := s1.1 z hz; omega
      · exact e
    · intro hz
      rcases List.mem_cons.1 ((h z).2 (List.mem_cons_of_mem _ hz)) with e | e
      · have := s2.1 z hz; omega
      · exact e
/-- each list of positions is the list of the bits of a number -/
theorem asc_lst {N : Nat} {r : List Int} (h : Asc N 0 r) : lstUp (maskUp (fun p => memI (p : Int) r) N) N = r := by
  refine asc_ext (lstUp_asc _ N) h (fun x => ?_)
  rw [mem_lstUp]
  constructor
  · rintro ⟨p, rfl, h1, h2⟩
    rw [maskUp_bit] at h2
    simp [h1] at h2
    exact memI_iff.1 h2
  · intro hx
    obtain ⟨c, rfl, _, h3⟩ := asc_mem h x hx
    refine ⟨c, rfl, h3, ?_⟩
    rw [maskUp_bit]
    simp [h3, memI_iff.2 hx]
theorem and_ne (a b N : Nat) (hb : b < 2 ^ N) : (a &&& b) ≠ 0 ↔ ∃ p, p < N ∧ a.testBit p = true ∧ b.testBit p = true := by
  constructor
  · intro h
    obtain ⟨i, hi⟩ := Nat.exists_testBit_of_ne_zero h
    rw [Nat.testBit_and, Bool.and_eq_true] at hi
    refine ⟨i, ?_, hi.1, hi.2⟩
    apply Decidable.byContradiction
    intro hn
    have : b < 2 ^ i := Nat.lt_of_lt_of_le hb (Nat.pow_le_pow_right (by omega) (by omega))
    rw [Nat.testBit_lt_two_pow this] at hi
    exact absurd hi.2 (by decide)
  · rintro ⟨p, _, h1, h2⟩ e
    have : (a &&& b).testBit p = true := by rw [Nat.testBit_and, h1, h2]; rfl
    rw [e, Nat.zero_testBit] at this
    cases this
end Go.Proofs.YtpeeflkodpnbpaaDoor.Pr

/- The reference of Fewest, plainly: it is Fewest's list. -/
namespace Go.Proofs.YtpeeflkodpnbpaaDoor.Pr
open Go.RowKit Go.Proofs.YtpeeflkodpnbpaaDoorW.PrintWords Go.Proofs.YtpeeflkodpnbpaaDoorW.PrintLast Go.Proofs.YtpeeflkodpnbpaaDoorW.PrintMore
set_option linter.unusedVariables false
set_option linter.unusedSimpArgs false

/-! ### the order of lists -/
def lxB : List Int → List Int → Bool
  | x :: r, y :: r' => if x = y then lxB r r' else decide (x < y)
  | _, _ => false
def befB (a b : List Int) : Bool := if a.length = b.length then lxB a b else decide (a.length < b.length)
theorem lxB_iff : ∀ a b : List Int, lxB a b = true ↔ Lx a b
  | [], _ => by simp [lxB, Lx]
  | x :: r, [] => by simp [lxB, Lx]
  | x :: r, y :: r' => by
    rw [lxB, Lx]
    by_cases e : x = y
    · rw [if_pos e, lxB_iff r r']
      constructor
      · intro h; exact .inr ⟨e, h⟩
      · rintro (h | h)
        · omega
        · exact h.2
    · rw [if_neg e, decide_eq_true_iff]
      constructor
      · intro h; exact .inl h
      · rintro (h | h)
        · exact h
        · exact absurd h.1 e
theorem befB_iff (a b : List Int) : befB a b = true ↔ (a.length < b.length ∨ (a.length = b.length ∧ Lx a b)) := by
  unfold befB
  by_cases e : a.length = b.length
  · rw [if_pos e, lxB_iff]
    constructor
    · intro h; exact .inr ⟨e, h⟩
    · rintro (h | h)
      · omega
      · exact h.2
  · rw [if_neg e, decide_eq_true_iff]
    constructor
    · intro h; exact .inl h
    · rintro (h | h)
      · exact h
      · exact absurd h.1 e
theorem lx_trans : ∀ {a b c : List Int}, Lx a b → Lx b c → Lx a c
  | x :: r, y :: r', z :: r'', h, k => by
    rw [Lx] at h k ⊢
    rcases h with h | h <;> rcases k with k | k
    · exact .inl (by omega)
    · exact .inl (by omega)
    · exact .inl (by omega)
    · exact .inr ⟨by omega, lx_trans h.2 k.2⟩
  | [], _, _, h, _ => by simp [Lx] at h
  | _ :: _, [], _, h, _ => by simp [Lx] at h
  | _ :: _, _ :: _, [], _, k => by simp [Lx] at k
theorem lx_irrefl : ∀ {a : List Int}, ¬ Lx a a
  | [], h => by simp [Lx] at h
  | x :: r, h => by
    rw [Lx] at h
    rcases h with h | h
    · omega
    · exact lx_irrefl h.2
theorem bef_trans {a b c : List Int} (h : befB a b = true) (k : befB b c = true) : befB a c = true := by
  rw [befB_iff] at *
  rcases h with h | h <;> rcases k with k | k
  · exact .inl (by omega)
  · exact .inl (by omega)
  · exact .inl (by omega)
  · exact .inr ⟨by omega, lx_trans h.2 k.2⟩
theorem before_ev (a b : List Int) (ha : a.length ≤ 1000) (hb : b.length ≤ 1000) : Evt (fun k => numnahref09_before.f k a b) (befB a b) := by
  unfold befB
  by_cases e : a.length = b.length
  · rw [if_pos e]
    have : ∀ (m i : Nat), i + m = a.length → Evt (fun k => numnahref09_before.l0 k a b (i : Int)) (lxB (a.drop i) (b.drop i)) := by
      intro m
      induction m with
      | zero =>
        intro i hi
        rw [List.drop_eq_nil_of_le (by omega), List.drop_eq_nil_of_le (by omega)]
        refine Evt.step (g' := fun k => numnahref09_before.j1 k a b (i : Int) false) (fun k => by rw [numnahref09_before.l0, if_neg (by omega)]) (Evt.now fun k => ?_)
        rw [numnahref09_before.j1, if_neg (by decide), decide_eq_false (by omega)]; rfl
      | succ m ih =>
        intro i hi
        have h1 : i < a.length := by omega
        have h2 : i < b.length := by omega
        have e1 := rd_at a i h1
        have e2 := rd_at b i h2
        have w1 : Aside0 (wrap64 ((i : Int) + 1) = ((i + 1 : Nat) : Int)) := ⟨(wr (by omega) (by omega)).trans (by omega)⟩
        rw [List.drop_eq_getElem_cons h1, List.drop_eq_getElem_cons h2, lxB]
        refine Evt.step (g' := fun k => numnahref09_before.j1 k a b (i : Int) true) (fun k => by rw [numnahref09_before.l0, if_pos (by omega), show ((a.length : Int) == (b.length : Int)) = true from beq_iff_eq.2 (by omega)]) ?_
        by_cases c : a[i] = b[i]
        · rw [if_pos c]
          refine Evt.step (fun k => ?_) (ih (i + 1) (by omega))
          rw [numnahref09_before.j1, if_pos rfl, if_pos (by omega), if_pos (by omega), if_pos (by omega), e1, e2, if_pos c, w1.out]
        · rw [if_neg c]
          refine Evt.now fun k => ?_
          rw [numnahref09_before.j1, if_pos rfl, if_pos (by omega), if_pos (by omega), if_pos (by omega), e1, e2, if_neg c]
    have := this a.length 0 (by omega)
    rwa [List.drop_zero, List.drop_zero] at this
  · rw [if_neg e]
    have hf : ((a.length : Int) == (b.length : Int)) = false := beq_eq_false_iff_ne.2 (by omega)
    have fin : Evt (fun k => numnahref09_before.j1 k a b 0 false) (decide (a.length < b.length)) := by
      refine Evt.now fun k => ?_
      rw [numnahref09_before.j1, if_neg (by decide)]
      by_cases c : a.length < b.length
      · rw [decide_eq_true c, decide_eq_true (by omega)]
      · rw [decide_eq_false c, decide_eq_false (by omega)]
    refine Evt.step (g' := fun k => numnahref09_before.j1 k a b 0 false) (fun k => ?_) fin
    show numnahref09_before.l0 (k + 1) a b 0 = _
    rw [numnahref09_before.l0]
    by_cases c : (0 : Int) < (a.length : Int)
    · rw [if_pos c, hf]
    · rw [if_neg c]

/-! ### what each substring needs -/
def touP (s : ByteArray) (n : Nat) (t : ByteArray) (p : Nat) : Bool := (posS s n t).any (tchP [(p : Int)] n)
def needN (s : ByteArray) : Nat → Nat → List Nat
  | 0, _ => []
  | q + 1, n => (partsS s n).map (fun t => maskUp (touP s n t) s.size) ++ needN s q (n + 1)
def toI (l : List Nat) : List Int := l.map (fun a : Nat => (a : Int))
theorem mem_needN (s : ByteArray) (a : Nat) : ∀ q n, a ∈ needN s q n ↔ ∃ k t, n ≤ k ∧ k < n + q ∧ t ∈ partsS s k ∧ a = maskUp (touP s k t) s.size
  | 0, n => by
    simp [needN]
    intro k h1 t h2
    omega
  | q + 1, n => by
    rw [needN, List.mem_append, mem_needN s a q (n + 1), List.mem_map]
    constructor
    · rintro (⟨t, h1, h2⟩ | ⟨k, t, h1, h2, h3, h4⟩)
      · exact ⟨n, t, by omega, by omega, h1, h2.symm⟩
      · exact ⟨k, t, by omega, by omega, h3, h4⟩
    · rintro ⟨k, t, h1, h2, h3, h4⟩
      by_cases e : k = n
      · subst e; exact .inl ⟨t, h3, h4.symm⟩
      · exact .inr ⟨k, t, by omega, by omega, h3, h4⟩
def allB (s : ByteArray) (m : Nat) : Bool := (needN s s.size 1).all (fun a => decide ((a &&& m) ≠ 0))
theorem allB_iff (s : ByteArray) (m : Nat) (hm : m < 2 ^ s.size) : allB s m = true ↔ Tch s (lstUp m s.size) := by
  unfold allB
  rw [List.all_eq_true]
  constructor
  · intro h k j hk hj
    have h1 := h (maskUp (touP s k (subAt s k j)) s.size) ((mem_needN s _ _ _).2 ⟨k, subAt s k j, hk, by omega, mem_parts.2 ⟨j, hj, rfl⟩, rfl⟩)
    rw [decide_eq_true_iff, and_ne _ _ s.size hm] at h1
    obtain ⟨p, p1, p2, p3⟩ := h1
    rw [maskUp_bit, Bool.and_eq_true] at p2
    obtain ⟨j', p', g1, g2, g3, g4, g5⟩ := (tch_any s [(p : Int)] k _).1 p2.2
    rw [List.mem_singleton] at g3
    have : p' = p := by omega
    subst this
    exact ⟨j', p', g1, g2, (mem_lstUp m _ _).2 ⟨p', rfl, p1, p3⟩, g4, g5⟩
  · intro h a ha
    obtain ⟨k, t, h1, h2, h3, rfl⟩ := (mem_needN s a _ _).1 ha
    obtain ⟨j, hj, rfl⟩ := mem_parts.1 h3
    obtain ⟨j', p, g1, g2, g3, g4, g5⟩ := h k j h1 hj
    obtain ⟨p', e, p1, p3⟩ := (mem_lstUp m _ _).1 g3
    have : p' = p := by omega
    subst this
    rw [decide_eq_true_iff, and_ne _ _ s.size hm]
    refine ⟨p', p1, ?_, p3⟩
    rw [maskUp_bit, Bool.and_eq_true]
    exact ⟨by simpa using p1, (tch_any s _ k _).2 ⟨j', p', g1, g2, by simp, g4, g5⟩⟩

/-! ### the best one -/
def bestF (s : ByteArray) : Nat → List Int × Bool
  | 0 => ([], false)
  | m + 1 => if allB s m = true then (if (bestF s m).2 = true then (if befB (lstUp m s.size) (bestF s m).1 = true then (lstUp m s.size, true) else bestF s m) else (lstUp m s.size, true)) else bestF s m
theorem bestF_spec (s : ByteArray) : ∀ M, ((bestF s M).2 = false → ∀ m, m < M → allB s m = false) ∧ ((bestF s M).2 = true → (∃ m, m < M ∧ allB s m = true ∧ (bestF s M).1 = lstUp m s.size) ∧ ∀ m, m < M → allB s m = true → befB (lstUp m s.size) (bestF s M).1 = false)
  | 0 => ⟨fun _ m h => by omega, fun h => by cases h⟩
  | M + 1 => by
    obtain ⟨i1, i2⟩ := bestF_spec s M
    have irr : ∀ l : List Int, befB l l = false := by
      intro l
      cases h : befB l l with
      | false => rfl
      | true =>
        rcases (befB_iff l l).1 h with h | h
        · omega
        · exact (lx_irrefl h.2).elim
    rw [bestF]
    by_cases c : allB s M = true
    · rw [if_pos c]
      by_cases c2 : (bestF s M).2 = true
      · rw [if_pos c2]
        obtain ⟨⟨m0, m1, m2, m3⟩, h4⟩ := i2 c2
        by_cases c3 : befB (lstUp M s.size) (bestF s M).1 = true
        · rw [if_pos c3]
          refine ⟨fun h => (by cases h), fun _ => ⟨⟨M, by omega, c, rfl⟩, fun m hm ha => ?_⟩⟩
          by_cases e : m = M
          · subst e; exact irr _
          · cases hb : befB (lstUp m s.size) (lstUp M s.size) with
            | false => rfl
            | true =>
              have := bef_trans hb c3
              rw [h4 m (by omega) ha] at this
              cases this
        · rw [if_neg c3]
          refine ⟨fun h => (by rw [c2] at h; cases h), fun _ => ⟨⟨m0, by omega, m2, m3⟩, fun m hm ha => ?_⟩⟩
          by_cases e : m = M
          · subst e; simpa using c3
          · exact h4 m (by omega) ha
      · rw [if_neg c2]
        refine ⟨fun h => (by cases h), fun _ => ⟨⟨M, by omega, c, rfl⟩, fun m hm ha => ?_⟩⟩
        by_cases e : m = M
        · subst e; exact irr _
        · have := i1 (by simpa using c2) m (by omega)
          rw [ha] at this; cases this
    · rw [if_neg c]
      refine ⟨fun h m hm => ?_, fun h => ?_⟩
      · by_cases e : m = M
        · subst e; simpa using c
        · exact i1 h m (by omega)
      · obtain ⟨⟨m0, m1, m2, m3⟩, h4⟩ := i2 h
        refine ⟨⟨m0, by omega, m2, m3⟩, fun m hm ha => ?_⟩
        by_cases e : m = M
        · subst e; exact absurd ha c
        · exact h4 m (by omega) ha
theorem bestF_few (s : ByteArray) (f : List Int) (h : IsFew s f) : (bestF s (2 ^ s.size)).1 = f := by
  obtain ⟨h1, h2, h3⟩ := h
  have hm := maskUp_lt (fun p => memI (p : Int) f) s.size
  have he := asc_lst h2
  generalize maskUp (fun p => memI (p : Int) f) s.size = mf at *
  have ha : allB s mf = true := (allB_iff s mf hm).2 (by rw [he]; exact h1)
  obtain ⟨i1, i2⟩ := bestF_spec s (2 ^ s.size)
  cases hb : (bestF s (2 ^ s.size)).2 with
  | false =>
    have := i1 hb mf hm
    rw [ha] at this; cases this
  | true =>
    obtain ⟨⟨m0, m1, m2, m3⟩, h4⟩ := i2 hb
    have h5 := h4 mf hm ha
    rw [he, m3] at h5
    rw [m3]
    rcases h3 (lstUp m0 s.size) (lstUp_asc _ _) ((allB_iff s m0 m1).1 m2) with h | ⟨hq, h | h⟩
    · rw [(befB_iff _ _).2 (.inl h)] at h5; cases h5
    · exact h
    · rw [(befB_iff _ _).2 (.inr ⟨hq, h⟩)] at h5; cases h5

/-! ### the loops -/
section
variable (s : ByteArray) (hs : s.size ≤ 14)
include hs
theorem few_l5 (nd best : List Int) (fnd : Bool) (m : Nat) (r : List Int) (hb : best.length ≤ 14)
    (h : Evt (fun k => numnahref09_Fewest.l3 k s nd (if fnd = true then (if befB (lstUp m s.size) best = true then lstUp m s.size else best) else lstUp m s.size) true (wrap64 ((m : Int) + 1))) r) :
    ∀ (q p : Nat), p + q = s.size → Evt (fun k => numnahref09_Fewest.l5 k s nd best fnd (m : Int) (lstUp m p) (p : Int)) r
  | 0, p, hp => by
    obtain rfl : p = s.size := by omega
    have hl := lstUp_len m s.size
    cases fnd with
    | false =>
      refine Evt.step (fun k => ?_) h
      rw [numnahref09_Fewest.l5, if_neg (by omega), if_neg (by decide), if_neg (by decide)]
    | true =>
      rw [if_pos rfl] at h
      refine Evt.step (g' := fun k => (numnahref09_before.f k (lstUp m s.size) best).bind fun t502 => (if t502 = true then (numnahref09_Fewest.l3 k s nd (lstUp m s.size) true (wrap64 ((m : Int) + 1))) else (numnahref09_Fewest.l3 k s nd best true (wrap64 ((m : Int) + 1))))) (fun k => by rw [numnahref09_Fewest.l5, if_neg (by omega), if_pos rfl]) (Evt.bind (before_ev _ _ (by omega) (by omega)) ?_)
      by_cases c : befB (lstUp m s.size) best = true
      · rw [if_pos c] at h; exact Evt.pos c h
      · rw [if_neg c] at h; exact Evt.neg c h
  | q + 1, p, hp => by
    have ih := few_l5 nd best fnd m r hb h q (p + 1) (by omega)
    have hl := lstUp_len m p
    have w1 : Aside0 (wrap64 ((p : Int) + 1) = ((p + 1 : Nat) : Int)) := ⟨(wr (by omega) (by omega)).trans (by omega)⟩
    rw [lstUp] at ih
    by_cases c : m.testBit p = true
    · rw [if_pos c] at ih
      refine Evt.step (fun k => ?_) ih
      rw [numnahref09_Fewest.l5, if_pos (by omega), if_pos (by omega), if_pos ((shr_bit m p (by omega)).2 c), if_pos (by omega), w1.out]
    · rw [if_neg c] at ih
      refine Evt.step (fun k => ?_) ih
      rw [numnahref09_Fewest.l5, if_pos (by omega), if_pos (by omega), if_neg (fun hh => c ((shr_bit m p (by omega)).1 hh)), w1.out]
omit hs in
theorem few_l4 (nd : List Nat) (best : List Int) (fnd : Bool) (m : Nat) (hnd : nd.length ≤ 1000) (hlt : ∀ a, a ∈ nd → a < 2 ^ 62) (hm : m < 2 ^ 62) (r : List Int) : ∀ (q i : Nat) (b : Bool), i + q = nd.length →
    Evt (fun k => numnahref09_Fewest.j5 k s (toI nd) best fnd (m : Int) (b && (nd.drop i).all (fun a => decide ((a &&& m) ≠ 0)))) r → Evt (fun k => numnahref09_Fewest.l4 k s (toI nd) best fnd (m : Int) b (i : Int)) r
  | 0, i, b, hi, h => by
    have hz : (toI nd).length = nd.length := by simp [toI]
    rw [List.drop_eq_nil_of_le (by omega), List.all_nil, Bool.and_true] at h
    refine Evt.step (fun k => ?_) h
    rw [numnahref09_Fewest.l4, if_neg (by omega)]
  | q + 1, i, b, hi, h => by
    have hz : (toI nd).length = nd.length := by simp [toI]
    have hl : i < nd.length := by omega
    have w1 : Aside0 (wrap64 ((i : Int) + 1) = ((i + 1 : Nat) : Int)) := ⟨(wr (by omega) (by omega)).trans (by omega)⟩
    cases b with
    | false =>
      rw [Bool.false_and] at h
      refine Evt.step (fun k => ?_) h
      rw [numnahref09_Fewest.l4, if_pos (by omega), if_neg (by decide)]
    | true =>
      have e : rd (toI nd) (i : Int) = ((nd[i] : Nat) : Int) := by
        rw [rd_at _ i (by omega)]; simp [toI]
      have e2 := bits_and nd[i] m (hlt _ (List.getElem_mem hl)) hm
      have e3 : (((nd[i] &&& m : Nat) : Int) != 0) = decide ((nd[i] &&& m) ≠ 0) := by
        by_cases c : (nd[i] &&& m) = 0
        · rw [c]; rfl
        · rw [decide_eq_true c]; exact bne_iff_ne.2 (by omega)
      rw [List.drop_eq_getElem_cons hl, List.all_cons, Bool.true_and] at h
      refine Evt.step (fun k => ?_) (few_l4 nd best fnd m hnd hlt hm r q (i + 1) _ (by omega) h)
      rw [numnahref09_Fewest.l4, if_pos (by omega), if_pos rfl, if_pos (by omega), e, e2, e3, w1.out]
theorem few_l3 (hnd : (needN s s.size 1).length ≤ 1000) : ∀ (q m : Nat), m + q = 2 ^ s.size → Evt (fun k => numnahref09_Fewest.l3 k s (toI (needN s s.size 1)) (bestF s m).1 (bestF s m).2 (m : Int)) (bestF s (2 ^ s.size)).1 := by
  have hp : 2 ^ s.size ≤ 2 ^ 14 := Nat.pow_le_pow_right (by omega) hs
  have hsh := shl_one s.size (by omega)
  intro q
  induction q with
  | zero =>
    intro m hm
    refine Evt.now fun k => ?_
    rw [numnahref09_Fewest.l3, hsh, if_neg (by omega), show m = 2 ^ s.size by omega]
  | succ q ih =>
    intro m hm
    have ih2 := ih (m + 1) (by omega)
    have w1 : wrap64 ((m : Int) + 1) = ((m + 1 : Nat) : Int) := by
      have h14 : (2 : Nat) ^ 14 = 16384 := rfl
      exact (wr (by omega) (by omega)).trans (by omega)
    have hbl : (bestF s m).1.length ≤ 14 := by
      cases hb : (bestF s m).2 with
      | false =>
        have : ∀ m, (bestF s m).2 = false → (bestF s m).1 = [] := by
          intro m
          induction m with
          | zero => intro _; rfl
          | succ m ihm =>
            intro h
            rw [bestF] at h ⊢
            split at h
            · split at h
              · split at h
                · cases h
                · rename_i a b c; rw [h] at b; cases b
              · cases h
            · rename_i a
              rw [if_neg a]
              exact ihm h
        rw [this m hb]; simp
      | true =>
        obtain ⟨⟨m0, _, _, h0⟩, _⟩ := (bestF_spec s m).2 hb
        have := lstUp_len m0 s.size
        rw [h0]; omega
    have hlt : ∀ a, a ∈ needN s s.size 1 → a < 2 ^ 62 := by
      intro a ha
      obtain ⟨k, t, _, _, _, rfl⟩ := (mem_needN s a _ _).1 ha
      have := maskUp_lt (touP s k t) s.size
      have h62 : (2 : Nat) ^ 14 ≤ 2 ^ 62 := by decide
      omega
    have hm62 : m < 2 ^ 62 := by
      have h62 : (2 : Nat) ^ 14 ≤ 2 ^ 62 := by decide
      omega
    rw [bestF] at ih2
    refine Evt.step (g' := fun k => numnahref09_Fewest.l4 k s (toI (needN s s.size 1)) (bestF s m).1 (bestF s m).2 (m : Int) true ((0 : Nat) : Int)) (fun k => by rw [numnahref09_Fewest.l3, hsh, if_pos (by omega)]; rfl) ?_
    refine few_l4 s (needN s s.size 1) _ _ m hnd hlt hm62 _ (needN s s.size 1).length 0 true (by omega) ?_
    rw [List.drop_zero, Bool.true_and]
    show Evt (fun k => numnahref09_Fewest.j5 k s (toI (needN s s.size 1)) (bestF s m).1 (bestF s m).2 (m : Int) (allB s m)) _
    by_cases c : allB s m = true
    · rw [if_pos c] at ih2
      rw [c]
      refine Evt.step (g' := fun k => numnahref09_Fewest.l5 k s (toI (needN s s.size 1)) (bestF s m).1 (bestF s m).2 (m : Int) (lstUp m 0) ((0 : Nat) : Int)) (fun k => by rw [numnahref09_Fewest.j5, if_pos rfl]; rfl) ?_
      refine few_l5 s hs (toI (needN s s.size 1)) (bestF s m).1 (bestF s m).2 m _ hbl ?_ s.size 0 (by omega)
      rw [w1]
      cases hb : (bestF s m).2 with
      | false =>
        rw [hb, if_neg (by decide)] at ih2
        rw [if_neg (by decide)]; exact ih2
      | true =>
        rw [hb, if_pos rfl] at ih2
        rw [if_pos rfl]
        by_cases c2 : befB (lstUp m s.size) (bestF s m).1 = true
        · rw [if_pos c2] at ih2 ⊢; exact ih2
        · rw [if_neg c2] at ih2 ⊢
          rw [hb] at ih2
          exact ih2
    · rw [if_neg c] at ih2
      have hc : allB s m = false := by simpa using c
      rw [hc]
      refine Evt.step (fun k => ?_) ih2
      rw [numnahref09_Fewest.j5, if_neg (by decide), w1]
theorem few_l2 (nd : List Int) (hnd : nd.length ≤ 1000) (n : Nat) (hn : n ≤ s.size) (l : List ByteArray) (i : Nat) (hi : i < l.length) (hli : l.length ≤ 400) (t : ByteArray) (hti : l[i] = t) (ht : t.size = n) (r : List Int)
    (h : Evt (fun k => numnahref09_Fewest.l1 k s (nd ++ [((maskUp (touP s n t) s.size : Nat) : Int)]) (n : Int) l ((i + 1 : Nat) : Int)) r) :
    ∀ (q p : Nat), p + q = s.size → Evt (fun k => numnahref09_Fewest.l2 k s nd (n : Int) l (i : Int) ((maskUp (touP s n t) p : Nat) : Int) (p : Int)) r
  | 0, p, hp => by
    obtain rfl : p = s.size := by omega
    have w1 : Aside0 (wrap64 ((i : Int) + 1) = ((i + 1 : Nat) : Int)) := ⟨(wr (by omega) (by omega)).trans (by omega)⟩
    refine Evt.step (fun k => ?_) h
    rw [numnahref09_Fewest.l2, if_neg (by omega), if_pos (by omega), w1.out]
  | q + 1, p, hp => by
    have ih := few_l2 nd hnd n hn l i hi hli t hti ht r h q (p + 1) (by omega)
    have w1 : Aside0 (wrap64 ((p : Int) + 1) = ((p + 1 : Nat) : Int)) := ⟨(wr (by omega) (by omega)).trans (by omega)⟩
    have e : rdOf ByteArray.empty l (i : Int) = t := by rw [← hti]; simp [rdOf, hi]
    have hte := touched_ev s t n (by omega) hn ht [(p : Int)] (by simp)
    have hml := maskUp_lt (touP s n t) p
    have hp2 : 2 ^ p ≤ 2 ^ 14 := Nat.pow_le_pow_right (by omega) (by omega)
    have hsh := shl_one p (by omega)
    have w2 : wrap64 (((maskUp (touP s n t) p : Nat) : Int) + ((2 ^ p : Nat) : Int)) = ((2 ^ p + maskUp (touP s n t) p : Nat) : Int) := by
      have h14 : (2 : Nat) ^ 14 = 16384 := rfl
      generalize 2 ^ p = Q at *
      exact (wr (by omega) (by omega)).trans (by omega)
    refine Evt.step (g' := fun k => (numnahref09_touched.f k s t ([(p : Int)] : List Int)).bind fun t494 => (if t494 = true then (if 0 ≤ (p : Int) then (numnahref09_Fewest.l2 k s nd (n : Int) l (i : Int) ((2 ^ p + maskUp (touP s n t) p : Nat) : Int) ((p + 1 : Nat) : Int)) else (none)) else (numnahref09_Fewest.l2 k s nd (n : Int) l (i : Int) ((maskUp (touP s n t) p : Nat) : Int) ((p + 1 : Nat) : Int)))) (fun k => ?_) (Evt.bind hte ?_)
    · rw [numnahref09_Fewest.l2, if_pos (by omega), if_pos (by omega), if_pos (by omega), e, w1.out, hsh, w2]
    · rw [maskUp] at ih
      by_cases c : touP s n t p = true
      · rw [if_pos c] at ih
        exact Evt.pos c (Evt.pos (by omega) ih)
      · rw [if_neg c] at ih
        exact Evt.neg c ih
theorem few_l1 (n : Nat) (hn : n ≤ s.size) (l : List ByteArray) (hli : l.length ≤ 15) (hsz : ∀ t, t ∈ l → t.size = n) (r : List Int) : ∀ (q i : Nat) (nd : List Int), i + q = l.length → nd.length ≤ 400 + i →
    Evt (fun k => numnahref09_Fewest.l0 k s (nd ++ toI ((l.drop i).map (fun t => maskUp (touP s n t) s.size))) ((n + 1 : Nat) : Int)) r → Evt (fun k => numnahref09_Fewest.l1 k s nd (n : Int) l (i : Int)) r
  | 0, i, nd, hi, hnd, h => by
    have w1 : Aside0 (wrap64 ((n : Int) + 1) = ((n + 1 : Nat) : Int)) := ⟨(wr (by omega) (by omega)).trans (by omega)⟩
    rw [List.drop_eq_nil_of_le (by omega)] at h
    simp only [toI, List.map_nil, List.append_nil] at h
    refine Evt.step (fun k => ?_) h
    rw [numnahref09_Fewest.l1, if_neg (by omega), w1.out]
  | q + 1, i, nd, hi, hnd, h => by
    have hlt : i < l.length := by omega
    rw [List.drop_eq_getElem_cons hlt] at h
    refine Evt.step (g' := fun k => numnahref09_Fewest.l2 k s nd (n : Int) l (i : Int) ((maskUp (touP s n l[i]) 0 : Nat) : Int) ((0 : Nat) : Int)) (fun k => by rw [numnahref09_Fewest.l1, if_pos (by omega)]; rfl) ?_
    refine few_l2 s hs nd (by omega) n hn l i hlt (by omega) l[i] rfl (hsz _ (List.getElem_mem hlt)) r ?_ s.size 0 (by omega)
    refine few_l1 n hn l hli hsz r q (i + 1) _ (by omega) (by rw [List.length_append, List.length_singleton]; omega) ?_
    rw [List.append_assoc]
    exact h
theorem few_l0 (r : List Int) : ∀ (q n : Nat) (nd : List Int), n + q = s.size + 1 → nd.length ≤ 15 * n →
    Evt (fun k => numnahref09_Fewest.l3 k s (nd ++ toI (needN s q n)) ([] : List Int) false 0) r → Evt (fun k => numnahref09_Fewest.l0 k s nd (n : Int)) r
  | 0, n, nd, hq, hnd, h => by
    simp only [needN, toI, List.map_nil, List.append_nil] at h
    refine Evt.step (fun k => ?_) h
    rw [numnahref09_Fewest.l0, if_neg (by omega)]
  | q + 1, n, nd, hq, hnd, h => by
    have hlen := partsS_len s n
    have hsz : ∀ t, t ∈ partsS s n → t.size = n := by
      intro t ht
      obtain ⟨j, hj, rfl⟩ := mem_partsS.1 ht
      exact subAt_size s _ _ (by omega)
    refine Evt.step (g' := fun k => (numnahref09_parts.f k s (n : Int)).bind fun t487 => (numnahref09_Fewest.l1 k s nd (n : Int) t487 ((0 : Nat) : Int))) (fun k => by rw [numnahref09_Fewest.l0, if_pos (by omega)]; rfl) (Evt.bind (parts_ev s n (by omega) (by omega)) ?_)
    refine few_l1 s hs n (by omega) (partsS s n) (by omega) hsz r (partsS s n).length 0 nd (by omega) (by omega) ?_
    rw [List.drop_zero]
    refine few_l0 r q (n + 1) _ (by omega) (by rw [List.length_append, toI, List.length_map, List.length_map]; omega) ?_
    rw [needN, toI, List.map_append, ← List.append_assoc] at h
    exact h
end
theorem needN_len (s : ByteArray) : ∀ q n, (needN s q n).length ≤ q * (s.size + 1)
  | 0, _ => by simp [needN]
  | q + 1, n => by
    have h1 := needN_len s q (n + 1)
    have h2 := partsS_len s n
    rw [needN, List.length_append, List.length_map, Nat.succ_mul]
    omega
theorem refFewest_ev (s : ByteArray) (hs : s.size ≤ 14) : Evt (fun k => numnahref09_Fewest.f k s) (fewL s (s.size + 1) 0 []) := by
  rw [← bestF_few s _ (few_is s)]
  refine few_l0 s hs _ s.size 1 [] (by omega) (by simp) ?_
  rw [List.nil_append]
  have hl := needN_len s s.size 1
  have : s.size * (s.size + 1) ≤ 14 * 15 := Nat.mul_le_mul hs (by omega)
  exact few_l3 s hs (by omega) (2 ^ s.size) 0 (by omega)
end Go.Proofs.YtpeeflkodpnbpaaDoor.Pr

/- The law's comparison of two lists. -/
namespace Go.Proofs.YtpeeflkodpnbpaaDoor.Pr
open Go.RowKit Go.Proofs.YtpeeflkodpnbpaaDoorW.PrintWords Go.Proofs.YtpeeflkodpnbpaaDoorW.PrintLast Go.Proofs.YtpeeflkodpnbpaaDoorW.PrintMore
set_option linter.unusedVariables false
set_option linter.unusedSimpArgs false

theorem ints_same (l : List Int) (hl : l.length ≤ 1000) : Evt (fun k => numnahlaw09_ints.f k l l) true := by
  have : ∀ (m i : Nat), i + m = l.length → Evt (fun k => numnahlaw09_ints.l0 k l l (i : Int)) true := by
    intro m
    induction m with
    | zero =>
      intro i hi
      refine Evt.now fun k => ?_
      rw [numnahlaw09_ints.l0, if_neg (by omega)]
    | succ m ih =>
      intro i hi
      have w2 : Aside0 (wrap64 ((i : Int) + 1) = ((i + 1 : Nat) : Int)) := ⟨(wr (by omega) (by omega)).trans (by omega)⟩
      refine Evt.step (fun k => ?_) (ih (i + 1) (by omega))
      rw [numnahlaw09_ints.l0, if_pos (by omega), if_pos (by omega), if_pos (by omega), if_pos rfl, w2.out]
  unfold numnahlaw09_ints.f
  exact Evt.pos rfl (this l.length 0 (by omega))
end Go.Proofs.YtpeeflkodpnbpaaDoor.Pr

/- awake() answers true. -/
namespace Go.Proofs.YtpeeflkodpnbpaaDoor.Pr
open Go.RowKit Go.Proofs.YtpeeflkodpnbpaaDoorW.PrintWords Go.Proofs.YtpeeflkodpnbpaaDoorW.PrintLast Go.Proofs.YtpeeflkodpnbpaaDoorW.PrintMore
set_option linter.unusedVariables false
set_option maxRecDepth 1000000 in
theorem awake_run : numnahlaw09_awake.f 200 = some true := by kernel_rfl
theorem awake_ev : Evt (fun k => numnahlaw09_awake.f k) true := ⟨200, fun k hk => at_rounds (fun k => numnahlaw09_awake.mono k) hk awake_run⟩
theorem awake_bind : Evt (fun k => (numnahlaw09_awake.f k).bind fun t => some t) true := Evt.congr awake_ev (fun k => by cases numnahlaw09_awake.f k <;> rfl)
/-- short(s): at most 161 bytes -/
def shortS (s : ByteArray) : ByteArray := s.extract 0 (min s.size 161)
theorem shortS_size (s : ByteArray) : (shortS s).size ≤ 161 := by unfold shortS; rw [ByteArray.size_extract]; omega
theorem short_some (s : ByteArray) : numnahlaw09_short.f s = some (shortS s) := by
  unfold numnahlaw09_short.f mn
  by_cases h : (161 : Int) < (s.size : Int)
  · rw [if_pos h, if_pos (by omega), if_pos (by omega)]
    congr 1
    unfold shortS
    congr 1
    omega
  · rw [if_neg h, if_pos (by omega), if_pos (by omega)]
    congr 1
    unfold shortS
    congr 1
    omega
end Go.Proofs.YtpeeflkodpnbpaaDoor.Pr

namespace Go.Proofs.YtpeeflkodpnbpaaDoor.Pure
open Go.RowKit Go.Proofs.YtpeeflkodpnbpaaDoor.Pr Go.Proofs.YtpeeflkodpnbpaaDoorW.PrintWords Go.Proofs.YtpeeflkodpnbpaaDoorW.PrintLast
set_option linter.unusedVariables false
set_option linter.unusedSimpArgs false

theorem list_some (l : List Int) : numnahlaw09_list.f l = some (l.take 161) := by
  have e : (mn (l.length : Int) 161).toNat = min l.length 161 := by unfold mn; split <;> omega
  have e0 : 0 ≤ mn (l.length : Int) 161 := by unfold mn; split <;> omega
  have e1 : mn (l.length : Int) 161 ≤ (l.length : Int) := by unfold mn; split <;> omega
  rw [numnahlaw09_list.f, if_pos e0, if_pos e1, e, if_pos (by rw [List.length_take]; simp; omega), List.nil_append]
  congr 1
  exact List.take_eq_take_iff.2 (by omega)
theorem tch_j1 (s : ByteArray) (hz : s.size ≤ 161) : Evt (fun k => numnahlaw09_ParseTouches.j1 k s) true := by
  have hw := word_ev s (by omega)
  cases hc : isWordC s with
  | false =>
    rw [hc] at hw
    have e1 : parse_Fewest.f s = some ([], 2) := by rw [parse_Fewest.f, hc]; rfl
    refine Evt.step (g' := fun k => (numnahref09_Word.f k s).bind fun t518 => (if t518 = true then (numnahlaw09_ParseTouches.j2 k s [] 2 (decide ((s.size : Int) > 14))) else (numnahlaw09_ParseTouches.j2 k s [] 2 true))) (fun k => by rw [numnahlaw09_ParseTouches.j1, e1]; rfl) (Evt.bind hw (Evt.neg (by decide) ?_))
    refine Evt.step (fun k => ?_) awake_bind
    rw [numnahlaw09_ParseTouches.j2, if_pos rfl, if_pos (show (([] : List Int).length : Int) = 0 from rfl), if_pos rfl]
  | true =>
    rw [hc] at hw
    by_cases c : (s.size : Int) > 14
    · have e1 : parse_Fewest.f s = some ([], 2) := by rw [parse_Fewest.f, hc, if_pos rfl, if_pos c]
      refine Evt.step (g' := fun k => (numnahref09_Word.f k s).bind fun t518 => (if t518 = true then (numnahlaw09_ParseTouches.j2 k s [] 2 (decide ((s.size : Int) > 14))) else (numnahlaw09_ParseTouches.j2 k s [] 2 true))) (fun k => by rw [numnahlaw09_ParseTouches.j1, e1]; rfl) (Evt.bind hw (Evt.pos rfl ?_))
      refine Evt.step (fun k => ?_) awake_bind
      rw [numnahlaw09_ParseTouches.j2, decide_eq_true c, if_pos rfl, if_pos (show (([] : List Int).length : Int) = 0 from rfl), if_pos rfl]
    · have e1 : parse_Fewest.f s = some (fewL s (s.size + 1) 0 [], 0) := by rw [parse_Fewest.f, hc, if_pos rfl, if_neg c]
      have hr := refFewest_ev s (by omega)
      have hlen : (fewL s (s.size + 1) 0 []).length ≤ 1000 := by
        rcases asc_len (few_is s).2.1 with h | h
        · rw [h]; simp
        · omega
      generalize fewL s (s.size + 1) 0 [] = F at *
      refine Evt.step (g' := fun k => (numnahref09_Word.f k s).bind fun t518 => (if t518 = true then (numnahlaw09_ParseTouches.j2 k s F 0 (decide ((s.size : Int) > 14))) else (numnahlaw09_ParseTouches.j2 k s F 0 true))) (fun k => by rw [numnahlaw09_ParseTouches.j1, e1]; rfl) (Evt.bind hw (Evt.pos rfl ?_))
      refine Evt.step (g' := fun k => (numnahref09_Fewest.f k s).bind fun t520 => ((numnahlaw09_ints.f k F t520).bind fun t523 => (if t523 = true then (if (0 : Int) = 0 then ((numnahlaw09_awake.f k).bind fun t524 => (some t524)) else (some false)) else (some false)))) (fun k => by rw [numnahlaw09_ParseTouches.j2, decide_eq_false c, if_neg (by decide)]) ?_
      exact Evt.bind hr (Evt.bind (ints_same _ hlen) (Evt.pos rfl (Evt.pos rfl awake_bind)))
theorem emp_list : (⟨#[]⟩ : ByteArray).toList = [] := ByteArray.toList_eq _
theorem ParseTouches : numnahlaw09_ParseTouches.Pure := by
  intro a0 l1
  intros
  apply Evt.ex
  have hsz := shortS_size a0
  have hw := word_ev (shortS a0) (by omega)
  show Evt (fun k => numnahlaw09_ParseTouches.f k a0 l1) true
  unfold numnahlaw09_ParseTouches.f
  refine Evt.bind (Evt.all (fun _ => short_some a0)) (Evt.bind (Evt.all (fun _ => list_some l1)) ?_)
  generalize shortS a0 = s at *
  have hl : (l1.take 161).length ≤ 161 := by rw [List.length_take]; omega
  generalize l1.take 161 = l at *
  have hj1 := tch_j1 s hsz
  have bad : Evt (fun k => numnahlaw09_ParseTouches.j0 k s l (⟨#[]⟩ : ByteArray) false 2 true) true := by
    refine Evt.step (fun k => ?_) hj1
    rw [numnahlaw09_ParseTouches.j0, if_pos rfl, if_pos emp_list, if_neg (by decide), if_pos rfl]
  cases hc : isWordC s with
  | false =>
    rw [hc] at hw
    exact Evt.bind (touches_no s hc l) (Evt.bind hw (Evt.neg (by decide) bad))
  | true =>
    rw [hc] at hw
    have hs : s.size ≤ 160 := ((isWordC_iff s).1 hc).1
    by_cases hp : ∀ j, j < l.length → posAt s l j
    · have ht := touches_ev s hc l (by omega) hp
      have hP : Evt (fun k => numnahref09_Positions.f k s l) true := pos_good s l hs (by omega) l.length 0 (by omega) (fun j _ h => hp j h)
      have hr := refTouches_ev s hs l (by omega)
      refine Evt.bind ht (Evt.bind hw (Evt.pos rfl (Evt.bind hP ?_)))
      refine Evt.step (g' := fun k => (numnahref09_Touches.f k s l).bind fun bt512 => (if (tchR s l).1.toList = bt512.1.toList then (if ((tchR s l).2.1 != bt512.2) = true then (some false) else (if (tchR s l).2.2 = 0 then (numnahlaw09_ParseTouches.j1 k s) else (some false))) else (some false))) (fun k => by rw [numnahlaw09_ParseTouches.j0, if_neg (by decide)]) ?_
      exact Evt.bind hr (Evt.pos rfl (Evt.neg (by simp) (Evt.pos rfl hj1)))
    · have ⟨j, hj, hn⟩ : ∃ j, j < l.length ∧ ¬ posAt s l j := by
        apply Classical.byContradiction
        intro hcc
        exact hp fun j hj => Classical.byContradiction fun hk => hcc ⟨j, hj, hk⟩
      have ht := touches_bad s hc l (by omega) ⟨j, hj, hn⟩
      have hP : Evt (fun k => numnahref09_Positions.f k s l) false := pos_bad s l hs (by omega) l.length 0 (by omega) ⟨j, by omega, hj, hn⟩
      exact Evt.bind ht (Evt.bind hw (Evt.pos rfl (Evt.bind hP bad)))
end Go.Proofs.YtpeeflkodpnbpaaDoor.Pure
