/- ParseCounts, plainly: the numbers of substrings, the greatest quotient, the longest string that occurs twice, or the errors. -/
import Derived.Test.YtpeeflkodpnbpaaDoorPrB19
import Derived.Test.YtpeeflkodpnbpaaDoorHEv
import Derived.Test.YtpeeflkodpnbpaaDoorPrA8
import Derived.Test.YtpeeflkodpnbpaaDoorPrA1
import Derived.Test.YtpeeflkodpnbpaaDoorHWord
import Derived.Test.YtpeeflkodpnbpaaDoorHSub
import Derived.Test.YtpeeflkodpnbpaaDoorHDelta
import Derived.Test.YtpeeflkodpnbpaaDoorHLong
import Derived.Test.YtpeeflkodpnbpaaDoorPrA14
import Derived.Test.YtpeeflkodpnbpaaDoorPrA15
import Derived.Test.YtpeeflkodpnbpaaDoorPrB10
/- awake() answers true. -/
namespace Go.Proofs.YtpeeflkodpnbpaaDoor.Pr
open Go.RowKit Go.Proofs.YtpeeflkodpnbpaaDoorW.PrintWords Go.Proofs.YtpeeflkodpnbpaaDoorW.PrintLast Go.Proofs.YtpeeflkodpnbpaaDoorW.PrintMore
set_option linter.unusedVariables false
set_option maxRecDepth 1000000 in
theorem awake_run : numnahlaw09_awake.f 200 = some true := by kernel_rfl
theorem awake_ev : Evt (fun k => numnahlaw09_awake.f k) true := ⟨200, fun k hk => at_rounds (fun k => numnahlaw09_awake.mono k) hk awake_run⟩
theorem awake_bind : Evt (fun k => (numnahlaw09_awake.f k).bind fun t => some t) true := Evt.congr awake_ev (fun k => by cases numnahlaw09_awake.f k <;> rfl)
/-- short(s): at most 161 bytes -/
def shortS (s : ByteArray) : ByteArray := s.extract 0 (min s.size 161)
theorem shortS_size (s : ByteArray) : (shortS s).size ≤ 161 := by unfold shortS; rw [ByteArray.size_extract]; omega
theorem short_some (s : ByteArray) : numnahlaw09_short.f s = some (shortS s) := by
  unfold numnahlaw09_short.f mn
  by_cases h : (161 : Int) < (s.size : Int)
  · rw [if_pos h, if_pos (by omega), if_pos (by omega)]
    congr 1
    unfold shortS
    congr 1
    omega
  · rw [if_neg h, if_pos (by omega), if_pos (by omega)]
    congr 1
    unfold shortS
    congr 1
    omega
end Go.Proofs.YtpeeflkodpnbpaaDoor.Pr

/- The law's comparison of two lists. -/
namespace Go.Proofs.YtpeeflkodpnbpaaDoor.Pr
open Go.RowKit Go.Proofs.YtpeeflkodpnbpaaDoorW.PrintWords Go.Proofs.YtpeeflkodpnbpaaDoorW.PrintLast Go.Proofs.YtpeeflkodpnbpaaDoorW.PrintMore
set_option linter.unusedVariables false
set_option linter.unusedSimpArgs false

theorem ints_same (l : List Int) (hl : l.length ≤ 1000) : Evt (fun k => numnahlaw09_ints.f k l l) true := by
  have : ∀ (m i : Nat), i + m = l.length → Evt (fun k => numnahlaw09_ints.l0 k l l (i : Int)) true := by
    intro m
    induction m with
    | zero =>
      intro i hi
      refine Evt.now fun k => ?_
      rw [numnahlaw09_ints.l0, if_neg (by omega)]
    | succ m ih =>
      intro i hi
      have w2 : Aside0 (wrap64 ((i : Int) + 1) = ((i + 1 : Nat) : Int)) := ⟨(wr (by omega) (by omega)).trans (by omega)⟩
      refine Evt.step (fun k => ?_) (ih (i + 1) (by omega))
      rw [numnahlaw09_ints.l0, if_pos (by omega), if_pos (by omega), if_pos (by omega), if_pos rfl, w2.out]
  unfold numnahlaw09_ints.f
  exact Evt.pos rfl (this l.length 0 (by omega))
end Go.Proofs.YtpeeflkodpnbpaaDoor.Pr

/- The reference's test of a word, plainly; two small facts. -/
namespace Go.Proofs.YtpeeflkodpnbpaaDoor.Pr
open Go.RowKit Go.Proofs.YtpeeflkodpnbpaaDoorW.PrintWords Go.Proofs.YtpeeflkodpnbpaaDoorW.PrintLast Go.Proofs.YtpeeflkodpnbpaaDoorW.PrintMore
set_option linter.unusedVariables false
set_option linter.unusedSimpArgs false

theorem bt_get (s : ByteArray) (i : Nat) (h : i < s.size) : bt s (i : Int) = ((s.get! i).toNat : Int) := by
  unfold bt
  rw [dif_pos (by simpa using h)]
  have : s.get! i = s[i] := by
    cases s with
    | mk a =>
      have h' : i < a.size := h
      simp [ByteArray.get!, h']
      rfl
  rw [this]
  simp
theorem word_good (s : ByteArray) (hs : s.size ≤ 1000) : ∀ (m i : Nat), i + m = s.size → (∀ j, i ≤ j → j < s.size → okAt s j) → Evt (fun k => numnahref09_Word.l0 k s (i : Int)) (decide ((s.size : Int) ≤ 160))
  | 0, i, hi, _ => by
    refine Evt.now fun k => ?_
    rw [numnahref09_Word.l0, if_neg (by omega)]
  | m + 1, i, hi, h => by
    have ih := word_good s hs m (i + 1) (by omega) (fun j h1 h2 => h j (by omega) h2)
    have ok := h i (Nat.le_refl _) (by omega)
    have hb := bt_get s i (by omega)
    refine Evt.step (g' := fun k => numnahref09_Word.l0 k s ((i + 1 : Nat) : Int)) (fun k => ?_) ih
    rw [numnahref09_Word.l0, if_pos (by omega), if_pos (by omega), if_neg (by rw [hb]; have := ok.1; omega), if_neg (by rw [hb]; have := ok.2; omega), wr (by omega) (by omega)]
    rfl
theorem word_bad (s : ByteArray) (hs : s.size ≤ 1000) : ∀ (m i : Nat), i + m = s.size → (∃ j, i ≤ j ∧ j < s.size ∧ ¬ okAt s j) → Evt (fun k => numnahref09_Word.l0 k s (i : Int)) false
  | 0, i, hi, ⟨j, h1, h2, _⟩ => by omega
  | m + 1, i, hi, h => by
    have hb := bt_get s i (by omega)
    by_cases c1 : bt s (i : Int) < 97
    · refine Evt.now fun k => ?_
      rw [numnahref09_Word.l0, if_pos (by omega), if_pos (by omega), if_pos c1]
    · by_cases c2 : bt s (i : Int) > 100
      · refine Evt.now fun k => ?_
        rw [numnahref09_Word.l0, if_pos (by omega), if_pos (by omega), if_neg c1, if_pos c2]
      · obtain ⟨j, h1, h2, h3⟩ := h
        have hne : j ≠ i := fun e => h3 (by rw [e]; unfold okAt; rw [hb] at c1 c2; omega)
        refine Evt.step (g' := fun k => numnahref09_Word.l0 k s ((i + 1 : Nat) : Int)) (fun k => ?_) (word_bad s hs m (i + 1) (by omega) ⟨j, by omega, h2, h3⟩)
        rw [numnahref09_Word.l0, if_pos (by omega), if_pos (by omega), if_neg c1, if_neg c2, wr (by omega) (by omega)]
        rfl
theorem word_ev (s : ByteArray) (hs : s.size ≤ 1000) : Evt (fun k => numnahref09_Word.f k s) (isWordC s) := by
  by_cases h : ∀ j, j < s.size → okAt s j
  · have := word_good s hs s.size 0 (by omega) (fun j _ hj => h j hj)
    refine Evt.val this ?_
    cases hc : isWordC s with
    | true => exact decide_eq_true (by have := ((isWordC_iff s).1 hc).1; omega)
    | false => exact decide_eq_false (fun hh => by
        have : isWordC s = true := (isWordC_iff s).2 ⟨by omega, h⟩
        rw [hc] at this; cases this)
  · have ⟨j, hj, hn⟩ : ∃ j, j < s.size ∧ ¬ okAt s j := by
      apply Classical.byContradiction
      intro hc
      exact h fun j hj => Classical.byContradiction fun hk => hc ⟨j, hj, hk⟩
    refine Evt.val (word_bad s hs s.size 0 (by omega) ⟨j, by omega, hj, hn⟩) ?_
    cases hc : isWordC s with
    | false => rfl
    | true => exact absurd (((isWordC_iff s).1 hc).2 j hj) hn
theorem toList_eq_iff (a b : ByteArray) : a.toList = b.toList ↔ a = b := by
  rw [ByteArray.toList_eq, ByteArray.toList_eq]
  constructor
  · intro h
    cases a; cases b
    simp at h
    rw [h]
  · intro h; rw [h]
theorem sub_eq (s : ByteArray) (i n : Nat) (a b : Int) (ha : a = (i : Int)) (hb : b = ((i + n : Nat) : Int)) : s.extract a.toNat b.toNat = subAt s n i := by
  subst ha; subst hb
  rw [Int.toNat_natCast, Int.toNat_natCast]; rfl
end Go.Proofs.YtpeeflkodpnbpaaDoor.Pr

/- The references of Longest, Substrings, gcd, Delta, plainly (with those of parts and places). -/
namespace Go.Proofs.YtpeeflkodpnbpaaDoor.Pr
open Go.RowKit Go.Proofs.YtpeeflkodpnbpaaDoorW.PrintWords Go.Proofs.YtpeeflkodpnbpaaDoorW.PrintLast Go.Proofs.YtpeeflkodpnbpaaDoorW.PrintMore
set_option linter.unusedVariables false
set_option linter.unusedSimpArgs false

/-! ### the reference's list of different substrings -/
theorem insD_at (x : ByteArray) : ∀ (l : List ByteArray) (p : Nat), p ≤ l.length → (∀ y, y ∈ l.take p → Op.bytesLess y.toList x.toList = true) → insD x l = l.take p ++ insD x (l.drop p)
  | l, 0, _, _ => by simp
  | [], p + 1, h, _ => by simp at h
  | y :: l, p + 1, h, hl => by
    rw [List.take_succ_cons, List.drop_succ_cons, insD, if_pos (hl y (by simp)), List.cons_append, ← insD_at x l p (by simpa using h) (fun z hz => hl z (by simp [hz]))]
theorem part_l1 (s : ByteArray) (n : Nat) (hs : s.size ≤ 200) (l : List ByteArray) (hl : l.length ≤ 400) (i : Nat) (hi : i ≤ 400) (x : ByteArray) (r : List ByteArray) : ∀ (m p : Nat), p + m = l.length → (∀ y, y ∈ l.take p → Op.bytesLess y.toList x.toList = true) →
    Evt (fun k => numnahref09_parts.l0 k s (n : Int) (insD x l) ((i + 1 : Nat) : Int)) r → Evt (fun k => numnahref09_parts.l1 k s (n : Int) l (i : Int) x (p : Int)) r := by
  have w : Aside0 (wrap64 ((i : Int) + 1) = ((i + 1 : Nat) : Int)) := ⟨(wr (by omega) (by omega)).trans (by omega)⟩
  have fin : ∀ p, p ≤ l.length → ∀ k, ((some (l.take (p : Int).toNat : List ByteArray)).bind fun y384 => (if ([] : List ByteArray).length + y384.length < 8796093022208 then ((some (([] : List ByteArray) ++ y384 : List ByteArray)).bind fun y388 => (if y388.length < 8796093022208 then ((some (y388 ++ [x] : List ByteArray)).bind fun y391 => ((some (l.drop (p : Int).toNat : List ByteArray)).bind fun y394 => (if y391.length + y394.length < 8796093022208 then (numnahref09_parts.l0 k s (n : Int) (y391 ++ y394) (wrap64 ((i : Int) + 1))) else (none)))) else (none))) else (none))) = numnahref09_parts.l0 k s (n : Int) ((l.take p ++ [x]) ++ l.drop p) ((i + 1 : Nat) : Int) := by
    intro p hp k
    rw [Option.bind_some, if_pos (by simp; omega), Option.bind_some, if_pos (by simp; omega), Option.bind_some, Option.bind_some, if_pos (by simp; omega), w.out]
    rfl
  intro m
  induction m with
  | zero =>
    intro p hp hlt h
    have e : insD x l = (l.take p ++ [x]) ++ l.drop p := by
      rw [insD_at x l p (by omega) hlt, List.drop_eq_nil_of_le (by omega), insD, List.append_nil]
    refine Evt.step (fun k => ?_) h
    rw [numnahref09_parts.l1, if_neg (by omega), if_pos (by omega), if_pos (by omega), fin p (by omega), e]
  | succ m ih =>
    intro p hp hlt h
    have hpl : p < l.length := by omega
    have w2 : Aside0 (wrap64 ((p : Int) + 1) = ((p + 1 : Nat) : Int)) := ⟨(wr (by omega) (by omega)).trans (by omega)⟩
    have e : rdOf ByteArray.empty l (p : Int) = l[p] := by simp [rdOf, hpl]
    by_cases c : Op.bytesLess l[p].toList x.toList = true
    · refine Evt.step (g' := fun k => numnahref09_parts.l1 k s (n : Int) l (i : Int) x ((p + 1 : Nat) : Int)) (fun k => ?_) (ih (p + 1) (by omega) (fun y hy => ?_) h)
      · rw [numnahref09_parts.l1, if_pos (by omega), if_pos (by omega), e, if_pos c, w2.out]
      · rw [List.take_succ_eq_append_getElem hpl, List.mem_append, List.mem_singleton] at hy
        rcases hy with hy | rfl
        · exact hlt y hy
        · exact c
    · by_cases c2 : l[p] = x
      · have e2 : insD x l = l := by
          rw [insD_at x l p (by omega) hlt, List.drop_eq_getElem_cons hpl, insD, if_neg c, if_pos c2, ← List.drop_eq_getElem_cons hpl, List.take_append_drop]
        rw [e2] at h
        refine Evt.step (fun k => ?_) h
        rw [numnahref09_parts.l1, if_pos (by omega), if_pos (by omega), e, if_neg c, if_pos ((toList_eq_iff _ _).2 c2), w.out]
      · have e2 : insD x l = (l.take p ++ [x]) ++ l.drop p := by
          rw [insD_at x l p (by omega) hlt, List.drop_eq_getElem_cons hpl, insD, if_neg c, if_neg c2]
          simp
        refine Evt.step (fun k => ?_) h
        rw [numnahref09_parts.l1, if_pos (by omega), if_pos (by omega), e, if_neg c, if_neg (fun hh => c2 ((toList_eq_iff _ _).1 hh)), if_pos (by omega), fin p (by omega), e2]
theorem part_l0 (s : ByteArray) (n : Nat) (hs : s.size ≤ 200) (hn : n ≤ s.size) : ∀ (m i : Nat), i + m = s.size + 1 - n → Evt (fun k => numnahref09_parts.l0 k s (n : Int) (partsUp s n i) (i : Int)) (partsS s n)
  | 0, i, hi => by
    have w : Aside0 (wrap64 ((i : Int) + (n : Int)) = ((i + n : Nat) : Int)) := ⟨(wr (by omega) (by omega)).trans (by omega)⟩
    obtain rfl : i = s.size + 1 - n := by omega
    refine Evt.now fun k => ?_
    rw [numnahref09_parts.l0, w.out, if_neg (by omega)]
    rfl
  | m + 1, i, hi => by
    have w : Aside0 (wrap64 ((i : Int) + (n : Int)) = ((i + n : Nat) : Int)) := ⟨(wr (by omega) (by omega)).trans (by omega)⟩
    have hx : s.extract (i : Int).toNat ((i + n : Nat) : Int).toNat = subAt s n i := sub_eq s i n _ _ rfl rfl
    have hlen := partsUp_len s n i
    refine Evt.step (g' := fun k => numnahref09_parts.l1 k s (n : Int) (partsUp s n i) (i : Int) (subAt s n i) ((0 : Nat) : Int)) (fun k => ?_) (part_l1 s n hs (partsUp s n i) (by omega) i (by omega) (subAt s n i) _ (partsUp s n i).length 0 (by omega) (fun y hy => by simp at hy) (part_l0 s n hs hn m (i + 1) (by omega)))
    rw [numnahref09_parts.l0, w.out, if_pos (by omega), if_pos (by omega), if_pos (by omega), hx]
    rfl
theorem parts_ev (s : ByteArray) (n : Nat) (hs : s.size ≤ 200) (hn : n ≤ s.size) : Evt (fun k => numnahref09_parts.f k s (n : Int)) (partsS s n) := part_l0 s n hs hn (s.size + 1 - n) 0 (by omega)
theorem plac_l0 (s t : ByteArray) (n : Nat) (hs : s.size ≤ 200) (hn : n ≤ s.size) (ht : t.size = n) : ∀ (m i : Nat), i + m = s.size + 1 - n → Evt (fun k => numnahref09_places.l0 k s t (posUp s n t i) (i : Int)) (posS s n t)
  | 0, i, hi => by
    have w : Aside0 (wrap64 ((i : Int) + (t.size : Int)) = ((i + n : Nat) : Int)) := ⟨(wr (by omega) (by omega)).trans (by omega)⟩
    obtain rfl : i = s.size + 1 - n := by omega
    refine Evt.now fun k => ?_
    rw [numnahref09_places.l0, w.out, if_neg (by omega)]
    rfl
  | m + 1, i, hi => by
    have w : Aside0 (wrap64 ((i : Int) + (t.size : Int)) = ((i + n : Nat) : Int)) := ⟨(wr (by omega) (by omega)).trans (by omega)⟩
    have w2 : Aside0 (wrap64 ((i : Int) + 1) = ((i + 1 : Nat) : Int)) := ⟨(wr (by omega) (by omega)).trans (by omega)⟩
    have hx : s.extract (i : Int).toNat ((i + n : Nat) : Int).toNat = subAt s n i := sub_eq s i n _ _ rfl rfl
    have hlen := posUp_len s n t i
    refine Evt.step (fun k => ?_) (plac_l0 s t n hs hn ht m (i + 1) (by omega))
    rw [numnahref09_places.l0, w.out, if_pos (by omega), if_pos (by omega), if_pos (by omega), hx]
    by_cases c : subAt s n i = t
    · rw [if_pos ((toList_eq_iff _ _).2 c), if_pos (by omega), w2.out, posUp, if_pos c]
    · rw [if_neg (fun hh => c ((toList_eq_iff _ _).1 hh)), w2.out, posUp, if_neg c, List.append_nil]
theorem places_ev (s t : ByteArray) (n : Nat) (hs : s.size ≤ 200) (hn : n ≤ s.size) (ht : t.size = n) : Evt (fun k => numnahref09_places.f k s t) (posS s n t) := plac_l0 s t n hs hn ht (s.size + 1 - n) 0 (by omega)

/-! ### Longest -/
theorem lng_l1 (x : ByteArray) (hx : x.size ≤ 200) (n : Nat) (hn : n ≤ x.size) (h1 : 1 ≤ n) (l : List ByteArray) (hll : l.length ≤ 400) (hl : ∀ t, t ∈ l → t.size = n) (r : ByteArray × Int × Int × Bool) : ∀ (m p : Nat), p + m = l.length →
    (findL x n (l.drop p) = none → Evt (fun k => numnahref09_Longest.l0 k x ((n - 1 : Nat) : Int)) r) → (∀ t, findL x n (l.drop p) = some t → (t, rd (posS x n t) 0, rd (posS x n t) 1, true) = r) → Evt (fun k => numnahref09_Longest.l1 k x (n : Int) l (p : Int)) r
  | 0, p, hp, h2, h3 => by
    have w : Aside0 (wrap64 ((n : Int) - 1) = ((n - 1 : Nat) : Int)) := ⟨(wr (by omega) (by omega)).trans (by omega)⟩
    refine Evt.step (fun k => ?_) (h2 (by rw [List.drop_eq_nil_of_le (by omega)]; rfl))
    rw [numnahref09_Longest.l1, if_neg (by omega), w.out]
  | m + 1, p, hp, h2, h3 => by
    have hpl : p < l.length := by omega
    have w2 : Aside0 (wrap64 ((p : Int) + 1) = ((p + 1 : Nat) : Int)) := ⟨(wr (by omega) (by omega)).trans (by omega)⟩
    have e : rdOf ByteArray.empty l (p : Int) = l[p] := by simp [rdOf, hpl]
    have hpe := places_ev x l[p] n hx hn (hl _ (List.getElem_mem hpl))
    rw [List.drop_eq_getElem_cons hpl, findL] at h2 h3
    refine Evt.step (g' := fun k => (numnahref09_places.f k x l[p]).bind fun t623 => (if (t623.length : Int) > 1 then (if 0 < (t623.length : Int) then (if 1 < (t623.length : Int) then (some (l[p], rd t623 0, rd t623 1, true)) else (none)) else (none)) else (numnahref09_Longest.l1 k x (n : Int) l ((p + 1 : Nat) : Int)))) (fun k => ?_) (Evt.bind hpe ?_)
    · rw [numnahref09_Longest.l1, if_pos (by omega), if_pos (by omega), e, w2.out]
    · by_cases c : 1 < (posS x n l[p]).length
      · rw [if_pos c] at h3
        refine Evt.pos (by omega) (Evt.pos (by omega) (Evt.pos (by omega) (Evt.all (fun _ => ?_))))
        rw [h3 _ rfl]
      · rw [if_neg c] at h2 h3
        exact Evt.neg (by omega) (lng_l1 x hx n hn h1 l hll hl r m (p + 1) (by omega) h2 h3)
def lonR (s : ByteArray) (n : Nat) : ByteArray × Int × Int × Bool := ((lonF s n).1, (lonF s n).2.1, (lonF s n).2.2.1, decide ((lonF s n).2.2.2 = 0))
theorem lonF_code (s : ByteArray) : ∀ n, (lonF s n).2.2.2 = 0 ∨ (lonF s n).2.2.2 = 6
  | 0 => .inr rfl
  | n + 1 => by
    rw [lonF]
    split
    · exact .inl rfl
    · exact lonF_code s n
theorem lng_l0 (x : ByteArray) (hx : x.size ≤ 200) : ∀ (n : Nat), n ≤ x.size → Evt (fun k => numnahref09_Longest.l0 k x (n : Int)) (lonR x n)
  | 0, _ => by
    refine Evt.now fun k => ?_
    rw [numnahref09_Longest.l0, if_neg (by omega)]; rfl
  | n + 1, h1 => by
    have ih := lng_l0 x hx n (by omega)
    have hlen := partsS_len x (n + 1)
    have hsz : ∀ t, t ∈ partsS x (n + 1) → t.size = n + 1 := by
      intro t ht
      obtain ⟨j, hj, rfl⟩ := mem_partsS.1 ht
      exact subAt_size x _ _ (by omega)
    refine Evt.step (g' := fun k => (numnahref09_parts.f k x ((n + 1 : Nat) : Int)).bind fun t525 => (numnahref09_Longest.l1 k x ((n + 1 : Nat) : Int) t525 ((0 : Nat) : Int))) (fun k => by rw [numnahref09_Longest.l0, if_pos (by omega)]; rfl) (Evt.bind (parts_ev x (n + 1) hx h1) ?_)
    refine lng_l1 x hx (n + 1) h1 (by omega) _ (by omega) hsz _ (partsS x (n + 1)).length 0 (by omega) (fun h => ?_) (fun t h => ?_)
    · rw [List.drop_zero] at h
      have : lonR x (n + 1) = lonR x n := by unfold lonR; rw [lonF, h]
      rw [this]; exact ih
    · rw [List.drop_zero] at h
      unfold lonR; rw [lonF, h]; rfl
theorem longest_ev (x : ByteArray) (hx : x.size ≤ 200) : Evt (fun k => numnahref09_Longest.f k x) (lonR x (x.size - 1)) := by
  unfold numnahref09_Longest.f
  by_cases c : x.size = 0
  · have w : wrap64 ((x.size : Int) - 1) = -1 := (wr (by omega) (by omega)).trans (by omega)
    rw [w, c]
    exact Evt.now fun k => by rw [numnahref09_Longest.l0, if_neg (by omega)]; rfl
  · have w : wrap64 ((x.size : Int) - 1) = ((x.size - 1 : Nat) : Int) := (wr (by omega) (by omega)).trans (by omega)
    rw [w]
    exact lng_l0 x hx _ (by omega)
/-! ### Substrings -/
theorem subr_l0 (s : ByteArray) (hs : s.size ≤ 200) : ∀ (m i : Nat), i + m = s.size + 1 → Evt (fun k => numnahref09_Substrings.l0 k s ((List.range i).map (fun i => (cntS s i : Int))) (i : Int)) (subsL s)
  | 0, i, hi => by
    obtain rfl : i = s.size + 1 := by omega
    refine Evt.now fun k => ?_
    rw [numnahref09_Substrings.l0, if_neg (by omega)]; rfl
  | m + 1, i, hi => by
    have w2 : Aside0 (wrap64 ((i : Int) + 1) = ((i + 1 : Nat) : Int)) := ⟨(wr (by omega) (by omega)).trans (by omega)⟩
    have e : (List.range (i + 1)).map (fun i => (cntS s i : Int)) = (List.range i).map (fun i => (cntS s i : Int)) ++ [((partsS s i).length : Int)] := by
      rw [List.range_succ, List.map_append, ← cntS_eq]; rfl
    have ih := subr_l0 s hs m (i + 1) (by omega)
    rw [e] at ih
    refine Evt.step (g' := fun k => (numnahref09_parts.f k s (i : Int)).bind fun t629 => (if ((List.range i).map (fun i => (cntS s i : Int))).length < 17592186044416 then (numnahref09_Substrings.l0 k s ((List.range i).map (fun i => (cntS s i : Int)) ++ [(t629.length : Int)]) ((i + 1 : Nat) : Int)) else (none))) (fun k => ?_) (Evt.bind (parts_ev s i hs (by omega)) (Evt.pos (by simp; omega) ih))
    rw [numnahref09_Substrings.l0, if_pos (by omega), w2.out]
theorem subr_ev (s : ByteArray) (hs : s.size ≤ 200) : Evt (fun k => numnahref09_Substrings.f k s) (subsL s) := subr_l0 s hs (s.size + 1) 0 (by omega)
/-! ### Delta -/
theorem gcd_ev : ∀ (q : Nat) (d e : Int), 0 ≤ d → 0 ≤ e → e.toNat + 1 ≤ q → 1 ≤ d + e → Evt (fun k => numnahref09_gcd.l0 k d e) (gcdL q d e) ∧ 1 ≤ gcdL q d e
  | 0, d, e, hd, he, hq, h1 => by omega
  | q + 1, d, e, hd, he, hq, h1 => by
    rw [gcdL]
    by_cases c : e > 0
    · rw [if_pos c]
      have t1 := Int.tmod_nonneg e hd
      have t2 := Int.tmod_lt_of_pos d c
      obtain ⟨i1, i2⟩ := gcd_ev q e (Int.tmod d e) he t1 (by omega) (by omega)
      refine ⟨Evt.step (fun k => ?_) i1, i2⟩
      rw [numnahref09_gcd.l0, if_pos c, if_neg (by omega)]
    · rw [if_neg c]
      refine ⟨Evt.now fun k => ?_, by omega⟩
      rw [numnahref09_gcd.l0, if_neg c]
def delE (b a : Int) : Int × Int × Int := (wrap64 (Int.tdiv b (gcdL (a.toNat + 1) b a)), wrap64 (Int.tdiv a (gcdL (a.toNat + 1) b a)), a)
theorem del_l0 (s : ByteArray) (hs : s.size ≤ 160) : ∀ (m n a : Nat), n + m = s.size + 1 → 1 ≤ n → 1 ≤ a → a ≤ s.size → Evt (fun k => numnahref09_Delta.l0 k (subsL s) (a : Int) (n : Int)) (delE (delL s m n (cntS s a) a).1 (delL s m n (cntS s a) a).2)
  | 0, n, a, hn, hn1, h1, h2 => by
    have hl : (subsL s).length = s.size + 1 := by simp [subsL]
    obtain ⟨g1, g2⟩ := gcd_ev ((a : Int).toNat + 1) (cntS s a) a (by omega) (by omega) (Nat.le_refl _) (by omega)
    have hr := subsL_rd s a h2
    refine Evt.step (g' := fun k => (numnahref09_gcd.f k (cntS s a) (a : Int)).bind fun t642 => (if t642 = 0 then (none) else (some (wrap64 (Int.tdiv (cntS s a) t642), wrap64 (Int.tdiv (a : Int) t642), (a : Int))))) (fun k => ?_) (Evt.bind g1 (Evt.neg (by omega) (Evt.all (fun _ => rfl))))
    rw [numnahref09_Delta.l0, if_neg (by omega), if_pos (by omega), if_pos (by omega), hr]
  | m + 1, n, a, hn, hn1, h1, h2 => by
    have hl : (subsL s).length = s.size + 1 := by simp [subsL]
    have hr := subsL_rd s a h2
    have hr2 := subsL_rd s n (by omega)
    have b1 : (cntS s a : Int) ≤ 161 := by rw [cntS_eq]; have := partsS_len s a; omega
    have b2 : (cntS s n : Int) ≤ 161 := by rw [cntS_eq]; have := partsS_len s n; omega
    have w2 : Aside0 (wrap64 ((n : Int) + 1) = ((n + 1 : Nat) : Int)) := ⟨(wr (by omega) (by omega)).trans (by omega)⟩
    have m1 : 0 ≤ (cntS s n : Int) * a ∧ (cntS s n : Int) * a ≤ 161 * 160 := ⟨Int.mul_nonneg (by omega) (by omega), Int.mul_le_mul b2 (by omega) (by omega) (by omega)⟩
    have m2 : 0 ≤ (cntS s a : Int) * n ∧ (cntS s a : Int) * n ≤ 161 * 160 := ⟨Int.mul_nonneg (by omega) (by omega), Int.mul_le_mul b1 (by omega) (by omega) (by omega)⟩
    have w3 : Aside0 (wrap64 ((cntS s n : Int) * a) = (cntS s n : Int) * a) := ⟨by generalize (cntS s n : Int) * a = P at *; exact wr (by omega) (by omega)⟩
    have w4 : Aside0 (wrap64 ((cntS s a : Int) * n) = (cntS s a : Int) * n) := ⟨by generalize (cntS s a : Int) * n = P at *; exact wr (by omega) (by omega)⟩
    have c1 : (n : Int) < ((subsL s).length : Int) := by omega
    have c2 : (a : Int) < ((subsL s).length : Int) := by omega
    have c3 : (0 : Int) ≤ (n : Int) := by omega
    have c4 : (0 : Int) ≤ (a : Int) := by omega
    rw [delL]
    by_cases c : (cntS s n : Int) * a > (cntS s a : Int) * n
    · rw [if_pos c]
      refine Evt.step (fun k => ?_) (del_l0 s hs m (n + 1) n (by omega) (by omega) hn1 (by omega))
      rw [numnahref09_Delta.l0, if_pos c1, if_pos c3, if_pos c4, if_pos c2, hr, hr2, w3.out, w4.out, if_pos c, w2.out]
    · rw [if_neg c]
      refine Evt.step (fun k => ?_) (del_l0 s hs m (n + 1) a (by omega) (by omega) h1 h2)
      rw [numnahref09_Delta.l0, if_pos c1, if_pos c3, if_pos c4, if_pos c2, hr, hr2, w3.out, w4.out, if_neg c, w2.out]
theorem delta_ev (s : ByteArray) (hs : s.size ≤ 160) (h1 : 1 ≤ s.size) : Evt (fun k => numnahref09_Delta.f k s) ((delF s).1, (delF s).2.1, (delF s).2.2.1) := by
  unfold numnahref09_Delta.f
  refine Evt.bind (subr_ev s (by omega)) ?_
  have hpos : 1 ≤ cntS s 1 := by
    rw [cntS_eq]
    exact List.length_pos_of_mem (mem_partsS.2 ⟨0, by omega, rfl⟩)
  obtain ⟨m, hm⟩ : ∃ m, s.size = m + 1 := ⟨s.size - 1, by omega⟩
  have e : delL s s.size 1 0 1 = delL s m 2 (cntS s 1) 1 := by
    rw [hm, delL, if_pos (by omega)]; rfl
  have := del_l0 s hs m 2 1 (by omega) (by omega) (Nat.le_refl _) h1
  unfold delF
  rw [e]
  exact this
end Go.Proofs.YtpeeflkodpnbpaaDoor.Pr

namespace Go.Proofs.YtpeeflkodpnbpaaDoor.Pure
open Go.RowKit Go.Proofs.YtpeeflkodpnbpaaDoor.Pr Go.Proofs.YtpeeflkodpnbpaaDoorW.PrintWords Go.Proofs.YtpeeflkodpnbpaaDoorW.PrintLast
set_option linter.unusedVariables false

theorem ParseCounts : numnahlaw09_ParseCounts.Pure := by
  intro a0 _
  apply Evt.ex
  have hsz := shortS_size a0
  have hw := word_ev (shortS a0) (by omega)
  show Evt (fun k => numnahlaw09_ParseCounts.f k a0) true
  unfold numnahlaw09_ParseCounts.f
  refine Evt.bind (Evt.all (fun _ => short_some a0)) ?_
  generalize shortS a0 = s at *
  cases hc : isWordC s with
  | false =>
    rw [hc] at hw
    have e1 : parse_Substrings.f s = some ([], 2) := by rw [parse_Substrings.f, hc]; rfl
    have e2 : parse_Delta.f s = some (0, 0, 0, 2) := by rw [parse_Delta.f, hc]; rfl
    have e3 : parse_Longest.f s = some (emptyB, 0, 0, 2) := by rw [parse_Longest.f, hc]; rfl
    refine Evt.bind (Evt.all (fun _ => e1)) (Evt.bind (Evt.all (fun _ => e2)) (Evt.bind (Evt.all (fun _ => e3)) (Evt.bind hw (Evt.neg (by decide) ?_))))
    refine Evt.pos rfl (Evt.pos rfl (Evt.pos rfl (Evt.pos rfl (Evt.pos rfl (Evt.pos (show emptyB.toList = [] from ByteArray.toList_eq _) (Evt.pos rfl (Evt.pos rfl (Evt.pos rfl awake_bind))))))))
  | true =>
    rw [hc] at hw
    have hs : s.size ≤ 160 := ((isWordC_iff s).1 hc).1
    have e1 : parse_Substrings.f s = some (subsL s, 0) := subs_some s hc
    have e3 : parse_Longest.f s = some (lonF s (s.size - 1)) := by rw [parse_Longest.f, hc]; rfl
    have hl : (subsL s).length ≤ 1000 := by simp [subsL]; omega
    obtain ⟨d, e2, fin⟩ : ∃ d, parse_Delta.f s = some d ∧ Evt (fun k => numnahlaw09_ParseCounts.j0 k s d.2.2.1 d.2.2.2 false d.1 d.2.1) true := by
      by_cases hz : s.size = 0
      · refine ⟨(0, 0, 0, 2), by rw [parse_Delta.f, hc, if_pos rfl, if_pos hz], ?_⟩
        have hemp : s.toList = [] := by
          rw [ByteArray.toList_eq]
          exact List.length_eq_zero_iff.1 (by have h2 : s.data.toList.length = s.size := Array.length_toList; omega)
        refine Evt.step (g' := fun k => (numnahlaw09_awake.f k).bind fun t => some t) (fun k => ?_) awake_bind
        rw [numnahlaw09_ParseCounts.j0, if_neg (by decide), if_pos hemp]
        rfl
      · refine ⟨delF s, by rw [parse_Delta.f, hc, if_pos rfl, if_neg hz], ?_⟩
        have hemp : ¬ s.toList = [] := by
          intro h
          rw [ByteArray.toList_eq] at h
          have h2 : s.data.toList.length = s.size := Array.length_toList
          rw [h] at h2
          simp at h2
          omega
        refine Evt.step (g' := fun k => (numnahref09_Delta.f k s).bind fun bt673 => (if ((delF s).1 == bt673.1 && ((delF s).2.1 == bt673.2.1)) = true then (if (delF s).2.2.1 = bt673.2.2 then (if (delF s).2.2.2 = 0 then ((numnahlaw09_awake.f k).bind fun t677 => (some t677)) else (some false)) else (some false)) else (some false))) (fun k => ?_) ?_
        · rw [numnahlaw09_ParseCounts.j0, if_neg (by decide), if_neg hemp]
        · exact Evt.bind (delta_ev s hs (by omega)) (Evt.pos (by simp) (Evt.pos rfl (Evt.pos rfl awake_bind)))
    refine Evt.bind (Evt.all (fun _ => e1)) (Evt.bind (Evt.all (fun _ => e2)) (Evt.bind (Evt.all (fun _ => e3)) (Evt.bind hw (Evt.pos rfl (Evt.bind (longest_ev s (by omega)) ?_)))))
    dsimp only [lonR]
    have e0 : ((0 : Int) != 0) = false := rfl
    rw [e0]
    have last : Evt (fun k => (numnahref09_Substrings.f k s).bind fun t664 => ((numnahlaw09_ints.f k (subsL s) t664).bind fun t667 => (if t667 = true then (numnahlaw09_ParseCounts.j0 k s d.2.2.1 d.2.2.2 false d.1 d.2.1) else (numnahlaw09_ParseCounts.j0 k s d.2.2.1 d.2.2.2 true d.1 d.2.1)))) true :=
      Evt.bind (subr_ev s (by omega)) (Evt.bind (ints_same _ hl) (Evt.pos rfl fin))
    rcases lonF_code s (s.size - 1) with h | h
    · exact Evt.pos (by simp [h]) (Evt.pos h (Evt.pos rfl (Evt.pos rfl (Evt.pos rfl last))))
    · exact Evt.neg (by simp [h]) (Evt.pos h (Evt.pos rfl (Evt.pos rfl (Evt.pos rfl last))))
end Go.Proofs.YtpeeflkodpnbpaaDoor.Pure
