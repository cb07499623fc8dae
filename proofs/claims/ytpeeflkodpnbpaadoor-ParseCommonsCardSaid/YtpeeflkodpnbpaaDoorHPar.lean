/- The references of Word, Same, Copying and Learning, plainly. -/
import Derived.Test.YtpeeflkodpnbpaaDoorHEv
import Derived.Test.YtpeeflkodpnbpaaDoorPrA1
import Derived.Test.YtpeeflkodpnbpaaDoorPrA8
import Derived.Test.YtpeeflkodpnbpaaDoorPrA9
import Derived.Test.YtpeeflkodpnbpaaDoorHCopy
import Derived.Test.YtpeeflkodpnbpaaDoorHLearn
namespace Go.Proofs.YtpeeflkodpnbpaaDoor.Pr
open Go.RowKit Go.Proofs.YtpeeflkodpnbpaaDoorW.PrintWords Go.Proofs.YtpeeflkodpnbpaaDoorW.PrintLast Go.Proofs.YtpeeflkodpnbpaaDoorW.PrintMore
set_option linter.unusedVariables false
set_option linter.unusedSimpArgs false

theorem bt_get (s : ByteArray) (i : Nat) (h : i < s.size) : bt s (i : Int) = ((s.get! i).toNat : Int) := by
  unfold bt
  rw [dif_pos (by simpa using h)]
  have : s.get! i = s[i] := by
    cases s with
    | mk a =>
      have h' : i < a.size := h
      simp [ByteArray.get!, h']
      rfl
  rw [this]
  simp
theorem word_good (s : ByteArray) (hs : s.size ≤ 1000) : ∀ (m i : Nat), i + m = s.size → (∀ j, i ≤ j → j < s.size → okAt s j) → Evt (fun k => numnahref09_Word.l0 k s (i : Int)) (decide ((s.size : Int) ≤ 160))
  | 0, i, hi, _ => by
    refine Evt.now fun k => ?_
    rw [numnahref09_Word.l0, if_neg (by omega)]
  | m + 1, i, hi, h => by
    have ih := word_good s hs m (i + 1) (by omega) (fun j h1 h2 => h j (by omega) h2)
    have ok := h i (Nat.le_refl _) (by omega)
    have hb := bt_get s i (by omega)
    refine Evt.step (g' := fun k => numnahref09_Word.l0 k s ((i + 1 : Nat) : Int)) (fun k => ?_) ih
    rw [numnahref09_Word.l0, if_pos (by omega), if_pos (by omega), if_neg (by rw [hb]; have := ok.1; omega), if_neg (by rw [hb]; have := ok.2; omega), wr (by omega) (by omega)]
    rfl
theorem word_bad (s : ByteArray) (hs : s.size ≤ 1000) : ∀ (m i : Nat), i + m = s.size → (∃ j, i ≤ j ∧ j < s.size ∧ ¬ okAt s j) → Evt (fun k => numnahref09_Word.l0 k s (i : Int)) false
  | 0, i, hi, ⟨j, h1, h2, _⟩ => by omega
  | m + 1, i, hi, h => by
    have hb := bt_get s i (by omega)
    by_cases c1 : bt s (i : Int) < 97
    · refine Evt.now fun k => ?_
      rw [numnahref09_Word.l0, if_pos (by omega), if_pos (by omega), if_pos c1]
    · by_cases c2 : bt s (i : Int) > 100
      · refine Evt.now fun k => ?_
        rw [numnahref09_Word.l0, if_pos (by omega), if_pos (by omega), if_neg c1, if_pos c2]
      · obtain ⟨j, h1, h2, h3⟩ := h
        have hne : j ≠ i := fun e => h3 (by rw [e]; unfold okAt; rw [hb] at c1 c2; omega)
        refine Evt.step (g' := fun k => numnahref09_Word.l0 k s ((i + 1 : Nat) : Int)) (fun k => ?_) (word_bad s hs m (i + 1) (by omega) ⟨j, by omega, h2, h3⟩)
        rw [numnahref09_Word.l0, if_pos (by omega), if_pos (by omega), if_neg c1, if_neg c2, wr (by omega) (by omega)]
        rfl
theorem word_ev (s : ByteArray) (hs : s.size ≤ 1000) : Evt (fun k => numnahref09_Word.f k s) (isWordC s) := by
  by_cases h : ∀ j, j < s.size → okAt s j
  · have := word_good s hs s.size 0 (by omega) (fun j _ hj => h j hj)
    refine Evt.val this ?_
    cases hc : isWordC s with
    | true => exact decide_eq_true (by have := ((isWordC_iff s).1 hc).1; omega)
    | false => exact decide_eq_false (fun hh => by
        have : isWordC s = true := (isWordC_iff s).2 ⟨by omega, h⟩
        rw [hc] at this; cases this)
  · have ⟨j, hj, hn⟩ : ∃ j, j < s.size ∧ ¬ okAt s j := by
      apply Classical.byContradiction
      intro hc
      exact h fun j hj => Classical.byContradiction fun hk => hc ⟨j, hj, hk⟩
    refine Evt.val (word_bad s hs s.size 0 (by omega) ⟨j, by omega, hj, hn⟩) ?_
    cases hc : isWordC s with
    | false => rfl
    | true => exact absurd (((isWordC_iff s).1 hc).2 j hj) hn
theorem same_ev (l : List S63) (hl : l.length ≤ 1000000) : Evt (fun k => numnahref09_Same.f k l l) true := by
  have : ∀ (m i : Nat), i + m = l.length → Evt (fun k => numnahref09_Same.l0 k l l (i : Int)) true := by
    intro m
    induction m with
    | zero =>
      intro i hi
      refine Evt.now fun k => ?_
      rw [numnahref09_Same.l0, if_neg (by omega)]
    | succ m ih =>
      intro i hi
      refine Evt.step (g' := fun k => numnahref09_Same.l0 k l l ((i + 1 : Nat) : Int)) (fun k => ?_) (ih (i + 1) (by omega))
      rw [numnahref09_Same.l0, if_pos (by omega), if_pos (by omega), if_pos (by omega), if_neg (by simp), wr (by omega) (by omega)]
      rfl
  refine (Evt.pos (c := (l.length : Int) = l.length) (g' := fun _ => some false) rfl (this l.length 0 (by omega))).congr fun k => ?_
  rw [numnahref09_Same.f]; rfl

/-! ### Copying -/
theorem copy_l2 (s : ByteArray) (hs : s.size ≤ 160) (out : List S63) (i j : Nat) (hj : j < i) (found bf bl : Int) (r : List S63) : ∀ (q n : Nat), i + n ≤ s.size → s.size ≤ i + n + q →
    Evt (fun k => if (ext s j i q n : Int) > found then numnahref09_Copying.l1 k s out i (ext s j i q n) ((j + 1 : Nat) : Int) j (ext s j i q n) else numnahref09_Copying.l1 k s out i found ((j + 1 : Nat) : Int) bf bl) r →
    Evt (fun k => numnahref09_Copying.l2 k s out i found j n bf bl) r
  | 0, n, h1, h2, h => by
    refine Evt.step (fun k => ?_) h
    rw [numnahref09_Copying.l2, wr (by omega) (by omega), if_neg (by omega), wr (x := (j : Int) + 1) (by omega) (by omega)]
    rfl
  | q + 1, n, h1, h2, h => by
    by_cases c : i + n < s.size
    · by_cases e : bt s ((j + n : Nat) : Int) = bt s ((i + n : Nat) : Int)
      · rw [ext, if_pos c, if_pos e] at h
        refine Evt.step (g' := fun k => numnahref09_Copying.l2 k s out i found j ((n + 1 : Nat) : Int) bf bl) (fun k => ?_) (copy_l2 s hs out i j hj found bf bl r q (n + 1) (by omega) (by omega) h)
        rw [numnahref09_Copying.l2, wr (x := (i : Int) + n) (by omega) (by omega), wr (x := (j : Int) + n) (by omega) (by omega), if_pos (by omega), if_pos (by omega), if_pos (by omega), if_pos (by omega), if_pos (by
          rw [show (j : Int) + n = ((j + n : Nat) : Int) by omega, show (i : Int) + n = ((i + n : Nat) : Int) by omega]; exact e), wr (by omega) (by omega)]
        rfl
      · rw [ext, if_pos c, if_neg e] at h
        refine Evt.step (fun k => ?_) h
        rw [numnahref09_Copying.l2, wr (x := (i : Int) + n) (by omega) (by omega), wr (x := (j : Int) + n) (by omega) (by omega), if_pos (by omega), if_pos (by omega), if_pos (by omega), if_pos (by omega), if_neg (by
          rw [show (j : Int) + n = ((j + n : Nat) : Int) by omega, show (i : Int) + n = ((i + n : Nat) : Int) by omega]; exact e), wr (x := (j : Int) + 1) (by omega) (by omega)]
        rfl
    · rw [ext, if_neg c] at h
      refine Evt.step (fun k => ?_) h
      rw [numnahref09_Copying.l2, wr (by omega) (by omega), if_neg (by omega), wr (x := (j : Int) + 1) (by omega) (by omega)]
      rfl
theorem copy_l1 (s : ByteArray) (hs : s.size ≤ 160) (out : List S63) (hout : out.length ≤ 160) (i : Nat) (hi : i < s.size) (r : List S63) : ∀ (m j : Nat) (found bf bl : Int), j + m = i → ((bf = -1 ∧ bl = 1 ∧ found = 0) ∨ (0 ≤ bf ∧ 1 ≤ bl ∧ found = bl)) →
    Evt (fun k => numnahref09_Copying.l0 k s (out ++ [(⟨(earlF s i m j (bf, bl)).1, (earlF s i m j (bf, bl)).2⟩ : S63)]) (wrap64 ((i : Int) + (earlF s i m j (bf, bl)).2))) r →
    Evt (fun k => numnahref09_Copying.l1 k s out i found j bf bl) r
  | 0, j, found, bf, bl, hj, hf, h => by
    refine Evt.step (fun k => ?_) h
    rw [numnahref09_Copying.l1, if_neg (by omega), if_pos (by omega)]
    rfl
  | m + 1, j, found, bf, bl, hj, hf, h => by
    refine Evt.step (g' := fun k => numnahref09_Copying.l2 k s out i found j ((0 : Nat) : Int) bf bl) (fun k => by rw [numnahref09_Copying.l1, if_pos (by omega)]; rfl) ?_
    refine copy_l2 s hs out i j (by omega) found bf bl r s.size 0 (by omega) (by omega) ?_
    rw [earlF] at h
    have key : (0 < ext s j i s.size 0 ∧ ((bf, bl) = ((-1 : Int), (1 : Int)) ∨ (bf, bl).2 < (ext s j i s.size 0 : Int))) ↔ (ext s j i s.size 0 : Int) > found := by
      rcases hf with ⟨rfl, rfl, rfl⟩ | ⟨h1, h2, rfl⟩
      · constructor
        · rintro ⟨h1, _⟩; omega
        · intro h1; exact ⟨by omega, .inl rfl⟩
      · constructor
        · rintro ⟨h3, h4⟩
          rcases h4 with h4 | h4
          · have := congrArg Prod.fst h4
            have : bf = -1 := this
            omega
          · exact h4
        · intro h3; exact ⟨by omega, .inr h3⟩
    by_cases c : (ext s j i s.size 0 : Int) > found
    · refine Evt.pos c ?_
      rw [pick9, if_pos (key.2 c)] at h
      exact copy_l1 s hs out hout i hi r m (j + 1) _ _ _ (by omega) (.inr ⟨by omega, by rcases hf with ⟨_, _, h3⟩ | ⟨_, h2, h3⟩ <;> omega, rfl⟩) h
    · refine Evt.neg c ?_
      rw [pick9, if_neg (fun hh => c (key.1 hh))] at h
      exact copy_l1 s hs out hout i hi r m (j + 1) _ _ _ (by omega) hf h
theorem copy_l0 (s : ByteArray) (hs : s.size ≤ 160) : ∀ (q i : Nat) (out : List S63), i ≤ s.size → s.size ≤ i + q → out.length ≤ i → Evt (fun k => numnahref09_Copying.l0 k s out (i : Int)) (out ++ copF s q i)
  | 0, i, out, hi, hq, ho => by
    refine Evt.now fun k => ?_
    rw [numnahref09_Copying.l0, if_neg (by omega), copF, List.append_nil]
  | q + 1, i, out, hi, hq, ho => by
    by_cases c : i < s.size
    · have ok := earl_ok s i c
      rw [copF, if_pos c]
      refine Evt.step (g' := fun k => numnahref09_Copying.l1 k s out i 0 ((0 : Nat) : Int) (-1) 1) (fun k => by rw [numnahref09_Copying.l0, if_pos (by omega)]; rfl) ?_
      refine copy_l1 s hs out (by omega) i c _ i 0 0 (-1) 1 (by omega) (.inl ⟨rfl, rfl, rfl⟩) ?_
      have h2 : (factS s i).f1 = (earlF s i i 0 (-1, 1)).2 := rfl
      have h1 := ok.1
      have h3 := ok.2.1
      rw [wr (by omega) (by omega), show (i : Int) + (earlF s i i 0 (-1, 1)).2 = ((i + (factS s i).f1.toNat : Nat) : Int) by rw [h2]; omega]
      have := copy_l0 s hs q (i + (factS s i).f1.toNat) (out ++ [factS s i]) (by rw [h2]; omega) (by rw [h2]; omega) (by rw [List.length_append, List.length_singleton, h2]; omega)
      rw [List.append_assoc] at this
      exact this
    · refine Evt.now fun k => ?_
      rw [numnahref09_Copying.l0, if_neg (by omega), copF, if_neg c, List.append_nil]
theorem refCopying_ev (s : ByteArray) (hs : s.size ≤ 160) : Evt (fun k => numnahref09_Copying.f k s) (copF s s.size 0) := copy_l0 s hs s.size 0 [] (by omega) (by omega) (by simp)

/-! ### Learning -/
theorem toList_eq_iff (a b : ByteArray) : a.toList = b.toList ↔ a = b := by
  rw [ByteArray.toList_eq, ByteArray.toList_eq]
  constructor
  · intro h
    cases a; cases b
    simp at h
    rw [h]
  · intro h; rw [h]
theorem number_ev (t : ByteArray) (l : List ByteArray) (hl : l.length ≤ 1000) : Evt (fun k => numnahref09_number.f k l t) (numK t l 0) := by
  have : ∀ (m i : Nat), i + m = l.length → Evt (fun k => numnahref09_number.l0 k l t (i : Int)) (numK t (l.drop i) i) := by
    intro m
    induction m with
    | zero =>
      intro i hi
      refine Evt.now fun k => ?_
      rw [numnahref09_number.l0, if_neg (by omega), List.drop_eq_nil_of_le (by omega), numK]
    | succ m ih =>
      intro i hi
      have hlt : i < l.length := by omega
      have e : rdOf ByteArray.empty l (i : Int) = l[i] := by simp [rdOf, hlt]
      rw [List.drop_eq_getElem_cons hlt, numK]
      by_cases c : l[i] = t
      · rw [if_pos c]
        refine Evt.now fun k => ?_
        rw [numnahref09_number.l0, if_pos (by omega), if_pos (by omega), e, if_pos ((toList_eq_iff _ _).2 c), wr (by omega) (by omega)]
        rfl
      · rw [if_neg c]
        refine Evt.step (g' := fun k => numnahref09_number.l0 k l t ((i + 1 : Nat) : Int)) (fun k => ?_) (ih (i + 1) (by omega))
        rw [numnahref09_number.l0, if_pos (by omega), if_pos (by omega), e, if_neg (fun h => c ((toList_eq_iff _ _).1 h)), wr (by omega) (by omega)]
        rfl
  exact this l.length 0 (by omega)
theorem sub_eq (s : ByteArray) (i n : Nat) (a b : Int) (ha : a = (i : Int)) (hb : b = ((i + n : Nat) : Int)) : s.extract a.toNat b.toNat = subAt s n i := by
  subst ha; subst hb
  rw [Int.toNat_natCast, Int.toNat_natCast]; rfl
theorem lear_j2 (s : ByteArray) (hs : s.size ≤ 160) (out : List S63) (known : List ByteArray) (i : Nat) (ho : out.length ≤ 160) (hk : known.length ≤ 160) (r : List S63) : ∀ (q n : Nat), i + n < s.size → s.size ≤ i + n + q →
    Evt (fun k => numnahref09_Learning.l0 k s (out ++ [(⟨numK (subAt s (extL s known i q (n + 1) - 1) i) known 0, extL s known i q (n + 1)⟩ : S63)]) (known ++ [subAt s (extL s known i q (n + 1)) i]) ((i + extL s known i q (n + 1) : Nat) : Int)) r →
    Evt (fun k => numnahref09_Learning.j2 k s out known i n true) r
  | 0, n, h1, h2, h => by omega
  | q + 1, n, h1, h2, h => by
    have w1 : wrap64 ((n : Int) + 1) = ((n + 1 : Nat) : Int) := (wr (by omega) (by omega)).trans (by omega)
    have w2 : wrap64 ((i : Int) + ((n + 1 : Nat) : Int)) = ((i + (n + 1) : Nat) : Int) := (wr (by omega) (by omega)).trans (by omega)
    have w3 : wrap64 (((i + (n + 1) : Nat) : Int) - 1) = ((i + n : Nat) : Int) := (wr (by omega) (by omega)).trans (by omega)
    have e1 : s.extract (i : Int).toNat ((i + (n + 1) : Nat) : Int).toNat = subAt s (n + 1) i := sub_eq s i (n + 1) _ _ rfl rfl
    have e2 : s.extract (i : Int).toNat ((i + n : Nat) : Int).toNat = subAt s n i := sub_eq s i n _ _ rfl rfl
    refine Evt.step (g' := fun k => (numnahref09_number.f k known (subAt s (n + 1) i)).bind fun t280 => (if t280 = 0 then (if (i : Int) ≤ ((i + n : Nat) : Int) then (if ((i + n : Nat) : Int) ≤ (s.size : Int) then ((numnahref09_number.f k known (subAt s n i)).bind fun t281 => (if out.length < 8796093022208 then (if known.length < 8796093022208 then (numnahref09_Learning.l0 k s (out ++ [(⟨t281, ((n + 1 : Nat) : Int)⟩ : S63)]) (known ++ [subAt s (n + 1) i]) ((i + (n + 1) : Nat) : Int)) else (none)) else (none))) else (none)) else (none)) else (numnahref09_Learning.l1 k s out known i ((n + 1 : Nat) : Int) t280))) (fun k => ?_) ?_
    · rw [numnahref09_Learning.j2, if_pos rfl, w1, w2, w3, e1, e2, if_pos (by omega), if_pos (by omega), if_pos (by omega)]
    · refine Evt.bind (number_ev _ _ (by omega)) ?_
      by_cases c : memB (subAt s (n + 1) i) known = true
      · have hpos := numK_pos (m := 0) (memB_iff.1 c)
        refine Evt.neg (by omega) ?_
        by_cases c2 : i + (n + 1) < s.size
        · rw [extL, if_pos ⟨c2, c⟩] at h
          refine Evt.step (g' := fun k => numnahref09_Learning.j2 k s out known i ((n + 1 : Nat) : Int) true) (fun k => ?_) (lear_j2 s hs out known i ho hk r q (n + 1) c2 (by omega) h)
          rw [numnahref09_Learning.l1, if_neg (by omega), if_pos (by omega), w2, decide_eq_true (by omega)]
        · rw [extL, if_neg (fun hh => c2 hh.1)] at h
          refine Evt.step (g' := fun k => numnahref09_Learning.j2 k s out known i ((n + 1 : Nat) : Int) false) (fun k => ?_) ?_
          · rw [numnahref09_Learning.l1, if_neg (by omega), if_pos (by omega), w2, decide_eq_false (by omega)]
          · refine Evt.step (g' := fun k => (numnahref09_number.f k known (subAt s n i)).bind fun t288 => (if out.length < 8796093022208 then (if (i : Int) ≤ ((i + (n + 1) : Nat) : Int) then (if ((i + (n + 1) : Nat) : Int) ≤ (s.size : Int) then (if known.length < 8796093022208 then (numnahref09_Learning.l0 k s (out ++ [(⟨t288, ((n + 1 : Nat) : Int)⟩ : S63)]) (known ++ [subAt s (n + 1) i]) ((i + (n + 1) : Nat) : Int)) else (none)) else (none)) else (none)) else (none))) (fun k => ?_) ?_
            · rw [numnahref09_Learning.j2, if_neg (by decide), w2, w3, e1, e2, if_pos (by omega), if_pos (by omega), if_pos (by omega)]
            · refine Evt.bind (number_ev _ _ (by omega)) ?_
              exact Evt.pos (by omega) (Evt.pos (by omega) (Evt.pos (by omega) (Evt.pos (by omega) h)))
      · rw [extL, if_neg (fun hh => c hh.2)] at h
        have h0 : numK (subAt s (n + 1) i) known 0 = 0 := numK_mem (fun hh => c (memB_iff.2 hh))
        refine Evt.pos h0 (Evt.pos (by omega) (Evt.pos (by omega) (Evt.bind (number_ev _ _ (by omega)) ?_)))
        exact Evt.pos (by omega) (Evt.pos (by omega) h)
theorem lear_l0 (s : ByteArray) (hs : s.size ≤ 160) : ∀ (q i : Nat) (out : List S63) (known : List ByteArray), i ≤ s.size → s.size ≤ i + q → out.length ≤ i → known.length ≤ i → Evt (fun k => numnahref09_Learning.l0 k s out known (i : Int)) (learnF s q i known out)
  | 0, i, out, known, hi, hq, ho, hk => by
    refine Evt.now fun k => ?_
    rw [numnahref09_Learning.l0, if_neg (by omega), learnF]
  | q + 1, i, out, known, hi, hq, ho, hk => by
    by_cases c : i < s.size
    · rw [learnF, if_pos c]
      have h1 := extL_ge s known i s.size 1
      have h2 := extL_le s known i s.size 1 (by omega)
      refine Evt.step (g' := fun k => numnahref09_Learning.l1 k s out known i 0 0) (fun k => by rw [numnahref09_Learning.l0, if_pos (by omega)]) ?_
      refine Evt.step (g' := fun k => numnahref09_Learning.j2 k s out known i ((0 : Nat) : Int) true) (fun k => by rw [numnahref09_Learning.l1, if_pos rfl]; rfl) ?_
      refine lear_j2 s hs out known i (by omega) (by omega) _ s.size 0 (by omega) (by omega) ?_
      exact lear_l0 s hs q _ _ _ (by simpa using h2) (by simp only [Nat.zero_add]; omega) (by rw [List.length_append, List.length_singleton]; simp only [Nat.zero_add]; omega) (by rw [List.length_append, List.length_singleton]; simp only [Nat.zero_add]; omega)
    · refine Evt.now fun k => ?_
      rw [numnahref09_Learning.l0, if_neg (by omega), learnF_stop c]
theorem refLearning_ev (s : ByteArray) (hs : s.size ≤ 160) : Evt (fun k => numnahref09_Learning.f k s) (learnF s s.size 0 [] []) := lear_l0 s hs s.size 0 [] [] (by omega) (by omega) (by simp) (by simp)
theorem copF_len (s : ByteArray) : ∀ q i, (copF s q i).length ≤ q
  | 0, i => by simp [copF]
  | q + 1, i => by
    rw [copF]
    split
    · have := copF_len s q (i + (factS s i).f1.toNat)
      simp only [List.length_cons]; omega
    · simp
theorem learnF_len (s : ByteArray) : ∀ q i known out, (learnF s q i known out).length ≤ out.length + q
  | 0, i, known, out => by simp [learnF]
  | q + 1, i, known, out => by
    rw [learnF]
    split
    · refine Nat.le_trans (learnF_len s q _ _ _) ?_
      rw [List.length_append, List.length_singleton]; omega
    · omega
end Go.Proofs.YtpeeflkodpnbpaaDoor.Pr
