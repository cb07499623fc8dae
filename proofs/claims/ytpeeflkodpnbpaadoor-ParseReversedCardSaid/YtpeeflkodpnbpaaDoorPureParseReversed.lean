/- ParseReversed, plainly: a word and its reversal have the same numbers of substrings, the same Delta and equally long repeated strings; turning a word leaves its last letters and runs as they are. -/
import Derived.Test.YtpeeflkodpnbpaaDoorHEv
import Derived.Test.YtpeeflkodpnbpaaDoorPrB17
import Derived.Test.YtpeeflkodpnbpaaDoorHSort
import Derived.Test.YtpeeflkodpnbpaaDoorPrB22
import Derived.Test.YtpeeflkodpnbpaaDoorPrA10
import Derived.Test.YtpeeflkodpnbpaaDoorPrA22
import Derived.Test.YtpeeflkodpnbpaaDoorHCnt
import Derived.Test.YtpeeflkodpnbpaaDoorHDelta
import Derived.Test.YtpeeflkodpnbpaaDoorHLong
import Derived.Test.YtpeeflkodpnbpaaDoorPrA23
import Derived.Test.YtpeeflkodpnbpaaDoorHWord
import Derived.Test.YtpeeflkodpnbpaaDoorPrA8
import Derived.Test.YtpeeflkodpnbpaaDoorPrB19
import Derived.Test.YtpeeflkodpnbpaaDoorPrB12
/- Turns, plainly: the last letters of the sorted turns, the position of the word; the reference's. -/
namespace Go.Proofs.YtpeeflkodpnbpaaDoor.Pr
open Go.RowKit Go.Proofs.YtpeeflkodpnbpaaDoorW.PrintWords Go.Proofs.YtpeeflkodpnbpaaDoorW.PrintLast Go.Proofs.YtpeeflkodpnbpaaDoorW.PrintMore
set_option linter.unusedVariables false
set_option linter.unusedSimpArgs false

/-- the turn that begins at i -/
def rotS (s : ByteArray) (i : Nat) : ByteArray := s.extract i s.size ++ s.extract 0 i
def rotsUp (s : ByteArray) : Nat → List ByteArray
  | 0 => []
  | k + 1 => rotsUp s k ++ [rotS s k]
def rots (s : ByteArray) : List ByteArray := rotsUp s s.size
theorem rotS_size (s : ByteArray) (i : Nat) (h : i ≤ s.size) : (rotS s i).size = s.size := by
  unfold rotS
  rw [ByteArray.size_append, ByteArray.size_extract, ByteArray.size_extract]
  omega
theorem rotsUp_len (s : ByteArray) : ∀ k, (rotsUp s k).length = k
  | 0 => rfl
  | k + 1 => by rw [rotsUp, List.length_append, rotsUp_len s k]; rfl
theorem mem_rotsUp {s t : ByteArray} : ∀ {k : Nat}, t ∈ rotsUp s k ↔ ∃ j, j < k ∧ t = rotS s j
  | 0 => by simp [rotsUp]
  | k + 1 => by
    rw [rotsUp, List.mem_append, mem_rotsUp, List.mem_singleton]
    constructor
    · rintro (⟨j, hj, h⟩ | h)
      · exact ⟨j, by omega, h⟩
      · exact ⟨k, by omega, h⟩
    · rintro ⟨j, hj, h⟩
      by_cases e : j = k
      · subst e; exact .inr h
      · exact .inl ⟨j, by omega, h⟩
/-- the last letter, as a number -/
def lastN (t : ByteArray) : Int := bt t ((t.size : Int) - 1)
def lastsOf (l : List ByteArray) : List Int := l.map lastN
/-- the first place of s in a list, or -1 -/
def idxS (s : ByteArray) : List ByteArray → Nat → Int
  | [], _ => -1
  | x :: l, i => if s = x then (i : Int) else idxS s l (i + 1)
theorem toList_iff (a b : ByteArray) : a.toList = b.toList ↔ a = b := by
  rw [ByteArray.toList_eq, ByteArray.toList_eq]
  constructor
  · intro h
    cases a; cases b
    simp at h
    rw [h]
  · intro h; rw [h]
theorem index_ev' (s : ByteArray) (l : List ByteArray) (hl : l.length ≤ 1000) : Evt (fun k => slices_Index_string_string.f k l s) (idxS s l 0) := by
  have : ∀ (m i : Nat), i + m = l.length → Evt (fun k => slices_Index_string_string.l0 k l s (l.length : Int) (i : Int)) (idxS s (l.drop i) i) := by
    intro m
    induction m with
    | zero =>
      intro i hi
      refine Evt.now fun k => ?_
      rw [slices_Index_string_string.l0, if_neg (by omega), List.drop_eq_nil_of_le (by omega), idxS]
    | succ m ih =>
      intro i hi
      have hlt : i < l.length := by omega
      have e : rdOf ByteArray.empty l (i : Int) = l[i] := by simp [rdOf, hlt]
      rw [List.drop_eq_getElem_cons hlt, idxS]
      by_cases c : s = l[i]
      · rw [if_pos c]
        refine Evt.now fun k => ?_
        rw [slices_Index_string_string.l0, if_pos (by omega), if_pos (by omega), if_pos (by omega), e, if_pos ((toList_iff _ _).2 c)]
      · rw [if_neg c]
        refine Evt.step (g' := fun k => slices_Index_string_string.l0 k l s (l.length : Int) ((i + 1 : Nat) : Int)) (fun k => ?_) (ih (i + 1) (by omega))
        rw [slices_Index_string_string.l0, if_pos (by omega), if_pos (by omega), if_pos (by omega), e, if_neg (fun h => c ((toList_iff _ _).1 h)), wr (by omega) (by omega)]
        rfl
  exact this l.length 0 (by omega)
/-- the last letters of a sorted list of turns, as the code fills them in -/
theorem lasts_ev (s : ByteArray) (hs : s.size ≤ 1000) (l : List ByteArray) (hl : l.length = s.size) (hsz : ∀ t, t ∈ l → t.size = s.size) : ∀ (m i : Nat) (out : List Int), i + m = l.length → out.length = s.size → out.take i = lastsOf (l.take i) →
    Evt (fun k => parse_Turns.l1 k s l out l (l.length : Int) (i : Int)) (strOfNums (lastsOf l), mx 0 (idxS s l 0), 0) := by
  intro m
  induction m with
  | zero =>
    intro i out hi ho ht
    have : out = lastsOf l := by
      have h1 : out.take i = out := List.take_of_length_le (by omega)
      have h2 : l.take i = l := List.take_of_length_le (by omega)
      rw [h1, h2] at ht
      exact ht
    subst this
    refine Evt.step (g' := fun k => (slices_Index_string_string.f k l s).bind fun t237 => some (strOfNums (lastsOf l), mx 0 t237, 0)) (fun k => ?_) (Evt.bind (index_ev' s l (by omega)) (Evt.const rfl))
    rw [parse_Turns.l1, if_neg (by omega)]
  | succ m ih =>
    intro i out hi ho ht
    have hlt : i < l.length := by omega
    have e : rdOf ByteArray.empty l (i : Int) = l[i] := by simp [rdOf, hlt]
    have hz : l[i].size = s.size := hsz _ (List.getElem_mem hlt)
    have hw : wrap64 ((l[i].size : Int) - 1) = (l[i].size : Int) - 1 := wr (by omega) (by omega)
    refine Evt.step (g' := fun k => parse_Turns.l1 k s l (out.set i (lastN l[i])) l (l.length : Int) ((i + 1 : Nat) : Int)) (fun k => ?_) (ih (i + 1) (out.set i (lastN l[i])) (by omega) (by rw [List.length_set]; exact ho) ?_)
    · have c1 : (i : Int) < (l.length : Int) := by omega
      have c2 : (0 : Int) ≤ (i : Int) := by omega
      have c3 : (0 : Int) ≤ (l[i].size : Int) - 1 := by omega
      have c4 : (l[i].size : Int) - 1 < (l[i].size : Int) := by omega
      have c5 : (i : Int) < (out.length : Int) := by omega
      rw [parse_Turns.l1, if_pos c1, if_pos c2, if_pos c1, e, hw, if_pos c3, if_pos c4, if_pos c5, wr (x := (i : Int) + 1) (by omega) (by omega)]
      rfl
    · have h1 : (out.set i (lastN l[i])).take (i + 1) = out.take i ++ [lastN l[i]] := by
        apply List.ext_getElem?
        intro j
        by_cases hj : j < i
        · simp [List.getElem?_take, hj, show j < i + 1 by omega, List.getElem?_append, show j < min i out.length by omega, List.getElem?_set, show ¬ i = j by omega]
        · by_cases hj2 : j = i
          · subst hj2
            simp [List.getElem?_take, List.getElem?_append, show ¬ j < min j out.length by omega, List.getElem?_set, show j < out.length by omega, show min j out.length = j by omega]
          · have : ¬ j < i + 1 := by omega
            simp [List.getElem?_take, this, List.getElem?_append, show ¬ j < min i out.length by omega]
            omega
      rw [h1, ht, lastsOf, lastsOf, ← List.map_singleton (f := lastN), ← List.map_append]
      congr 1
      exact (List.take_succ_eq_append_getElem hlt).symm
def turnL (s : ByteArray) : ByteArray := strOfNums (lastsOf (sortS (rots s)))
def turnP (s : ByteArray) : Int := mx 0 (idxS s (sortS (rots s)) 0)

theorem turns_l0 (s : ByteArray) (hs : s.size ≤ 160) : ∀ (m i : Nat), i + m = s.size → Evt (fun k => parse_Turns.l0 k s (rotsUp s i) (s.size : Int) (i : Int)) (turnL s, turnP s, 0) := by
  intro m
  induction m with
  | zero =>
    intro i hi
    obtain rfl : i = s.size := by omega
    have hlen := rotsUp_len s s.size
    have hl2 : (sortS (rots s)).length = s.size := by rw [sortS_len]; exact hlen
    have hsort : slices_Sort_string_string.f (rotsUp s s.size) = some (sortS (rots s)) := by
      unfold slices_Sort_string_string.f
      rw [if_pos (by rw [hlen]; omega)]; rfl
    refine Evt.step (g' := fun k => parse_Turns.l1 k s (sortS (rots s)) (List.replicate s.size 0) (sortS (rots s)) ((sortS (rots s)).length : Int) ((0 : Nat) : Int)) (fun k => ?_) ?_
    · rw [parse_Turns.l0, if_neg (by omega), hsort, Option.bind_some, if_pos (by omega), if_pos (by omega), hl2, hlen]
      rfl
    · refine lasts_ev s (by omega) _ hl2 (fun t ht => ?_) s.size 0 _ (by omega) (by simp) (by simp [lastsOf])
      obtain ⟨j, hj, rfl⟩ := mem_rotsUp.1 ((sortS_perm _).mem_iff.1 ht)
      exact rotS_size s j (by omega)
  | succ m ih =>
    intro i hi
    refine Evt.step (g' := fun k => parse_Turns.l0 k s (rotsUp s (i + 1)) (s.size : Int) ((i + 1 : Nat) : Int)) (fun k => ?_) (ih (i + 1) (by omega))
    have hz := rotS_size s i (by omega)
    have hz2 : (s.extract (i : Int).toNat s.size).size + (s.extract 0 (i : Int).toNat).size ≤ 9223372036854775807 := by
      rw [ByteArray.size_extract, ByteArray.size_extract]; omega
    have hl := rotsUp_len s i
    rw [parse_Turns.l0, if_pos (by omega), if_pos (by omega), if_pos (by omega), if_pos hz2, if_pos (by omega), wr (by omega) (by omega)]
    rfl
theorem turns_ev (s : ByteArray) (h : isWordC s = true) : Evt (fun k => parse_Turns.f k s) (turnL s, turnP s, 0) := by
  have hs := ((isWordC_iff s).1 h).1
  refine Evt.congr (turns_l0 s hs s.size 0 (by omega)) (fun k => ?_)
  rw [parse_Turns.f, parse_isWord.f, h, Option.bind_some, if_pos rfl]
  rfl
theorem turns_no (s : ByteArray) (h : isWordC s = false) : Evt (fun k => parse_Turns.f k s) ((⟨#[]⟩ : ByteArray), 0, 2) := by
  refine Evt.all (fun k => ?_)
  rw [parse_Turns.f, parse_isWord.f, h, Option.bind_some, if_neg (by decide)]

/-! ### the reference -/
theorem insS_at (x : ByteArray) : ∀ (l : List ByteArray) (p : Nat), p ≤ l.length → (∀ y, y ∈ l.take p → Op.bytesLess y.toList x.toList = true) → insS x l = l.take p ++ insS x (l.drop p)
  | l, 0, _, _ => by simp
  | [], p + 1, h, _ => by simp at h
  | y :: l, p + 1, h, hl => by
    rw [List.take_succ_cons, List.drop_succ_cons, insS, if_pos (hl y (by simp)), List.cons_append, ← insS_at x l p (by simpa using h) (fun z hz => hl z (by simp [hz]))]
theorem ins_l1 (s : ByteArray) (hs : s.size ≤ 160) (l : List ByteArray) (hl : l.length ≤ 160) (i : Nat) (hi : i < s.size) (x : ByteArray) (r : ByteArray × Int) : ∀ (m p : Nat), p + m = l.length → (∀ y, y ∈ l.take p → Op.bytesLess y.toList x.toList = true) →
    Evt (fun k => numnahref09_Turns.l0 k s (insS x l) ((i + 1 : Nat) : Int)) r → Evt (fun k => numnahref09_Turns.l1 k s l (i : Int) x (p : Int)) r := by
  have fin : ∀ p, p ≤ l.length → ∀ k, ((some (l.take (p : Int).toNat : List ByteArray)).bind fun y384 => (if ([] : List ByteArray).length + y384.length < 8796093022208 then ((some (([] : List ByteArray) ++ y384 : List ByteArray)).bind fun y388 => (if y388.length < 8796093022208 then ((some (y388 ++ [x] : List ByteArray)).bind fun y391 => ((some (l.drop (p : Int).toNat : List ByteArray)).bind fun y394 => (if y391.length + y394.length < 8796093022208 then (numnahref09_Turns.l0 k s (y391 ++ y394) (wrap64 ((i : Int) + 1))) else (none)))) else (none))) else (none))) = numnahref09_Turns.l0 k s ((l.take p ++ [x]) ++ l.drop p) ((i + 1 : Nat) : Int) := by
    intro p hp k
    rw [Option.bind_some, if_pos (by simp; omega), Option.bind_some, if_pos (by simp; omega), Option.bind_some, Option.bind_some, if_pos (by simp; omega), wr (by omega) (by omega)]
    rfl
  intro m
  induction m with
  | zero =>
    intro p hp hlt h
    have e : insS x l = (l.take p ++ [x]) ++ l.drop p := by
      rw [insS_at x l p (by omega) hlt, List.drop_eq_nil_of_le (by omega), insS, List.append_nil]
    refine Evt.step (fun k => ?_) h
    rw [numnahref09_Turns.l1, if_neg (by omega), if_pos (by omega), if_pos (by omega), fin p (by omega), e]
  | succ m ih =>
    intro p hp hlt h
    have hpl : p < l.length := by omega
    have e : rdOf ByteArray.empty l (p : Int) = l[p] := by simp [rdOf, hpl]
    by_cases c : Op.bytesLess l[p].toList x.toList = true
    · refine Evt.step (g' := fun k => numnahref09_Turns.l1 k s l (i : Int) x ((p + 1 : Nat) : Int)) (fun k => ?_) (ih (p + 1) (by omega) (fun y hy => ?_) h)
      · rw [numnahref09_Turns.l1, if_pos (by omega), if_pos (by omega), e, if_pos c, wr (x := (p : Int) + 1) (by omega) (by omega)]
        rfl
      · rw [List.take_succ_eq_append_getElem hpl, List.mem_append, List.mem_singleton] at hy
        rcases hy with hy | rfl
        · exact hlt y hy
        · exact c
    · have e2 : insS x l = (l.take p ++ [x]) ++ l.drop p := by
        rw [insS_at x l p (by omega) hlt, List.drop_eq_getElem_cons hpl, insS, if_neg c]
        simp
      refine Evt.step (fun k => ?_) h
      rw [numnahref09_Turns.l1, if_pos (by omega), if_pos (by omega), e, if_neg c, if_pos (by omega), fin p (by omega), e2]
theorem lastPiece (t : ByteArray) (n : Nat) (hn : t.size = n) (h1 : 1 ≤ n) (l : List Int) : t.extract (n - 1) t.size ++ strOfNums l = strOfNums (lastN t :: l) := by
  have hlt : n - 1 < t.data.size := by have : t.data.size = n := hn; omega
  have e : lastN t = ((t.data[n - 1]'hlt).toNat : Int) := by
    unfold lastN bt
    rw [dif_pos (by rw [hn]; omega)]
    have : ((t.size : Int) - 1).toNat = n - 1 := by omega
    simp only [this]
    rfl
  apply ByteArray.ext
  apply Array.ext'
  rw [ByteArray.data_append, ByteArray.data_extract, Array.toList_append, Array.toList_extract]
  show _ = (lastN t :: l).map (fun n => UInt8.ofNat n.toNat)
  rw [List.map_cons, e]
  have hd : t.data.toList.drop (n - 1) = [t.data[n - 1]'hlt] := by
    rw [List.drop_eq_getElem_cons (by simpa using hlt), List.drop_eq_nil_of_le (by have : t.data.size = n := hn; simp; omega)]
    simp
  have ht : t.size - (n - 1) = 1 := by omega
  rw [List.extract_eq_take_drop, hd, ht]
  simp [strOfNums]
theorem refTurns_l2 (s : ByteArray) (hs : s.size ≤ 160) (l : List ByteArray) (hl : l.length ≤ s.size) (hsz : ∀ t, t ∈ l → t.size = s.size) : ∀ (i : Nat), i ≤ l.length → Evt (fun k => numnahref09_Turns.l2 k s l (strOfNums (lastsOf (l.drop i))) (mx 0 (idxS s (l.drop i) i)) ((i : Int) - 1)) (strOfNums (lastsOf l), mx 0 (idxS s l 0))
  | 0, hi => by
    refine Evt.now fun k => ?_
    rw [numnahref09_Turns.l2, if_neg (by omega), List.drop_zero]
  | i + 1, hi => by
    have hlt : i < l.length := by omega
    have e : rdOf ByteArray.empty l (i : Int) = l[i] := by simp [rdOf, hlt]
    have hz : l[i].size = s.size := hsz _ (List.getElem_mem hlt)
    have ih := refTurns_l2 s hs l hl hsz i (by omega)
    rw [List.drop_eq_getElem_cons hlt] at ih
    have e0 : (((i + 1 : Nat) : Int) - 1) = (i : Int) := by omega
    have ew : wrap64 ((s.size : Int) - 1) = (s.size : Int) - 1 := wr (by omega) (by omega)
    have ep : (l[i].extract ((s.size : Int) - 1).toNat l[i].size) ++ strOfNums (lastsOf (l.drop (i + 1))) = strOfNums (lastsOf (l[i] :: l.drop (i + 1))) := by
      have := lastPiece l[i] s.size hz (by omega) (lastsOf (l.drop (i + 1)))
      rw [show ((s.size : Int) - 1).toNat = s.size - 1 by omega]
      exact this
    have el : (l[i].extract ((s.size : Int) - 1).toNat l[i].size).size + (strOfNums (lastsOf (l.drop (i + 1)))).size ≤ 9223372036854775807 := by
      rw [ByteArray.size_extract, strOfNums_size, lastsOf, List.length_map, List.length_drop]; omega
    have w1 : wrap64 ((i : Int) - 1) = (i : Int) - 1 := wr (by omega) (by omega)
    have c1 : (i : Int) ≥ 0 := by omega
    have c2 : (i : Int) < (l.length : Int) := by omega
    have c3 : (0 : Int) ≤ (s.size : Int) - 1 := by omega
    have c4 : (s.size : Int) - 1 ≤ (l[i].size : Int) := by omega
    rw [e0]
    by_cases c : s = l[i]
    · rw [idxS, if_pos c] at ih
      have hm : mx 0 (i : Int) = (i : Int) := by unfold mx; split <;> omega
      rw [hm] at ih
      refine Evt.step (fun k => ?_) ih
      rw [numnahref09_Turns.l2, if_pos c1, if_pos c1, if_pos c2, ew, if_pos c3, e, if_pos c4, if_pos el, if_pos ((toList_iff _ _).2 c.symm), ep, w1]
    · rw [idxS, if_neg c] at ih
      refine Evt.step (fun k => ?_) ih
      rw [numnahref09_Turns.l2, if_pos c1, if_pos c1, if_pos c2, ew, if_pos c3, e, if_pos c4, if_pos el, if_neg (fun h => c ((toList_iff _ _).1 h).symm), ep, w1]
def insUp (s : ByteArray) : Nat → List ByteArray
  | 0 => []
  | k + 1 => insS (rotS s k) (insUp s k)
theorem insUp_perm (s : ByteArray) : ∀ k, (insUp s k).Perm (rotsUp s k)
  | 0 => .refl _
  | k + 1 => by
    rw [insUp, rotsUp]
    exact (insS_perm _ _).trans (((insUp_perm s k).cons _).trans (List.perm_append_singleton _ _).symm)
theorem insUp_sorted (s : ByteArray) : ∀ k, (insUp s k).Pairwise leS
  | 0 => .nil
  | k + 1 => insS_sorted _ _ (insUp_sorted s k)
theorem insUp_eq (s : ByteArray) : insUp s s.size = sortS (rots s) :=
  sortedS_unique (insUp_sorted s _) (sortS_sorted _) ((insUp_perm s _).trans (sortS_perm _).symm)
theorem refTurns_l0 (s : ByteArray) (hs : s.size ≤ 160) : ∀ (m i : Nat), i + m = s.size → Evt (fun k => numnahref09_Turns.l0 k s (insUp s i) (i : Int)) (turnL s, turnP s) := by
  intro m
  induction m with
  | zero =>
    intro i hi
    obtain rfl : i = s.size := by omega
    have hlen : (sortS (rots s)).length = s.size := by rw [sortS_len]; exact rotsUp_len s s.size
    have := refTurns_l2 s hs (sortS (rots s)) (by omega) (fun t ht => by
      obtain ⟨j, hj, rfl⟩ := mem_rotsUp.1 ((sortS_perm _).mem_iff.1 ht)
      exact rotS_size s j (by omega)) (sortS (rots s)).length (Nat.le_refl _)
    rw [List.drop_length] at this
    refine Evt.step (fun k => ?_) this
    rw [numnahref09_Turns.l0, if_neg (by omega), insUp_eq, wr (by omega) (by omega)]
    rfl
  | succ m ih =>
    intro i hi
    have hl : (insUp s i).length = i := by rw [(insUp_perm s i).length_eq, rotsUp_len]
    have hz2 : (s.extract (i : Int).toNat s.size).size + (s.extract 0 (i : Int).toNat).size ≤ 9223372036854775807 := by
      rw [ByteArray.size_extract, ByteArray.size_extract]; omega
    refine Evt.step (g' := fun k => numnahref09_Turns.l1 k s (insUp s i) (i : Int) (rotS s i) ((0 : Nat) : Int)) (fun k => ?_) (ins_l1 s hs (insUp s i) (by omega) i (by omega) (rotS s i) _ i 0 (by omega) (by simp) (ih (i + 1) (by omega)))
    rw [numnahref09_Turns.l0, if_pos (by omega), if_pos (by omega), if_pos (by omega), if_pos hz2]
    rfl
theorem refTurns_ev (s : ByteArray) (hs : s.size ≤ 160) : Evt (fun k => numnahref09_Turns.f k s) (turnL s, turnP s) := refTurns_l0 s hs s.size 0 (by omega)

/-! ### runs -/
def runN (t : ByteArray) : Nat → Nat → Int → Int
  | 0, _, n => n
  | q + 1, i, n => if i = 0 ∨ bt t ((i : Int) - 1) ≠ bt t i then runN t q (i + 1) (n + 1) else runN t q (i + 1) n
theorem runs_ev (t : ByteArray) (ht : t.size ≤ 160) (e : Int) : ∀ (m i : Nat) (n : Int), i + m = t.size → 0 ≤ n → n ≤ i → Evt (fun k => parse_Runs.l0 k t e n (t.size : Int) (i : Int)) (runN t m i n, e)
  | 0, i, n, hi, _, _ => by
    refine Evt.now fun k => ?_
    rw [parse_Runs.l0, if_neg (by omega), runN]
  | m + 1, i, n, hi, h0, h1 => by
    have w1 : wrap64 ((i : Int) + 1) = ((i + 1 : Nat) : Int) := (wr (by omega) (by omega)).trans (by omega)
    have w2 : wrap64 (n + 1) = n + 1 := wr (by omega) (by omega)
    have w3 : wrap64 ((i : Int) - 1) = (i : Int) - 1 := wr (by omega) (by omega)
    rw [runN]
    by_cases c0 : i = 0
    · rw [if_pos (.inl c0)]
      refine Evt.step (fun k => ?_) (runs_ev t ht e m (i + 1) (n + 1) (by omega) (by omega) (by omega))
      rw [parse_Runs.l0, if_pos (by omega), if_pos (by omega), w1, w2]
    · by_cases c : bt t ((i : Int) - 1) = bt t i
      · rw [if_neg (fun h => h.elim c0 (fun h => h c))]
        refine Evt.step (fun k => ?_) (runs_ev t ht e m (i + 1) n (by omega) (by omega) (by omega))
        rw [parse_Runs.l0, if_pos (by omega), if_neg (by omega), if_pos (by omega), if_pos (by omega), w3, if_pos (by omega), if_pos (by omega), if_pos c.symm, w1]
      · rw [if_pos (.inr c)]
        refine Evt.step (fun k => ?_) (runs_ev t ht e m (i + 1) (n + 1) (by omega) (by omega) (by omega))
        rw [parse_Runs.l0, if_pos (by omega), if_neg (by omega), if_pos (by omega), if_pos (by omega), w3, if_pos (by omega), if_pos (by omega), if_neg (fun h => c h.symm), w1, w2]
theorem refRuns_ev (t : ByteArray) (ht : t.size ≤ 160) : ∀ (m i : Nat) (n : Int), i + m = t.size → 0 ≤ n → n ≤ i → Evt (fun k => numnahref09_Runs.l0 k t n (i : Int)) (runN t m i n)
  | 0, i, n, hi, _, _ => by
    refine Evt.now fun k => ?_
    rw [numnahref09_Runs.l0, if_neg (by omega), runN]
  | m + 1, i, n, hi, h0, h1 => by
    have w1 : wrap64 ((i : Int) + 1) = ((i + 1 : Nat) : Int) := (wr (by omega) (by omega)).trans (by omega)
    have w2 : wrap64 (n + 1) = n + 1 := wr (by omega) (by omega)
    have w3 : wrap64 ((i : Int) - 1) = (i : Int) - 1 := wr (by omega) (by omega)
    rw [runN]
    by_cases c0 : i = 0
    · rw [if_pos (.inl c0)]
      refine Evt.step (fun k => ?_) (refRuns_ev t ht m (i + 1) (n + 1) (by omega) (by omega) (by omega))
      rw [numnahref09_Runs.l0, if_pos (by omega), if_pos (by omega), w1, w2]
    · by_cases c : bt t ((i : Int) - 1) = bt t i
      · rw [if_neg (fun h => h.elim c0 (fun h => h c))]
        refine Evt.step (fun k => ?_) (refRuns_ev t ht m (i + 1) n (by omega) (by omega) (by omega))
        rw [numnahref09_Runs.l0, if_pos (by omega), if_neg (by omega), w3, if_pos (by omega), if_pos (by omega), if_pos (by omega), if_pos c, w1]
      · rw [if_pos (.inr c)]
        refine Evt.step (fun k => ?_) (refRuns_ev t ht m (i + 1) (n + 1) (by omega) (by omega) (by omega))
        rw [numnahref09_Runs.l0, if_pos (by omega), if_neg (by omega), w3, if_pos (by omega), if_pos (by omega), if_pos (by omega), if_neg c, w1, w2]
theorem turnL_size (s : ByteArray) : (turnL s).size = s.size := by
  unfold turnL
  rw [strOfNums_size, lastsOf, List.length_map, sortS_len]
  exact rotsUp_len s s.size
end Go.Proofs.YtpeeflkodpnbpaaDoor.Pr

/- The inversion of the sorted turns: the letter at place i of the sorted letters stands at place next[i] of the last letters. -/
namespace Go.Proofs.YtpeeflkodpnbpaaDoor.Pr
open Go.RowKit Go.Proofs.YtpeeflkodpnbpaaDoorW.PrintWords Go.Proofs.YtpeeflkodpnbpaaDoorW.PrintLast Go.Proofs.YtpeeflkodpnbpaaDoorW.PrintMore
set_option linter.unusedVariables false
set_option linter.unusedSimpArgs false

/-- the last letter goes to the front -/
def un {α : Type} (x : List α) : List α := x.drop (x.length - 1) ++ x.take (x.length - 1)
theorem un_snoc {α : Type} (x : List α) (c : α) : un (x ++ [c]) = c :: x := by
  unfold un
  simp
theorem snoc_of {α : Type} : ∀ (x : List α), 1 ≤ x.length → ∃ y c, x = y ++ [c]
  | x, h => ⟨x.dropLast, x.getLast (by intro e; subst e; simp at h), (List.dropLast_concat_getLast _).symm⟩
theorem un_len {α : Type} (x : List α) (h : 1 ≤ x.length) : (un x).length = x.length := by
  obtain ⟨y, c, rfl⟩ := snoc_of x h
  rw [un_snoc]; simp
/-- a turn, as a list of bytes -/
theorem bl_rot (s : ByteArray) (i : Nat) (h : i ≤ s.size) : bl (rotS s i) = (bl s).drop i ++ (bl s).take i := by
  unfold rotS
  rw [bl_append, bl_extract, bl_extract, List.drop_zero, Nat.sub_zero, List.take_of_length_le (by rw [List.length_drop, bl_len]; omega)]
theorem un_rot (s : ByteArray) (i : Nat) (h : i < s.size) : un (bl (rotS s (i + 1))) = bl (rotS s i) := by
  have hlt : i < (bl s).length := by rw [bl_len]; exact h
  rw [bl_rot s (i + 1) (by omega), bl_rot s i (by omega), List.take_succ_eq_append_getElem hlt, ← List.append_assoc, un_snoc, List.drop_eq_getElem_cons hlt, List.cons_append]
theorem rot_full (s : ByteArray) : bl (rotS s s.size) = bl (rotS s 0) := by
  rw [bl_rot s s.size (by omega), bl_rot s 0 (by omega), List.drop_of_length_le (by rw [bl_len]; omega), List.take_of_length_le (by rw [bl_len]; omega)]
  simp
/-- all turns, as lists -/
def RB (s : ByteArray) : List (List UInt8) := (List.range s.size).map (fun i => bl (rotS s i))
theorem rotsUp_eq (s : ByteArray) : ∀ k, (rotsUp s k).map bl = (List.range k).map (fun i => bl (rotS s i))
  | 0 => rfl
  | k + 1 => by
    rw [rotsUp, List.map_append, rotsUp_eq s k, List.range_succ, List.map_append]; rfl
theorem RB_un (s : ByteArray) : ((RB s).map un).Perm (RB s) := by
  unfold RB
  rw [List.map_map]
  cases hn : s.size with
  | zero => exact .refl _
  | succ n =>
    have e1 : (List.range (n + 1)).map (un ∘ fun i => bl (rotS s i)) = bl (rotS s n) :: (List.range n).map (fun i => bl (rotS s i)) := by
      rw [List.range_succ_eq_map, List.map_cons, List.map_map]
      congr 1
      · show un (bl (rotS s 0)) = _
        rw [← rot_full, hn, un_rot s n (by omega)]
      · apply List.map_congr_left
        intro i hi
        have := List.mem_range.1 hi
        exact un_rot s i (by omega)
    rw [e1, List.range_succ, List.map_append]
    exact (List.perm_append_singleton _ _).symm
/-- the sorted turns, as lists -/
def SB (s : ByteArray) : List (List UInt8) := (sortS (rots s)).map bl
theorem SB_perm (s : ByteArray) : (SB s).Perm (RB s) := by
  unfold SB RB
  rw [← rotsUp_eq]
  exact (sortS_perm _).map bl
theorem SB_sorted (s : ByteArray) : (SB s).Pairwise (fun x y : List UInt8 => x ≤ y) := List.pairwise_map.2 (sortS_sorted _)
theorem SB_len (s : ByteArray) : (SB s).length = s.size := by rw [(SB_perm s).length_eq]; simp [RB]
theorem RB_size {s : ByteArray} {x : List UInt8} (h : x ∈ RB s) : x.length = s.size := by
  obtain ⟨i, hi, rfl⟩ := List.mem_map.1 h
  rw [bl_len, rotS_size s i (by have := List.mem_range.1 hi; omega)]
theorem SB_size {s : ByteArray} {x : List UInt8} (h : x ∈ SB s) : x.length = s.size := RB_size ((SB_perm s).mem_iff.1 h)
theorem RB_bytes {s : ByteArray} {x : List UInt8} (h : x ∈ RB s) : ∀ c, c ∈ x → c ∈ bl s := by
  obtain ⟨i, hi, rfl⟩ := List.mem_map.1 h
  intro c hc
  rw [bl_rot s i (by have := List.mem_range.1 hi; omega)] at hc
  rcases List.mem_append.1 hc with hc | hc
  · exact List.mem_of_mem_drop hc
  · exact List.mem_of_mem_take hc

/-! ### the four blocks -/
def lastB (x : List UInt8) : Nat := match x.getLast? with
  | some c => c.toNat
  | none => 0
theorem lastB_snoc (x : List UInt8) (c : UInt8) : lastB (x ++ [c]) = c.toNat := by simp [lastB]
def blocks (L : List (List UInt8)) : List (List UInt8) := L.filter (fun x => lastB x == 97) ++ (L.filter (fun x => lastB x == 98) ++ (L.filter (fun x => lastB x == 99) ++ L.filter (fun x => lastB x == 100)))
theorem blocks_perm : ∀ (L : List (List UInt8)), (∀ x, x ∈ L → lastB x = 97 ∨ lastB x = 98 ∨ lastB x = 99 ∨ lastB x = 100) → (blocks L).Perm L
  | [], _ => .refl _
  | x :: L, h => by
    have ih := blocks_perm L (fun y hy => h y (List.mem_cons_of_mem _ hy))
    unfold blocks at ih ⊢
    rcases h x List.mem_cons_self with e | e | e | e
    · simp only [List.filter_cons, e, Nat.reduceBEq, Bool.false_eq_true, ↓reduceIte]
      exact ih.cons x
    · simp only [List.filter_cons, e, Nat.reduceBEq, Bool.false_eq_true, ↓reduceIte]
      exact List.perm_middle.trans (ih.cons x)
    · simp only [List.filter_cons, e, Nat.reduceBEq, Bool.false_eq_true, ↓reduceIte]
      exact ((List.perm_middle.append_left _).trans List.perm_middle).trans (ih.cons x)
    · simp only [List.filter_cons, e, Nat.reduceBEq, Bool.false_eq_true, ↓reduceIte]
      exact ((((List.perm_middle.append_left _).trans List.perm_middle).append_left _).trans List.perm_middle).trans (ih.cons x)
theorem un_le_same {x y : List UInt8} (hx : 1 ≤ x.length) (hl : x.length = y.length) (e : lastB x = lastB y) (h : x ≤ y) : un x ≤ un y := by
  obtain ⟨p, c, rfl⟩ := snoc_of x hx
  obtain ⟨q, d, rfl⟩ := snoc_of y (by omega)
  rw [lastB_snoc, lastB_snoc] at e
  obtain rfl := UInt8.toNat_inj.1 e
  rw [un_snoc, un_snoc]
  have hpq : p.length = q.length := by simpa using hl
  have key : ∀ (p q : List UInt8), p.length = q.length → p ++ [c] ≤ q ++ [c] → p ≤ q := by
    intro p
    induction p with
    | nil => intro q hq _; cases q with
      | nil => exact List.le_refl _
      | cons b q => simp at hq
    | cons a p ih => intro q hq h; cases q with
      | nil => simp at hq
      | cons b q =>
        rw [List.cons_append, List.cons_append, List.cons_le_cons_iff] at h
        rw [List.cons_le_cons_iff]
        rcases h with h | ⟨h1, h2⟩
        · exact .inl h
        · exact .inr ⟨h1, ih q (by simpa using hq) h2⟩
  rw [List.cons_le_cons_iff]
  exact .inr ⟨rfl, key p q hpq h⟩
theorem un_le_lt {x y : List UInt8} (hx : 1 ≤ x.length) (hy : 1 ≤ y.length) (e : lastB x < lastB y) : un x ≤ un y := by
  obtain ⟨p, c, rfl⟩ := snoc_of x hx
  obtain ⟨q, d, rfl⟩ := snoc_of y hy
  rw [lastB_snoc, lastB_snoc] at e
  rw [un_snoc, un_snoc, List.cons_le_cons_iff]
  exact .inl (UInt8.lt_iff_toNat_lt.2 e)
theorem blocks_sorted (L : List (List UInt8)) (n : Nat) (hn : 1 ≤ n) (hL : L.Pairwise (fun x y : List UInt8 => x ≤ y)) (hz : ∀ x, x ∈ L → x.length = n) : ((blocks L).map un).Pairwise (fun x y : List UInt8 => x ≤ y) := by
  have one : ∀ c, ((L.filter (fun x => lastB x == c)).map un).Pairwise (fun x y : List UInt8 => x ≤ y) := by
    intro c
    refine List.pairwise_map.2 ?_
    have h1 := hL.filter (fun x => lastB x == c)
    refine h1.imp_of_mem (fun {a b} ha hb hle => ?_)
    have ha2 := List.mem_filter.1 ha
    have hb2 := List.mem_filter.1 hb
    exact un_le_same (by rw [hz a ha2.1]; exact hn) (by rw [hz a ha2.1, hz b hb2.1]) (by rw [beq_iff_eq.1 ha2.2, beq_iff_eq.1 hb2.2]) hle
  have two : ∀ c d, c < d → ∀ a, a ∈ (L.filter (fun x => lastB x == c)).map un → ∀ b, b ∈ (L.filter (fun x => lastB x == d)).map un → a ≤ b := by
    intro c d hcd a ha b hb
    obtain ⟨x, hx, rfl⟩ := List.mem_map.1 ha
    obtain ⟨y, hy, rfl⟩ := List.mem_map.1 hb
    have hx2 := List.mem_filter.1 hx
    have hy2 := List.mem_filter.1 hy
    exact un_le_lt (by rw [hz x hx2.1]; exact hn) (by rw [hz y hy2.1]; exact hn) (by rw [beq_iff_eq.1 hx2.2, beq_iff_eq.1 hy2.2]; exact hcd)
  unfold blocks
  rw [List.map_append, List.map_append, List.map_append]
  refine List.pairwise_append.2 ⟨one 97, List.pairwise_append.2 ⟨one 98, List.pairwise_append.2 ⟨one 99, one 100, two 99 100 (by omega)⟩, fun a ha b hb => ?_⟩, fun a ha b hb => ?_⟩
  · rcases List.mem_append.1 hb with hb | hb
    · exact two 98 99 (by omega) a ha b hb
    · exact two 98 100 (by omega) a ha b hb
  · rcases List.mem_append.1 hb with hb | hb
    · exact two 97 98 (by omega) a ha b hb
    · rcases List.mem_append.1 hb with hb | hb
      · exact two 97 99 (by omega) a ha b hb
      · exact two 97 100 (by omega) a ha b hb
theorem blocks_un (s : ByteArray) (hw : isWordC s = true) : (blocks (SB s)).map un = SB s := by
  by_cases hn : s.size = 0
  · have : SB s = [] := List.length_eq_zero_iff.1 (by rw [SB_len, hn])
    rw [this]; rfl
  · have hz : ∀ x, x ∈ SB s → x.length = s.size := fun x hx => SB_size hx
    have hl : ∀ x, x ∈ SB s → lastB x = 97 ∨ lastB x = 98 ∨ lastB x = 99 ∨ lastB x = 100 := by
      intro x hx
      obtain ⟨p, c, rfl⟩ := snoc_of x (by rw [hz x hx]; omega)
      rw [lastB_snoc]
      have := ok_mem s hw c (RB_bytes ((SB_perm s).mem_iff.1 hx) c (by simp))
      rcases this with rfl | rfl | rfl | rfl <;> simp
    refine List.Perm.eq_of_pairwise (le := fun x y : List UInt8 => x ≤ y) (fun a b _ _ h1 h2 => List.le_antisymm h1 h2) (blocks_sorted _ s.size (by omega) (SB_sorted s) hz) (SB_sorted s) ?_
    exact ((blocks_perm _ hl).map un).trans (((SB_perm s).map un).trans ((RB_un s).trans (SB_perm s).symm))
end Go.Proofs.YtpeeflkodpnbpaaDoor.Pr

/- A word and its reversal: the numbers of substrings, Delta, the repeated strings; a turned word: its sorted turns. -/
namespace Go.Proofs.YtpeeflkodpnbpaaDoor.Pr
open Go.RowKit Go.Proofs.YtpeeflkodpnbpaaDoorW.PrintWords Go.Proofs.YtpeeflkodpnbpaaDoorW.PrintLast Go.Proofs.YtpeeflkodpnbpaaDoorW.PrintMore
set_option linter.unusedVariables false
set_option linter.unusedSimpArgs false

def rv (s : ByteArray) : ByteArray := ⟨(bl s).reverse.toArray⟩
theorem bl_rv (s : ByteArray) : bl (rv s) = (bl s).reverse := by simp [bl, rv]
theorem rv_rv (s : ByteArray) : rv (rv s) = s := by
  apply bl_inj
  rw [bl_rv, bl_rv, List.reverse_reverse]
theorem rv_size (s : ByteArray) : (rv s).size = s.size := by rw [← bl_len, bl_rv, List.length_reverse, bl_len]
theorem rv_inj {a b : ByteArray} (h : rv a = rv b) : a = b := by rw [← rv_rv a, h, rv_rv]
theorem rv_sub (s : ByteArray) (n j : Nat) (h : j + n ≤ s.size) : subAt (rv s) n (s.size - n - j) = rv (subAt s n j) := by
  apply bl_inj
  have hl := bl_len s
  rw [bl_sub, bl_rv, bl_rv, bl_sub]
  apply List.ext_getElem?
  intro m
  by_cases c : m < n
  · rw [List.getElem?_take, if_pos c, List.getElem?_drop, List.getElem?_reverse (by omega), List.getElem?_reverse (by rw [List.length_take, List.length_drop]; omega), List.length_take, List.length_drop, List.getElem?_take, if_pos (by omega), List.getElem?_drop]
    congr 1
    omega
  · rw [List.getElem?_take, if_neg c, List.getElem?_eq_none]
    rw [List.length_reverse, List.length_take, List.length_drop]; omega
theorem cnt_rv_le (s : ByteArray) (n : Nat) : cntS s n ≤ cntS (rv s) n := by
  rw [cntS_eq, cntS_eq, ← List.length_map (f := rv)]
  refine nodup_le ?_ (fun t ht => ?_)
  · have h := partsS_nodup s n
    unfold List.Nodup at h ⊢
    exact List.pairwise_map.2 (h.imp (fun hne e => hne (rv_inj e)))
  · obtain ⟨x, hx, rfl⟩ := List.mem_map.1 ht
    obtain ⟨j, hj, rfl⟩ := mem_parts.1 hx
    exact mem_parts.2 ⟨s.size - n - j, by rw [rv_size]; omega, rv_sub s n j hj⟩
theorem cnt_rv (s : ByteArray) (n : Nat) : cntS (rv s) n = cntS s n := by
  apply Nat.le_antisymm
  · have := cnt_rv_le (rv s) n
    rwa [rv_rv] at this
  · exact cnt_rv_le s n
theorem subsL_rv (s : ByteArray) : subsL (rv s) = subsL s := by
  unfold subsL
  rw [rv_size]
  apply List.map_congr_left
  intro i _
  rw [cnt_rv]
theorem delL_rv (s : ByteArray) : ∀ m n b a, delL (rv s) m n b a = delL s m n b a
  | 0, _, _, _ => rfl
  | m + 1, n, b, a => by
    rw [delL, delL, cnt_rv, delL_rv s m, delL_rv s m]
theorem delF_rv (s : ByteArray) : delF (rv s) = delF s := by
  unfold delF
  rw [rv_size, delL_rv]

/-! ### repeated strings -/
def Rep (s : ByteArray) (n : Nat) : Prop := ∃ i j, i < j ∧ j + n ≤ s.size ∧ subAt s n i = subAt s n j
theorem posUp_two (s : ByteArray) (n : Nat) (t : ByteArray) : ∀ k, 1 < (posUp s n t k).length → ∃ i j, i < j ∧ j < k ∧ subAt s n i = t ∧ subAt s n j = t
  | 0, h => by simp [posUp] at h
  | k + 1, h => by
    rw [posUp] at h
    by_cases c : subAt s n k = t
    · rw [if_pos c, List.length_append, List.length_singleton] at h
      have : ∃ x, x ∈ posUp s n t k := by
        cases hh : posUp s n t k with
        | nil => rw [hh] at h; simp at h
        | cons x l => exact ⟨x, List.mem_cons_self⟩
      obtain ⟨x, hx⟩ := this
      obtain ⟨i, hi, _, he⟩ := mem_posUp.1 hx
      exact ⟨i, k, hi, by omega, he, c⟩
    · rw [if_neg c, List.append_nil] at h
      obtain ⟨i, j, h1, h2, h3, h4⟩ := posUp_two s n t k h
      exact ⟨i, j, h1, by omega, h3, h4⟩
theorem posUp_pos (s : ByteArray) (n : Nat) (t : ByteArray) : ∀ k i, i < k → subAt s n i = t → 1 ≤ (posUp s n t k).length
  | 0, i, h, _ => by omega
  | k + 1, i, h, e => by
    exact List.length_pos_of_mem (mem_posUp.2 ⟨i, h, rfl, e⟩)
theorem two_posUp (s : ByteArray) (n : Nat) (t : ByteArray) : ∀ k i j, i < j → j < k → subAt s n i = t → subAt s n j = t → 1 < (posUp s n t k).length
  | 0, i, j, _, h, _, _ => by omega
  | k + 1, i, j, h1, h2, h3, h4 => by
    rw [posUp]
    by_cases c : j = k
    · subst c
      rw [if_pos h4, List.length_append, List.length_singleton]
      have := posUp_pos s n t j i h1 h3
      omega
    · have := two_posUp s n t k i j h1 (by omega) h3 h4
      rw [List.length_append]; omega
theorem findL_none (s : ByteArray) (n : Nat) : ∀ l, findL s n l = none ↔ ∀ t, t ∈ l → ¬ 1 < (posS s n t).length
  | [] => by simp [findL]
  | t :: l => by
    rw [findL]
    by_cases c : 1 < (posS s n t).length
    · rw [if_pos c]
      constructor
      · intro h; cases h
      · intro h; exact absurd c (h t List.mem_cons_self)
    · rw [if_neg c, findL_none s n l]
      constructor
      · intro h x hx
        rcases List.mem_cons.1 hx with rfl | hx
        · exact c
        · exact h x hx
      · intro h x hx; exact h x (List.mem_cons_of_mem _ hx)
theorem findL_mem (s : ByteArray) (n : Nat) {t : ByteArray} : ∀ {l}, findL s n l = some t → t ∈ l
  | x :: l, h => by
    rw [findL] at h
    split at h
    · cases h; exact List.mem_cons_self
    · exact List.mem_cons_of_mem _ (findL_mem s n h)
theorem findL_rep (s : ByteArray) (n : Nat) : findL s n (partsS s n) = none ↔ ¬ Rep s n := by
  rw [findL_none]
  constructor
  · rintro h ⟨i, j, h1, h2, h3⟩
    exact h (subAt s n j) (mem_parts.2 ⟨j, h2, rfl⟩) (two_posUp s n _ _ i j h1 (by omega) h3 rfl)
  · intro h t ht hc
    obtain ⟨i, j, h1, h2, h3, h4⟩ := posUp_two s n t _ hc
    exact h ⟨i, j, h1, by omega, h3.trans h4.symm⟩
theorem rep_rv (s : ByteArray) (n : Nat) : Rep s n → Rep (rv s) n := by
  rintro ⟨i, j, h1, h2, h3⟩
  refine ⟨s.size - n - j, s.size - n - i, by omega, by rw [rv_size]; omega, ?_⟩
  rw [rv_sub s n j h2, rv_sub s n i (by omega), h3]
theorem lonF_len (s s' : ByteArray) (h : ∀ n, Rep s n ↔ Rep s' n) : ∀ n, (lonF s n).1.size = (lonF s' n).1.size ∧ (lonF s n).2.2.2 = (lonF s' n).2.2.2
  | 0 => ⟨rfl, rfl⟩
  | n + 1 => by
    have hs : ∀ u : ByteArray, ∀ t, findL u (n + 1) (partsS u (n + 1)) = some t → t.size = n + 1 := by
      intro u t ht
      obtain ⟨j, hj, rfl⟩ := mem_parts.1 (findL_mem u _ ht)
      exact subAt_size u _ _ (by omega)
    rw [lonF, lonF]
    cases h1 : findL s (n + 1) (partsS s (n + 1)) with
    | some t =>
      cases h2 : findL s' (n + 1) (partsS s' (n + 1)) with
      | some t' =>
        show t.size = t'.size ∧ (0 : Int) = 0
        exact ⟨by rw [hs s t h1, hs s' t' h2], rfl⟩
      | none =>
        exfalso
        have := (findL_rep s' (n + 1)).1 h2
        rw [← h, ← findL_rep, h1] at this
        cases this
    | none =>
      cases h2 : findL s' (n + 1) (partsS s' (n + 1)) with
      | some t' =>
        exfalso
        have := (findL_rep s (n + 1)).1 h1
        rw [h, ← findL_rep, h2] at this
        cases this
      | none => exact lonF_len s s' h n
theorem lonF_rv (s : ByteArray) (n : Nat) : (lonF (rv s) n).1.size = (lonF s n).1.size ∧ (lonF (rv s) n).2.2.2 = (lonF s n).2.2.2 :=
  lonF_len _ _ (fun n => ⟨fun h => by have := rep_rv _ n h; rwa [rv_rv] at this, rep_rv s n⟩) n

/-! ### the turned word -/
theorem un_step (c : UInt8) (y : List UInt8) : ∀ i, i ≤ y.length → un ((y ++ [c]).drop i ++ (y ++ [c]).take i) = (c :: y).drop i ++ (c :: y).take i
  | 0, _ => by
    rw [List.drop_zero, List.take_zero, List.append_nil, un_snoc, List.drop_zero, List.take_zero, List.append_nil]
  | i + 1, h => by
    have hlt : i < y.length := by omega
    rw [List.take_append_of_le_length h, List.take_succ_eq_append_getElem hlt, ← List.append_assoc, un_snoc, List.drop_append_of_le_length h, List.drop_succ_cons, List.take_succ_cons, List.drop_eq_getElem_cons hlt, List.cons_append, List.append_assoc]
    rfl
theorem rb_step {u u' : ByteArray} {c : UInt8} {y : List UInt8} (h : bl u = c :: y) (h' : bl u' = y ++ [c]) : (RB u').Perm (RB u) := by
  have hz : u.size = y.length + 1 := by rw [← bl_len, h]; rfl
  have hz' : u'.size = y.length + 1 := by rw [← bl_len, h']; simp
  have e : (RB u').map un = RB u := by
    unfold RB
    rw [List.map_map, hz, hz']
    apply List.map_congr_left
    intro i hi
    have := List.mem_range.1 hi
    show un (bl (rotS u' i)) = bl (rotS u i)
    rw [bl_rot u' i (by omega), bl_rot u i (by omega), h, h', un_step c y i (by omega)]
  exact (RB_un u').symm.trans (e ▸ List.Perm.refl _)
theorem rb_rot (s : ByteArray) : ∀ k, k ≤ s.size → (RB (rotS s k)).Perm (RB s)
  | 0, _ => by
    have : rotS s 0 = s := by
      apply bl_inj
      rw [bl_rot s 0 (by omega)]; simp
    rw [this]
  | k + 1, h => by
    have hlt : k < (bl s).length := by rw [bl_len]; omega
    refine (rb_step (u := rotS s k) (u' := rotS s (k + 1)) (c := (bl s)[k]) (y := (bl s).drop (k + 1) ++ (bl s).take k) ?_ ?_).trans (rb_rot s k (by omega))
    · rw [bl_rot s k (by omega), List.drop_eq_getElem_cons hlt, List.cons_append]
    · rw [bl_rot s (k + 1) (by omega), List.take_succ_eq_append_getElem hlt, List.append_assoc]
theorem unbl (L : List ByteArray) : (L.map bl).map (fun l => (⟨l.toArray⟩ : ByteArray)) = L := by
  rw [List.map_map]
  conv => rhs; rw [← List.map_id L]
  apply List.map_congr_left
  intro a _
  cases a
  simp [bl]
theorem turned_sorted (s : ByteArray) (k : Nat) (h : k ≤ s.size) : sortS (rots (rotS s k)) = sortS (rots s) := by
  refine sortedS_unique (sortS_sorted _) (sortS_sorted _) ?_
  have p : (SB (rotS s k)).Perm (SB s) := (SB_perm _).trans ((rb_rot s k h).trans (SB_perm s).symm)
  have p2 := p.map (fun l => (⟨l.toArray⟩ : ByteArray))
  unfold SB at p2
  rwa [unbl, unbl] at p2
theorem turnL_rot (s : ByteArray) (k : Nat) (h : k ≤ s.size) : turnL (rotS s k) = turnL s := by
  unfold turnL
  rw [turned_sorted s k h]
end Go.Proofs.YtpeeflkodpnbpaaDoor.Pr

/- tame(s, most) is a word of at most that many letters. -/
namespace Go.Proofs.YtpeeflkodpnbpaaDoor.Pr
open Go.RowKit Go.Proofs.YtpeeflkodpnbpaaDoorW.PrintWords Go.Proofs.YtpeeflkodpnbpaaDoorW.PrintLast Go.Proofs.YtpeeflkodpnbpaaDoorW.PrintMore
set_option linter.unusedVariables false
set_option linter.unusedSimpArgs false

theorem ok_nums (l : List Int) (h : ∀ x, x ∈ l → 97 ≤ x ∧ x ≤ 100) : ∀ i, i < (strOfNums l).size → okAt (strOfNums l) i := by
  intro i hi
  rw [strOfNums_size] at hi
  have e : (strOfNums l).get! i = UInt8.ofNat (l[i]).toNat := by
    have : ((strOfNums l).data[i]?) = some (UInt8.ofNat (l[i]).toNat) := by
      rw [← Array.getElem?_toList, strOfNums_data]
      simp [hi]
    show (strOfNums l).data[i]! = _
    rw [getElem!_def, this]
  have := h _ (List.getElem_mem hi)
  unfold okAt
  rw [e]
  have e2 : (UInt8.ofNat (l[i]).toNat).toNat = (l[i]).toNat := by
    rw [UInt8.toNat_ofNat']
    omega
  rw [e2]
  omega
theorem tame_l0 (a0 : ByteArray) (hz : a0.size ≤ 140737488351232) (most : Nat) (hm : most ≤ 1000) : ∀ (q i : Nat) (l : List Int), i + q = most → i ≤ a0.size → l.length = i → (∀ x, x ∈ l → 97 ≤ x ∧ x ≤ 100) →
    ∃ s, s.size ≤ most ∧ (∀ i, i < s.size → okAt s i) ∧ Evt (fun k => numnahlaw09_tame.l0 k a0 (most : Int) l (i : Int)) s
  | 0, i, l, hi, hi2, hl, h => by
    refine ⟨strOfNums l, by rw [strOfNums_size]; omega, ok_nums l h, Evt.now fun k => ?_⟩
    rw [numnahlaw09_tame.l0]
    by_cases c : (i : Int) < (a0.size : Int)
    · rw [if_pos c, if_neg (by omega)]
    · rw [if_neg c]
  | q + 1, i, l, hi, hi2, hl, h => by
    by_cases c : i < a0.size
    · have hr := bt_range a0 (i : Int)
      obtain ⟨s, h1, h2, h3⟩ := tame_l0 a0 hz most hm q (i + 1) (l ++ [(97 + (Int.tmod (bt a0 (i : Int)) 4)) % 256]) (by omega) (by omega) (by rw [List.length_append, hl]; rfl) (fun x hx => by
        rcases List.mem_append.1 hx with hx | hx
        · exact h x hx
        · rw [List.mem_singleton] at hx
          rw [hx, Int.tmod_eq_emod_of_nonneg hr.1]
          omega)
      refine ⟨s, h1, h2, Evt.step (fun k => ?_) h3⟩
      rw [numnahlaw09_tame.l0, if_pos (by omega), if_pos (by omega), if_pos (by omega), if_pos (by omega), wr (by omega) (by omega)]
      rfl
    · refine ⟨strOfNums l, by rw [strOfNums_size]; omega, ok_nums l h, Evt.now fun k => ?_⟩
      rw [numnahlaw09_tame.l0, if_neg (by omega)]
theorem tame_ev (a0 : ByteArray) (hz : a0.size ≤ 140737488351232) (most : Nat) (hm : most ≤ 160) : ∃ s, s.size ≤ most ∧ isWordC s = true ∧ Evt (fun k => numnahlaw09_tame.f k a0 (most : Int)) s := by
  obtain ⟨s, h1, h2, h3⟩ := tame_l0 a0 hz most (by omega) most 0 [] (by omega) (by omega) rfl (by simp)
  exact ⟨s, h1, (isWordC_iff s).2 ⟨by omega, h2⟩, h3⟩
theorem mod_some (x : Int) (n : Nat) (h1 : 1 ≤ n) (h2 : n ≤ 1000000) : ∃ r : Nat, r < n ∧ numnahlaw09_mod.f x (n : Int) = some (r : Int) := by
  have e : IntKind.u64.wrap (n : Int) = n := wu (by omega) (by omega)
  have h0 : 0 ≤ IntKind.u64.wrap x := by
    simp only [IntKind.wrap, IntKind.bits, IntKind.signed]
    simp
    omega
  refine ⟨(IntKind.u64.wrap x % n).toNat, ?_, ?_⟩
  · have := Int.emod_lt_of_pos (IntKind.u64.wrap x) (show (0 : Int) < n by omega)
    have := Int.emod_nonneg (IntKind.u64.wrap x) (show (n : Int) ≠ 0 by omega)
    omega
  · have := Int.emod_lt_of_pos (IntKind.u64.wrap x) (show (0 : Int) < n by omega)
    have h3 := Int.emod_nonneg (IntKind.u64.wrap x) (show (n : Int) ≠ 0 by omega)
    rw [numnahlaw09_mod.f, e, if_neg (by omega), Int.tmod_eq_emod_of_nonneg h0, wr (by omega) (by omega), Int.toNat_of_nonneg h3]
end Go.Proofs.YtpeeflkodpnbpaaDoor.Pr

/- The law's comparison of two lists. -/
namespace Go.Proofs.YtpeeflkodpnbpaaDoor.Pr
open Go.RowKit Go.Proofs.YtpeeflkodpnbpaaDoorW.PrintWords Go.Proofs.YtpeeflkodpnbpaaDoorW.PrintLast Go.Proofs.YtpeeflkodpnbpaaDoorW.PrintMore
set_option linter.unusedVariables false
set_option linter.unusedSimpArgs false

theorem ints_same (l : List Int) (hl : l.length ≤ 1000) : Evt (fun k => numnahlaw09_ints.f k l l) true := by
  have : ∀ (m i : Nat), i + m = l.length → Evt (fun k => numnahlaw09_ints.l0 k l l (i : Int)) true := by
    intro m
    induction m with
    | zero =>
      intro i hi
      refine Evt.now fun k => ?_
      rw [numnahlaw09_ints.l0, if_neg (by omega)]
    | succ m ih =>
      intro i hi
      have w2 : Aside0 (wrap64 ((i : Int) + 1) = ((i + 1 : Nat) : Int)) := ⟨(wr (by omega) (by omega)).trans (by omega)⟩
      refine Evt.step (fun k => ?_) (ih (i + 1) (by omega))
      rw [numnahlaw09_ints.l0, if_pos (by omega), if_pos (by omega), if_pos (by omega), if_pos rfl, w2.out]
  unfold numnahlaw09_ints.f
  exact Evt.pos rfl (this l.length 0 (by omega))
theorem empty_toList {s : ByteArray} (h : s.size = 0) : s.toList = [] := by
  rw [ByteArray.toList_eq]
  exact List.length_eq_zero_iff.1 (by have h2 : s.data.toList.length = s.size := Array.length_toList; omega)
theorem nonempty_toList {s : ByteArray} (hz : ¬ s.size = 0) : ¬ s.toList = [] := by
  intro h
  rw [ByteArray.toList_eq] at h
  have h2 : s.data.toList.length = s.size := Array.length_toList
  rw [h] at h2
  simp at h2
  omega
end Go.Proofs.YtpeeflkodpnbpaaDoor.Pr

/- awake() answers true. -/
namespace Go.Proofs.YtpeeflkodpnbpaaDoor.Pr
open Go.RowKit Go.Proofs.YtpeeflkodpnbpaaDoorW.PrintWords Go.Proofs.YtpeeflkodpnbpaaDoorW.PrintLast Go.Proofs.YtpeeflkodpnbpaaDoorW.PrintMore
set_option linter.unusedVariables false
set_option maxRecDepth 1000000 in
theorem awake_run : numnahlaw09_awake.f 200 = some true := by kernel_rfl
theorem awake_ev : Evt (fun k => numnahlaw09_awake.f k) true := ⟨200, fun k hk => at_rounds (fun k => numnahlaw09_awake.mono k) hk awake_run⟩
theorem awake_bind : Evt (fun k => (numnahlaw09_awake.f k).bind fun t => some t) true := Evt.congr awake_ev (fun k => by cases numnahlaw09_awake.f k <;> rfl)
/-- short(s): at most 161 bytes -/
def shortS (s : ByteArray) : ByteArray := s.extract 0 (min s.size 161)
theorem shortS_size (s : ByteArray) : (shortS s).size ≤ 161 := by unfold shortS; rw [ByteArray.size_extract]; omega
theorem short_some (s : ByteArray) : numnahlaw09_short.f s = some (shortS s) := by
  unfold numnahlaw09_short.f mn
  by_cases h : (161 : Int) < (s.size : Int)
  · rw [if_pos h, if_pos (by omega), if_pos (by omega)]
    congr 1
    unfold shortS
    congr 1
    omega
  · rw [if_neg h, if_pos (by omega), if_pos (by omega)]
    congr 1
    unfold shortS
    congr 1
    omega
end Go.Proofs.YtpeeflkodpnbpaaDoor.Pr

namespace Go.Proofs.YtpeeflkodpnbpaaDoor.Pure
open Go.RowKit Go.Proofs.YtpeeflkodpnbpaaDoor.Pr Go.Proofs.YtpeeflkodpnbpaaDoorW.PrintWords Go.Proofs.YtpeeflkodpnbpaaDoorW.PrintLast
set_option linter.unusedVariables false
set_option linter.unusedSimpArgs false

theorem rev_l0 (s : ByteArray) (a1 : Int) (hs : s.size ≤ 80) (fin : Evt (fun k => numnahlaw09_ParseReversed.l0 k a1 s (rv s) (s.size : Int)) true) : ∀ (m i : Nat) (back : ByteArray), i + m = s.size → bl back = ((bl s).take i).reverse → Evt (fun k => numnahlaw09_ParseReversed.l0 k a1 s back (i : Int)) true
  | 0, i, back, hi, hb => by
    have e : back = rv s := by
      apply bl_inj
      rw [hb, bl_rv, List.take_of_length_le (by rw [bl_len]; omega)]
    rw [e, show i = s.size by omega]
    exact fin
  | m + 1, i, back, hi, hb => by
    have hlt : i < (bl s).length := by rw [bl_len]; omega
    have hz : back.size ≤ 80 := by rw [← bl_len, hb, List.length_reverse, List.length_take]; omega
    have w1 : Aside0 (wrap64 ((i : Int) + 1) = ((i + 1 : Nat) : Int)) := ⟨(wr (by omega) (by omega)).trans (by omega)⟩
    have hx : bl (s.extract (i : Int).toNat ((i + 1 : Nat) : Int).toNat) = [(bl s)[i]] := by
      rw [Int.toNat_natCast, Int.toNat_natCast, bl_extract, List.drop_eq_getElem_cons hlt, show i + 1 - i = 1 by omega, List.take_succ_cons, List.take_zero]
    have hxz : (s.extract (i : Int).toNat ((i + 1 : Nat) : Int).toNat).size = 1 := by rw [← bl_len, hx]; rfl
    have ih := rev_l0 s a1 hs fin m (i + 1) (s.extract (i : Int).toNat ((i + 1 : Nat) : Int).toNat ++ back) (by omega) (by
      rw [bl_append, hx, hb, List.take_succ_eq_append_getElem hlt, List.reverse_append]; rfl)
    refine Evt.step (fun k => ?_) ih
    rw [numnahlaw09_ParseReversed.l0, if_pos (by omega), if_pos (by omega), w1.out, if_pos (by omega), if_pos (by omega), if_pos (by rw [hxz]; omega)]
theorem word_rv {s : ByteArray} (hw : isWordC s = true) : isWordC (rv s) = true :=
  word_of_mem _ (by rw [rv_size]; exact ((isWordC_iff s).1 hw).1) (fun c hc => ok_mem s hw c (by rw [bl_rv, List.mem_reverse] at hc; exact hc))
theorem word_rot {s : ByteArray} (hw : isWordC s = true) (k : Nat) (hk : k ≤ s.size) : isWordC (rotS s k) = true :=
  word_of_mem _ (by rw [rotS_size s k hk]; exact ((isWordC_iff s).1 hw).1) (fun c hc => ok_mem s hw c (by
    rw [bl_rot s k hk, List.mem_append] at hc
    rcases hc with h | h
    · exact List.mem_of_mem_drop h
    · exact List.mem_of_mem_take h))
theorem runsf_ev {s L : ByteArray} {P : Int} (ht : Evt (fun k => parse_Turns.f k s) (L, P, 0)) (hL : L.size ≤ 160) : Evt (fun k => parse_Runs.f k s) (Pr.runN L L.size 0 0, 0) := by
  unfold parse_Runs.f
  exact Evt.bind ht (runs_ev L hL 0 _ 0 0 (Nat.zero_add _) (by omega) (by omega))
theorem ParseReversed : numnahlaw09_ParseReversed.Pure := by
  intro a0 a1 h0
  intros
  apply Evt.ex
  obtain ⟨s, hs, hw, ht⟩ := tame_ev a0 h0 80 (by omega)
  show Evt (fun k => numnahlaw09_ParseReversed.f k a0 a1) true
  unfold numnahlaw09_ParseReversed.f
  refine Evt.bind ht ?_
  refine rev_l0 s a1 hs ?_ s.size 0 _ (by omega) rfl
  obtain ⟨r, hr, hm⟩ := mod_some a1 (s.size + 1) (by omega) (by omega)
  have w1 : wrap64 ((s.size : Int) + 1) = ((s.size + 1 : Nat) : Int) := (wr (by omega) (by omega)).trans (by omega)
  have hwr := word_rv hw
  have hwt := word_rot hw r (by omega)
  have hzr := rv_size s
  have hzt := rotS_size s r (by omega)
  have e1 : parse_Substrings.f s = some (subsL s, 0) := subs_some s hw
  have e2 : parse_Substrings.f (rv s) = some (subsL s, 0) := by rw [subs_some _ hwr, subsL_rv]
  have e3 : parse_Longest.f s = some (lonF s (s.size - 1)) := by rw [parse_Longest.f, hw]; rfl
  have e4 : parse_Longest.f (rv s) = some (lonF (rv s) (s.size - 1)) := by rw [parse_Longest.f, hwr, rv_size]; rfl
  obtain ⟨g1, g2⟩ := lonF_rv s (s.size - 1)
  have t1 := turns_ev s hw
  have t2 := turns_ev (rotS s r) hwt
  rw [turnL_rot s r (by omega)] at t2
  have hL := turnL_size s
  have r1 := runsf_ev t1 (by omega)
  have r2 := runsf_ev t2 (by omega)
  have hl : (subsL s).length ≤ 1000 := by rw [subsL_len]; omega
  generalize lonF s (s.size - 1) = A at *
  generalize lonF (rv s) (s.size - 1) = B at *
  generalize turnL s = L at *
  generalize turnP s = P1 at *
  generalize turnP (rotS s r) = P2 at *
  generalize Pr.runN L L.size 0 0 = N at *
  refine Evt.step (g' := fun k => (parse_Turns.f k s).bind fun bt733 => ((parse_Turns.f k (rotS s r)).bind fun bt736 => ((parse_Runs.f k s).bind fun bt739 => ((parse_Runs.f k (rotS s r)).bind fun bt741 => (if (0 : Int) = 0 then (if (0 : Int) = 0 then (if A.2.2.2 = B.2.2.2 then (if bt733.2.2 = 0 then (if bt736.2.2 = 0 then (if bt739.2 = 0 then (if bt741.2 = 0 then ((numnahlaw09_ints.f k (subsL s) (subsL s)).bind fun t743 => (if t743 = true then (if (A.1.size : Int) = (B.1.size : Int) then (if bt733.1.toList = bt736.1.toList then (numnahlaw09_ParseReversed.j1 k s (rv s) (bt739.1 != bt741.1)) else (numnahlaw09_ParseReversed.j1 k s (rv s) true)) else (numnahlaw09_ParseReversed.j1 k s (rv s) true)) else (numnahlaw09_ParseReversed.j1 k s (rv s) true))) else (numnahlaw09_ParseReversed.j1 k s (rv s) true)) else (numnahlaw09_ParseReversed.j1 k s (rv s) true)) else (numnahlaw09_ParseReversed.j1 k s (rv s) true)) else (numnahlaw09_ParseReversed.j1 k s (rv s) true)) else (numnahlaw09_ParseReversed.j1 k s (rv s) true)) else (numnahlaw09_ParseReversed.j1 k s (rv s) true)) else (numnahlaw09_ParseReversed.j1 k s (rv s) true)))))) (fun k => ?_) ?_
  · rw [numnahlaw09_ParseReversed.l0, if_neg (by omega), w1, hm, Option.bind_some, if_pos (by omega), if_pos (by omega), if_pos (by rw [ByteArray.size_extract, ByteArray.size_extract]; omega), e1, e2, e3, e4]
    rfl
  · refine Evt.bind t1 (Evt.bind t2 (Evt.bind r1 (Evt.bind r2 (Evt.pos rfl (Evt.pos rfl (Evt.pos g2.symm (Evt.pos rfl (Evt.pos rfl (Evt.pos rfl (Evt.pos rfl (Evt.bind (ints_same _ hl) (Evt.pos rfl (Evt.pos (by rw [g1]) (Evt.pos rfl ?_))))))))))))))
    by_cases hz : s.size = 0
    · refine Evt.step (g' := fun k => (numnahlaw09_awake.f k).bind fun t => some t) (fun k => ?_) awake_bind
      rw [numnahlaw09_ParseReversed.j1, if_neg (by simp), if_pos (empty_toList hz)]
    · have d1 : parse_Delta.f s = some (delF s) := by rw [parse_Delta.f, hw, if_pos rfl, if_neg hz]
      have d2 : parse_Delta.f (rv s) = some (delF s) := by rw [parse_Delta.f, hwr, if_pos rfl, if_neg (by omega), delF_rv]
      have d3 : (delF s).2.2.2 = 0 := rfl
      refine Evt.step (g' := fun k => (numnahlaw09_awake.f k).bind fun t => some t) (fun k => ?_) awake_bind
      rw [numnahlaw09_ParseReversed.j1, if_neg (by simp), if_neg (nonempty_toList hz), d1, d2, Option.bind_some, Option.bind_some, if_pos d3, if_pos d3, if_pos (by simp), if_pos rfl]
end Go.Proofs.YtpeeflkodpnbpaaDoor.Pure
