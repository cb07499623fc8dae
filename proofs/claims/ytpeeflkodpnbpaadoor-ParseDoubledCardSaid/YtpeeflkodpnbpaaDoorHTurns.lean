/- Turns, plainly: the last letters of the sorted turns, the position of the word; the reference's. -/
import Derived.Test.YtpeeflkodpnbpaaDoorHEv
import Derived.Test.YtpeeflkodpnbpaaDoorPrB17
import Derived.Test.YtpeeflkodpnbpaaDoorHSort
import Derived.Test.YtpeeflkodpnbpaaDoorPrB22
import Derived.Test.YtpeeflkodpnbpaaDoorPrA10
import Derived.Test.YtpeeflkodpnbpaaDoorPrA22
namespace Go.Proofs.YtpeeflkodpnbpaaDoor.Pr
open Go.RowKit Go.Proofs.YtpeeflkodpnbpaaDoorW.PrintWords Go.Proofs.YtpeeflkodpnbpaaDoorW.PrintLast Go.Proofs.YtpeeflkodpnbpaaDoorW.PrintMore
set_option linter.unusedVariables false
set_option linter.unusedSimpArgs false

/-- the turn that begins at i -/
def rotS (s : ByteArray) (i : Nat) : ByteArray := s.extract i s.size ++ s.extract 0 i
def rotsUp (s : ByteArray) : Nat → List ByteArray
  | 0 => []
  | k + 1 => rotsUp s k ++ [rotS s k]
def rots (s : ByteArray) : List ByteArray := rotsUp s s.size
theorem rotS_size (s : ByteArray) (i : Nat) (h : i ≤ s.size) : (rotS s i).size = s.size := by
  unfold rotS
  rw [ByteArray.size_append, ByteArray.size_extract, ByteArray.size_extract]
  omega
theorem rotsUp_len (s : ByteArray) : ∀ k, (rotsUp s k).length = k
  | 0 => rfl
  | k + 1 => by rw [rotsUp, List.length_append, rotsUp_len s k]; rfl
theorem mem_rotsUp {s t : ByteArray} : ∀ {k : Nat}, t ∈ rotsUp s k ↔ ∃ j, j < k ∧ t = rotS s j
  | 0 => by simp [rotsUp]
  | k + 1 => by
    rw [rotsUp, List.mem_append, mem_rotsUp, List.mem_singleton]
    constructor
    · rintro (⟨j, hj, h⟩ | h)
      · exact ⟨j, by omega, h⟩
      · exact ⟨k, by omega, h⟩
    · rintro ⟨j, hj, h⟩
      by_cases e : j = k
      · subst e; exact .inr h
      · exact .inl ⟨j, by omega, h⟩
/-- the last letter, as a number -/
def lastN (t : ByteArray) : Int := bt t ((t.size : Int) - 1)
def lastsOf (l : List ByteArray) : List Int := l.map lastN
/-- the first place of s in a list, or -1 -/
def idxS (s : ByteArray) : List ByteArray → Nat → Int
  | [], _ => -1
  | x :: l, i => if s = x then (i : Int) else idxS s l (i + 1)
theorem toList_iff (a b : ByteArray) : a.toList = b.toList ↔ a = b := by
  rw [ByteArray.toList_eq, ByteArray.toList_eq]
  constructor
  · intro h
    cases a; cases b
    simp at h
    rw [h]
  · intro h; rw [h]
theorem index_ev' (s : ByteArray) (l : List ByteArray) (hl : l.length ≤ 1000) : Evt (fun k => slices_Index_string_string.f k l s) (idxS s l 0) := by
  have : ∀ (m i : Nat), i + m = l.length → Evt (fun k => slices_Index_string_string.l0 k l s (l.length : Int) (i : Int)) (idxS s (l.drop i) i) := by
    intro m
    induction m with
    | zero =>
      intro i hi
      refine Evt.now fun k => ?_
      rw [slices_Index_string_string.l0, if_neg (by omega), List.drop_eq_nil_of_le (by omega), idxS]
    | succ m ih =>
      intro i hi
      have hlt : i < l.length := by omega
      have e : rdOf ByteArray.empty l (i : Int) = l[i] := by simp [rdOf, hlt]
      rw [List.drop_eq_getElem_cons hlt, idxS]
      by_cases c : s = l[i]
      · rw [if_pos c]
        refine Evt.now fun k => ?_
        rw [slices_Index_string_string.l0, if_pos (by omega), if_pos (by omega), if_pos (by omega), e, if_pos ((toList_iff _ _).2 c)]
      · rw [if_neg c]
        refine Evt.step (g' := fun k => slices_Index_string_string.l0 k l s (l.length : Int) ((i + 1 : Nat) : Int)) (fun k => ?_) (ih (i + 1) (by omega))
        rw [slices_Index_string_string.l0, if_pos (by omega), if_pos (by omega), if_pos (by omega), e, if_neg (fun h => c ((toList_iff _ _).1 h)), wr (by omega) (by omega)]
        rfl
  exact this l.length 0 (by omega)
/-- the last letters of a sorted list of turns, as the code fills them in -/
theorem lasts_ev (s : ByteArray) (hs : s.size ≤ 1000) (l : List ByteArray) (hl : l.length = s.size) (hsz : ∀ t, t ∈ l → t.size = s.size) : ∀ (m i : Nat) (out : List Int), i + m = l.length → out.length = s.size → out.take i = lastsOf (l.take i) →
    Evt (fun k => parse_Turns.l1 k s l out l (l.length : Int) (i : Int)) (strOfNums (lastsOf l), mx 0 (idxS s l 0), 0) := by
  intro m
  induction m with
  | zero =>
    intro i out hi ho ht
    have : out = lastsOf l := by
      have h1 : out.take i = out := List.take_of_length_le (by omega)
      have h2 : l.take i = l := List.take_of_length_le (by omega)
      rw [h1, h2] at ht
      exact ht
    subst this
    refine Evt.step (g' := fun k => (slices_Index_string_string.f k l s).bind fun t237 => some (strOfNums (lastsOf l), mx 0 t237, 0)) (fun k => ?_) (Evt.bind (index_ev' s l (by omega)) (Evt.const rfl))
    rw [parse_Turns.l1, if_neg (by omega)]
  | succ m ih =>
    intro i out hi ho ht
    have hlt : i < l.length := by omega
    have e : rdOf ByteArray.empty l (i : Int) = l[i] := by simp [rdOf, hlt]
    have hz : l[i].size = s.size := hsz _ (List.getElem_mem hlt)
    have hw : wrap64 ((l[i].size : Int) - 1) = (l[i].size : Int) - 1 := wr (by omega) (by omega)
    refine Evt.step (g' := fun k => parse_Turns.l1 k s l (out.set i (lastN l[i])) l (l.length : Int) ((i + 1 : Nat) : Int)) (fun k => ?_) (ih (i + 1) (out.set i (lastN l[i])) (by omega) (by rw [List.length_set]; exact ho) ?_)
    · have c1 : (i : Int) < (l.length : Int) := by omega
      have c2 : (0 : Int) ≤ (i : Int) := by omega
      have c3 : (0 : Int) ≤ (l[i].size : Int) - 1 := by omega
      have c4 : (l[i].size : Int) - 1 < (l[i].size : Int) := by omega
      have c5 : (i : Int) < (out.length : Int) := by omega
      rw [parse_Turns.l1, if_pos c1, if_pos c2, if_pos c1, e, hw, if_pos c3, if_pos c4, if_pos c5, wr (x := (i : Int) + 1) (by omega) (by omega)]
      rfl
    · have h1 : (out.set i (lastN l[i])).take (i + 1) = out.take i ++ [lastN l[i]] := by
        apply List.ext_getElem?
        intro j
        by_cases hj : j < i
        · simp [List.getElem?_take, hj, show j < i + 1 by omega, List.getElem?_append, show j < min i out.length by omega, List.getElem?_set, show ¬ i = j by omega]
        · by_cases hj2 : j = i
          · subst hj2
            simp [List.getElem?_take, List.getElem?_append, show ¬ j < min j out.length by omega, List.getElem?_set, show j < out.length by omega, show min j out.length = j by omega]
          · have : ¬ j < i + 1 := by omega
            simp [List.getElem?_take, this, List.getElem?_append, show ¬ j < min i out.length by omega]
            omega
      rw [h1, ht, lastsOf, lastsOf, ← List.map_singleton (f := lastN), ← List.map_append]
      congr 1
      exact (List.take_succ_eq_append_getElem hlt).symm
def turnL (s : ByteArray) : ByteArray := strOfNums (lastsOf (sortS (rots s)))
def turnP (s : ByteArray) : Int := mx 0 (idxS s (sortS (rots s)) 0)

theorem turns_l0 (s : ByteArray) (hs : s.size ≤ 160) : ∀ (m i : Nat), i + m = s.size → Evt (fun k => parse_Turns.l0 k s (rotsUp s i) (s.size : Int) (i : Int)) (turnL s, turnP s, 0) := by
  intro m
  induction m with
  | zero =>
    intro i hi
    obtain rfl : i = s.size := by omega
    have hlen := rotsUp_len s s.size
    have hl2 : (sortS (rots s)).length = s.size := by rw [sortS_len]; exact hlen
    have hsort : slices_Sort_string_string.f (rotsUp s s.size) = some (sortS (rots s)) := by
      unfold slices_Sort_string_string.f
      rw [if_pos (by rw [hlen]; omega)]; rfl
    refine Evt.step (g' := fun k => parse_Turns.l1 k s (sortS (rots s)) (List.replicate s.size 0) (sortS (rots s)) ((sortS (rots s)).length : Int) ((0 : Nat) : Int)) (fun k => ?_) ?_
    · rw [parse_Turns.l0, if_neg (by omega), hsort, Option.bind_some, if_pos (by omega), if_pos (by omega), hl2, hlen]
      rfl
    · refine lasts_ev s (by omega) _ hl2 (fun t ht => ?_) s.size 0 _ (by omega) (by simp) (by simp [lastsOf])
      obtain ⟨j, hj, rfl⟩ := mem_rotsUp.1 ((sortS_perm _).mem_iff.1 ht)
      exact rotS_size s j (by omega)
  | succ m ih =>
    intro i hi
    refine Evt.step (g' := fun k => parse_Turns.l0 k s (rotsUp s (i + 1)) (s.size : Int) ((i + 1 : Nat) : Int)) (fun k => ?_) (ih (i + 1) (by omega))
    have hz := rotS_size s i (by omega)
    have hz2 : (s.extract (i : Int).toNat s.size).size + (s.extract 0 (i : Int).toNat).size ≤ 9223372036854775807 := by
      rw [ByteArray.size_extract, ByteArray.size_extract]; omega
    have hl := rotsUp_len s i
    rw [parse_Turns.l0, if_pos (by omega), if_pos (by omega), if_pos (by omega), if_pos hz2, if_pos (by omega), wr (by omega) (by omega)]
    rfl
theorem turns_ev (s : ByteArray) (h : isWordC s = true) : Evt (fun k => parse_Turns.f k s) (turnL s, turnP s, 0) := by
  have hs := ((isWordC_iff s).1 h).1
  refine Evt.congr (turns_l0 s hs s.size 0 (by omega)) (fun k => ?_)
  rw [parse_Turns.f, parse_isWord.f, h, Option.bind_some, if_pos rfl]
  rfl
theorem turns_no (s : ByteArray) (h : isWordC s = false) : Evt (fun k => parse_Turns.f k s) ((⟨#[]⟩ : ByteArray), 0, 2) := by
  refine Evt.all (fun k => ?_)
  rw [parse_Turns.f, parse_isWord.f, h, Option.bind_some, if_neg (by decide)]

/-! ### the reference -/
theorem insS_at (x : ByteArray) : ∀ (l : List ByteArray) (p : Nat), p ≤ l.length → (∀ y, y ∈ l.take p → Op.bytesLess y.toList x.toList = true) → insS x l = l.take p ++ insS x (l.drop p)
  | l, 0, _, _ => by simp
  | [], p + 1, h, _ => by simp at h
  | y :: l, p + 1, h, hl => by
    rw [List.take_succ_cons, List.drop_succ_cons, insS, if_pos (hl y (by simp)), List.cons_append, ← insS_at x l p (by simpa using h) (fun z hz => hl z (by simp [hz]))]
theorem ins_l1 (s : ByteArray) (hs : s.size ≤ 160) (l : List ByteArray) (hl : l.length ≤ 160) (i : Nat) (hi : i < s.size) (x : ByteArray) (r : ByteArray × Int) : ∀ (m p : Nat), p + m = l.length → (∀ y, y ∈ l.take p → Op.bytesLess y.toList x.toList = true) →
    Evt (fun k => numnahref09_Turns.l0 k s (insS x l) ((i + 1 : Nat) : Int)) r → Evt (fun k => numnahref09_Turns.l1 k s l (i : Int) x (p : Int)) r := by
  have fin : ∀ p, p ≤ l.length → ∀ k, ((some (l.take (p : Int).toNat : List ByteArray)).bind fun y384 => (if ([] : List ByteArray).length + y384.length < 8796093022208 then ((some (([] : List ByteArray) ++ y384 : List ByteArray)).bind fun y388 => (if y388.length < 8796093022208 then ((some (y388 ++ [x] : List ByteArray)).bind fun y391 => ((some (l.drop (p : Int).toNat : List ByteArray)).bind fun y394 => (if y391.length + y394.length < 8796093022208 then (numnahref09_Turns.l0 k s (y391 ++ y394) (wrap64 ((i : Int) + 1))) else (none)))) else (none))) else (none))) = numnahref09_Turns.l0 k s ((l.take p ++ [x]) ++ l.drop p) ((i + 1 : Nat) : Int) := by
    intro p hp k
    rw [Option.bind_some, if_pos (by simp; omega), Option.bind_some, if_pos (by simp; omega), Option.bind_some, Option.bind_some, if_pos (by simp; omega), wr (by omega) (by omega)]
    rfl
  intro m
  induction m with
  | zero =>
    intro p hp hlt h
    have e : insS x l = (l.take p ++ [x]) ++ l.drop p := by
      rw [insS_at x l p (by omega) hlt, List.drop_eq_nil_of_le (by omega), insS, List.append_nil]
    refine Evt.step (fun k => ?_) h
    rw [numnahref09_Turns.l1, if_neg (by omega), if_pos (by omega), if_pos (by omega), fin p (by omega), e]
  | succ m ih =>
    intro p hp hlt h
    have hpl : p < l.length := by omega
    have e : rdOf ByteArray.empty l (p : Int) = l[p] := by simp [rdOf, hpl]
    by_cases c : Op.bytesLess l[p].toList x.toList = true
    · refine Evt.step (g' := fun k => numnahref09_Turns.l1 k s l (i : Int) x ((p + 1 : Nat) : Int)) (fun k => ?_) (ih (p + 1) (by omega) (fun y hy => ?_) h)
      · rw [numnahref09_Turns.l1, if_pos (by omega), if_pos (by omega), e, if_pos c, wr (x := (p : Int) + 1) (by omega) (by omega)]
        rfl
      · rw [List.take_succ_eq_append_getElem hpl, List.mem_append, List.mem_singleton] at hy
        rcases hy with hy | rfl
        · exact hlt y hy
        · exact c
    · have e2 : insS x l = (l.take p ++ [x]) ++ l.drop p := by
        rw [insS_at x l p (by omega) hlt, List.drop_eq_getElem_cons hpl, insS, if_neg c]
        simp
      refine Evt.step (fun k => ?_) h
      rw [numnahref09_Turns.l1, if_pos (by omega), if_pos (by omega), e, if_neg c, if_pos (by omega), fin p (by omega), e2]
theorem lastPiece (t : ByteArray) (n : Nat) (hn : t.size = n) (h1 : 1 ≤ n) (l : List Int) : t.extract (n - 1) t.size ++ strOfNums l = strOfNums (lastN t :: l) := by
  have hlt : n - 1 < t.data.size := by have : t.data.size = n := hn; omega
  have e : lastN t = ((t.data[n - 1]'hlt).toNat : Int) := by
    unfold lastN bt
    rw [dif_pos (by rw [hn]; omega)]
    have : ((t.size : Int) - 1).toNat = n - 1 := by omega
    simp only [this]
    rfl
  apply ByteArray.ext
  apply Array.ext'
  rw [ByteArray.data_append, ByteArray.data_extract, Array.toList_append, Array.toList_extract]
  show _ = (lastN t :: l).map (fun n => UInt8.ofNat n.toNat)
  rw [List.map_cons, e]
  have hd : t.data.toList.drop (n - 1) = [t.data[n - 1]'hlt] := by
    rw [List.drop_eq_getElem_cons (by simpa using hlt), List.drop_eq_nil_of_le (by have : t.data.size = n := hn; simp; omega)]
    simp
  have ht : t.size - (n - 1) = 1 := by omega
  rw [List.extract_eq_take_drop, hd, ht]
  simp [strOfNums]
theorem refTurns_l2 (s : ByteArray) (hs : s.size ≤ 160) (l : List ByteArray) (hl : l.length ≤ s.size) (hsz : ∀ t, t ∈ l → t.size = s.size) : ∀ (i : Nat), i ≤ l.length → Evt (fun k => numnahref09_Turns.l2 k s l (strOfNums (lastsOf (l.drop i))) (mx 0 (idxS s (l.drop i) i)) ((i : Int) - 1)) (strOfNums (lastsOf l), mx 0 (idxS s l 0))
  | 0, hi => by
    refine Evt.now fun k => ?_
    rw [numnahref09_Turns.l2, if_neg (by omega), List.drop_zero]
  | i + 1, hi => by
    have hlt : i < l.length := by omega
    have e : rdOf ByteArray.empty l (i : Int) = l[i] := by simp [rdOf, hlt]
    have hz : l[i].size = s.size := hsz _ (List.getElem_mem hlt)
    have ih := refTurns_l2 s hs l hl hsz i (by omega)
    rw [List.drop_eq_getElem_cons hlt] at ih
    have e0 : (((i + 1 : Nat) : Int) - 1) = (i : Int) := by omega
    have ew : wrap64 ((s.size : Int) - 1) = (s.size : Int) - 1 := wr (by omega) (by omega)
    have ep : (l[i].extract ((s.size : Int) - 1).toNat l[i].size) ++ strOfNums (lastsOf (l.drop (i + 1))) = strOfNums (lastsOf (l[i] :: l.drop (i + 1))) := by
      have := lastPiece l[i] s.size hz (by omega) (lastsOf (l.drop (i + 1)))
      rw [show ((s.size : Int) - 1).toNat = s.size - 1 by omega]
      exact this
    have el : (l[i].extract ((s.size : Int) - 1).toNat l[i].size).size + (strOfNums (lastsOf (l.drop (i + 1)))).size ≤ 9223372036854775807 := by
      rw [ByteArray.size_extract, strOfNums_size, lastsOf, List.length_map, List.length_drop]; omega
    have w1 : wrap64 ((i : Int) - 1) = (i : Int) - 1 := wr (by omega) (by omega)
    have c1 : (i : Int) ≥ 0 := by omega
    have c2 : (i : Int) < (l.length : Int) := by omega
    have c3 : (0 : Int) ≤ (s.size : Int) - 1 := by omega
    have c4 : (s.size : Int) - 1 ≤ (l[i].size : Int) := by omega
    rw [e0]
    by_cases c : s = l[i]
    · rw [idxS, if_pos c] at ih
      have hm : mx 0 (i : Int) = (i : Int) := by unfold mx; split <;> omega
      rw [hm] at ih
      refine Evt.step (fun k => ?_) ih
      rw [numnahref09_Turns.l2, if_pos c1, if_pos c1, if_pos c2, ew, if_pos c3, e, if_pos c4, if_pos el, if_pos ((toList_iff _ _).2 c.symm), ep, w1]
    · rw [idxS, if_neg c] at ih
      refine Evt.step (fun k => ?_) ih
      rw [numnahref09_Turns.l2, if_pos c1, if_pos c1, if_pos c2, ew, if_pos c3, e, if_pos c4, if_pos el, if_neg (fun h => c ((toList_iff _ _).1 h).symm), ep, w1]
def insUp (s : ByteArray) : Nat → List ByteArray
  | 0 => []
  | k + 1 => insS (rotS s k) (insUp s k)
theorem insUp_perm (s : ByteArray) : ∀ k, (insUp s k).Perm (rotsUp s k)
  | 0 => .refl _
  | k + 1 => by
    rw [insUp, rotsUp]
    exact (insS_perm _ _).trans (((insUp_perm s k).cons _).trans (List.perm_append_singleton _ _).symm)
theorem insUp_sorted (s : ByteArray) : ∀ k, (insUp s k).Pairwise leS
  | 0 => .nil
  | k + 1 => insS_sorted _ _ (insUp_sorted s k)
theorem insUp_eq (s : ByteArray) : insUp s s.size = sortS (rots s) :=
  sortedS_unique (insUp_sorted s _) (sortS_sorted _) ((insUp_perm s _).trans (sortS_perm _).symm)
theorem refTurns_l0 (s : ByteArray) (hs : s.size ≤ 160) : ∀ (m i : Nat), i + m = s.size → Evt (fun k => numnahref09_Turns.l0 k s (insUp s i) (i : Int)) (turnL s, turnP s) := by
  intro m
  induction m with
  | zero =>
    intro i hi
    obtain rfl : i = s.size := by omega
    have hlen : (sortS (rots s)).length = s.size := by rw [sortS_len]; exact rotsUp_len s s.size
    have := refTurns_l2 s hs (sortS (rots s)) (by omega) (fun t ht => by
      obtain ⟨j, hj, rfl⟩ := mem_rotsUp.1 ((sortS_perm _).mem_iff.1 ht)
      exact rotS_size s j (by omega)) (sortS (rots s)).length (Nat.le_refl _)
    rw [List.drop_length] at this
    refine Evt.step (fun k => ?_) this
    rw [numnahref09_Turns.l0, if_neg (by omega), insUp_eq, wr (by omega) (by omega)]
    rfl
  | succ m ih =>
    intro i hi
    have hl : (insUp s i).length = i := by rw [(insUp_perm s i).length_eq, rotsUp_len]
    have hz2 : (s.extract (i : Int).toNat s.size).size + (s.extract 0 (i : Int).toNat).size ≤ 9223372036854775807 := by
      rw [ByteArray.size_extract, ByteArray.size_extract]; omega
    refine Evt.step (g' := fun k => numnahref09_Turns.l1 k s (insUp s i) (i : Int) (rotS s i) ((0 : Nat) : Int)) (fun k => ?_) (ins_l1 s hs (insUp s i) (by omega) i (by omega) (rotS s i) _ i 0 (by omega) (by simp) (ih (i + 1) (by omega)))
    rw [numnahref09_Turns.l0, if_pos (by omega), if_pos (by omega), if_pos (by omega), if_pos hz2]
    rfl
theorem refTurns_ev (s : ByteArray) (hs : s.size ≤ 160) : Evt (fun k => numnahref09_Turns.f k s) (turnL s, turnP s) := refTurns_l0 s hs s.size 0 (by omega)

/-! ### runs -/
def runN (t : ByteArray) : Nat → Nat → Int → Int
  | 0, _, n => n
  | q + 1, i, n => if i = 0 ∨ bt t ((i : Int) - 1) ≠ bt t i then runN t q (i + 1) (n + 1) else runN t q (i + 1) n
theorem runs_ev (t : ByteArray) (ht : t.size ≤ 160) (e : Int) : ∀ (m i : Nat) (n : Int), i + m = t.size → 0 ≤ n → n ≤ i → Evt (fun k => parse_Runs.l0 k t e n (t.size : Int) (i : Int)) (runN t m i n, e)
  | 0, i, n, hi, _, _ => by
    refine Evt.now fun k => ?_
    rw [parse_Runs.l0, if_neg (by omega), runN]
  | m + 1, i, n, hi, h0, h1 => by
    have w1 : wrap64 ((i : Int) + 1) = ((i + 1 : Nat) : Int) := (wr (by omega) (by omega)).trans (by omega)
    have w2 : wrap64 (n + 1) = n + 1 := wr (by omega) (by omega)
    have w3 : wrap64 ((i : Int) - 1) = (i : Int) - 1 := wr (by omega) (by omega)
    rw [runN]
    by_cases c0 : i = 0
    · rw [if_pos (.inl c0)]
      refine Evt.step (fun k => ?_) (runs_ev t ht e m (i + 1) (n + 1) (by omega) (by omega) (by omega))
      rw [parse_Runs.l0, if_pos (by omega), if_pos (by omega), w1, w2]
    · by_cases c : bt t ((i : Int) - 1) = bt t i
      · rw [if_neg (fun h => h.elim c0 (fun h => h c))]
        refine Evt.step (fun k => ?_) (runs_ev t ht e m (i + 1) n (by omega) (by omega) (by omega))
        rw [parse_Runs.l0, if_pos (by omega), if_neg (by omega), if_pos (by omega), if_pos (by omega), w3, if_pos (by omega), if_pos (by omega), if_pos c.symm, w1]
      · rw [if_pos (.inr c)]
        refine Evt.step (fun k => ?_) (runs_ev t ht e m (i + 1) (n + 1) (by omega) (by omega) (by omega))
        rw [parse_Runs.l0, if_pos (by omega), if_neg (by omega), if_pos (by omega), if_pos (by omega), w3, if_pos (by omega), if_pos (by omega), if_neg (fun h => c h.symm), w1, w2]
theorem refRuns_ev (t : ByteArray) (ht : t.size ≤ 160) : ∀ (m i : Nat) (n : Int), i + m = t.size → 0 ≤ n → n ≤ i → Evt (fun k => numnahref09_Runs.l0 k t n (i : Int)) (runN t m i n)
  | 0, i, n, hi, _, _ => by
    refine Evt.now fun k => ?_
    rw [numnahref09_Runs.l0, if_neg (by omega), runN]
  | m + 1, i, n, hi, h0, h1 => by
    have w1 : wrap64 ((i : Int) + 1) = ((i + 1 : Nat) : Int) := (wr (by omega) (by omega)).trans (by omega)
    have w2 : wrap64 (n + 1) = n + 1 := wr (by omega) (by omega)
    have w3 : wrap64 ((i : Int) - 1) = (i : Int) - 1 := wr (by omega) (by omega)
    rw [runN]
    by_cases c0 : i = 0
    · rw [if_pos (.inl c0)]
      refine Evt.step (fun k => ?_) (refRuns_ev t ht m (i + 1) (n + 1) (by omega) (by omega) (by omega))
      rw [numnahref09_Runs.l0, if_pos (by omega), if_pos (by omega), w1, w2]
    · by_cases c : bt t ((i : Int) - 1) = bt t i
      · rw [if_neg (fun h => h.elim c0 (fun h => h c))]
        refine Evt.step (fun k => ?_) (refRuns_ev t ht m (i + 1) n (by omega) (by omega) (by omega))
        rw [numnahref09_Runs.l0, if_pos (by omega), if_neg (by omega), w3, if_pos (by omega), if_pos (by omega), if_pos (by omega), if_pos c, w1]
      · rw [if_pos (.inr c)]
        refine Evt.step (fun k => ?_) (refRuns_ev t ht m (i + 1) (n + 1) (by omega) (by omega) (by omega))
        rw [numnahref09_Runs.l0, if_pos (by omega), if_neg (by omega), w3, if_pos (by omega), if_pos (by omega), if_pos (by omega), if_neg c, w1, w2]
theorem turnL_size (s : ByteArray) : (turnL s).size = s.size := by
  unfold turnL
  rw [strOfNums_size, lastsOf, List.length_map, sortS_len]
  exact rotsUp_len s s.size
end Go.Proofs.YtpeeflkodpnbpaaDoor.Pr
