/- ParseInverse, plainly: the word can be read back from its last letters and its position: the i-th occurrence of a letter among the sorted letters follows the i-th one among the last letters. -/
import Derived.Test.YtpeeflkodpnbpaaDoorHTurns
import Derived.Test.YtpeeflkodpnbpaaDoorHCnt
import Derived.Test.YtpeeflkodpnbpaaDoorPrB3
import Derived.Test.YtpeeflkodpnbpaaDoorHAw
import Derived.Test.YtpeeflkodpnbpaaDoorHTame
/- The inversion of the sorted turns: the letter at place i of the sorted letters stands at place next[i] of the last letters. -/
namespace Go.Proofs.YtpeeflkodpnbpaaDoor.Pr
open Go.RowKit Go.Proofs.YtpeeflkodpnbpaaDoorW.PrintWords Go.Proofs.YtpeeflkodpnbpaaDoorW.PrintLast Go.Proofs.YtpeeflkodpnbpaaDoorW.PrintMore
set_option linter.unusedVariables false
set_option linter.unusedSimpArgs false

/-- the last letter goes to the front -/
def un {α : Type} (x : List α) : List α := x.drop (x.length - 1) ++ x.take (x.length - 1)
theorem un_snoc {α : Type} (x : List α) (c : α) : un (x ++ [c]) = c :: x := by
  unfold un
  simp
theorem snoc_of {α : Type} : ∀ (x : List α), 1 ≤ x.length → ∃ y c, x = y ++ [c]
  | x, h => ⟨x.dropLast, x.getLast (by intro e; subst e; simp at h), (List.dropLast_concat_getLast _).symm⟩
theorem un_len {α : Type} (x : List α) (h : 1 ≤ x.length) : (un x).length = x.length := by
  obtain ⟨y, c, rfl⟩ := snoc_of x h
  rw [un_snoc]; simp
/-- a turn, as a list of bytes -/
theorem bl_rot (s : ByteArray) (i : Nat) (h : i ≤ s.size) : bl (rotS s i) = (bl s).drop i ++ (bl s).take i := by
  unfold rotS
  rw [bl_append, bl_extract, bl_extract, List.drop_zero, Nat.sub_zero, List.take_of_length_le (by rw [List.length_drop, bl_len]; omega)]
theorem un_rot (s : ByteArray) (i : Nat) (h : i < s.size) : un (bl (rotS s (i + 1))) = bl (rotS s i) := by
  have hlt : i < (bl s).length := by rw [bl_len]; exact h
  rw [bl_rot s (i + 1) (by omega), bl_rot s i (by omega), List.take_succ_eq_append_getElem hlt, ← List.append_assoc, un_snoc, List.drop_eq_getElem_cons hlt, List.cons_append]
theorem rot_full (s : ByteArray) : bl (rotS s s.size) = bl (rotS s 0) := by
  rw [bl_rot s s.size (by omega), bl_rot s 0 (by omega), List.drop_of_length_le (by rw [bl_len]; omega), List.take_of_length_le (by rw [bl_len]; omega)]
  simp
/-- all turns, as lists -/
def RB (s : ByteArray) : List (List UInt8) := (List.range s.size).map (fun i => bl (rotS s i))
theorem rotsUp_eq (s : ByteArray) : ∀ k, (rotsUp s k).map bl = (List.range k).map (fun i => bl (rotS s i))
  | 0 => rfl
  | k + 1 => by
    rw [rotsUp, List.map_append, rotsUp_eq s k, List.range_succ, List.map_append]; rfl
theorem RB_un (s : ByteArray) : ((RB s).map un).Perm (RB s) := by
  unfold RB
  rw [List.map_map]
  cases hn : s.size with
  | zero => exact .refl _
  | succ n =>
    have e1 : (List.range (n + 1)).map (un ∘ fun i => bl (rotS s i)) = bl (rotS s n) :: (List.range n).map (fun i => bl (rotS s i)) := by
      rw [List.range_succ_eq_map, List.map_cons, List.map_map]
      congr 1
      · show un (bl (rotS s 0)) = _
        rw [← rot_full, hn, un_rot s n (by omega)]
      · apply List.map_congr_left
        intro i hi
        have := List.mem_range.1 hi
        exact un_rot s i (by omega)
    rw [e1, List.range_succ, List.map_append]
    exact (List.perm_append_singleton _ _).symm
/-- the sorted turns, as lists -/
def SB (s : ByteArray) : List (List UInt8) := (sortS (rots s)).map bl
theorem SB_perm (s : ByteArray) : (SB s).Perm (RB s) := by
  unfold SB RB
  rw [← rotsUp_eq]
  exact (sortS_perm _).map bl
theorem SB_sorted (s : ByteArray) : (SB s).Pairwise (fun x y : List UInt8 => x ≤ y) := List.pairwise_map.2 (sortS_sorted _)
theorem SB_len (s : ByteArray) : (SB s).length = s.size := by rw [(SB_perm s).length_eq]; simp [RB]
theorem RB_size {s : ByteArray} {x : List UInt8} (h : x ∈ RB s) : x.length = s.size := by
  obtain ⟨i, hi, rfl⟩ := List.mem_map.1 h
  rw [bl_len, rotS_size s i (by have := List.mem_range.1 hi; omega)]
theorem SB_size {s : ByteArray} {x : List UInt8} (h : x ∈ SB s) : x.length = s.size := RB_size ((SB_perm s).mem_iff.1 h)
theorem RB_bytes {s : ByteArray} {x : List UInt8} (h : x ∈ RB s) : ∀ c, c ∈ x → c ∈ bl s := by
  obtain ⟨i, hi, rfl⟩ := List.mem_map.1 h
  intro c hc
  rw [bl_rot s i (by have := List.mem_range.1 hi; omega)] at hc
  rcases List.mem_append.1 hc with hc | hc
  · exact List.mem_of_mem_drop hc
  · exact List.mem_of_mem_take hc

/-! ### the four blocks -/
def lastB (x : List UInt8) : Nat := match x.getLast? with
  | some c => c.toNat
  | none => 0
theorem lastB_snoc (x : List UInt8) (c : UInt8) : lastB (x ++ [c]) = c.toNat := by simp [lastB]
def blocks (L : List (List UInt8)) : List (List UInt8) := L.filter (fun x => lastB x == 97) ++ (L.filter (fun x => lastB x == 98) ++ (L.filter (fun x => lastB x == 99) ++ L.filter (fun x => lastB x == 100)))
theorem blocks_perm : ∀ (L : List (List UInt8)), (∀ x, x ∈ L → lastB x = 97 ∨ lastB x = 98 ∨ lastB x = 99 ∨ lastB x = 100) → (blocks L).Perm L
  | [], _ => .refl _
  | x :: L, h => by
    have ih := blocks_perm L (fun y hy => h y (List.mem_cons_of_mem _ hy))
    unfold blocks at ih ⊢
    rcases h x List.mem_cons_self with e | e | e | e
    · simp only [List.filter_cons, e, Nat.reduceBEq, Bool.false_eq_true, ↓reduceIte]
      exact ih.cons x
    · simp only [List.filter_cons, e, Nat.reduceBEq, Bool.false_eq_true, ↓reduceIte]
      exact List.perm_middle.trans (ih.cons x)
    · simp only [List.filter_cons, e, Nat.reduceBEq, Bool.false_eq_true, ↓reduceIte]
      exact ((List.perm_middle.append_left _).trans List.perm_middle).trans (ih.cons x)
    · simp only [List.filter_cons, e, Nat.reduceBEq, Bool.false_eq_true, ↓reduceIte]
      exact ((((List.perm_middle.append_left _).trans List.perm_middle).append_left _).trans List.perm_middle).trans (ih.cons x)
theorem un_le_same {x y : List UInt8} (hx : 1 ≤ x.length) (hl : x.length = y.length) (e : lastB x = lastB y) (h : x ≤ y) : un x ≤ un y := by
  obtain ⟨p, c, rfl⟩ := snoc_of x hx
  obtain ⟨q, d, rfl⟩ := snoc_of y (by omega)
  rw [lastB_snoc, lastB_snoc] at e
  obtain rfl := UInt8.toNat_inj.1 e
  rw [un_snoc, un_snoc]
  have hpq : p.length = q.length := by simpa using hl
  have key : ∀ (p q : List UInt8), p.length = q.length → p ++ [c] ≤ q ++ [c] → p ≤ q := by
    intro p
    induction p with
    | nil => intro q hq _; cases q with
      | nil => exact List.le_refl _
      | cons b q => simp at hq
    | cons a p ih => intro q hq h; cases q with
      | nil => simp at hq
      | cons b q =>
        rw [List.cons_append, List.cons_append, List.cons_le_cons_iff] at h
        rw [List.cons_le_cons_iff]
        rcases h with h | ⟨h1, h2⟩
        · exact .inl h
        · exact .inr ⟨h1, ih q (by simpa using hq) h2⟩
  rw [List.cons_le_cons_iff]
  exact .inr ⟨rfl, key p q hpq h⟩
theorem un_le_lt {x y : List UInt8} (hx : 1 ≤ x.length) (hy : 1 ≤ y.length) (e : lastB x < lastB y) : un x ≤ un y := by
  obtain ⟨p, c, rfl⟩ := snoc_of x hx
  obtain ⟨q, d, rfl⟩ := snoc_of y hy
  rw [lastB_snoc, lastB_snoc] at e
  rw [un_snoc, un_snoc, List.cons_le_cons_iff]
  exact .inl (UInt8.lt_iff_toNat_lt.2 e)
theorem blocks_sorted (L : List (List UInt8)) (n : Nat) (hn : 1 ≤ n) (hL : L.Pairwise (fun x y : List UInt8 => x ≤ y)) (hz : ∀ x, x ∈ L → x.length = n) : ((blocks L).map un).Pairwise (fun x y : List UInt8 => x ≤ y) := by
  have one : ∀ c, ((L.filter (fun x => lastB x == c)).map un).Pairwise (fun x y : List UInt8 => x ≤ y) := by
    intro c
    refine List.pairwise_map.2 ?_
    have h1 := hL.filter (fun x => lastB x == c)
    refine h1.imp_of_mem (fun {a b} ha hb hle => ?_)
    have ha2 := List.mem_filter.1 ha
    have hb2 := List.mem_filter.1 hb
    exact un_le_same (by rw [hz a ha2.1]; exact hn) (by rw [hz a ha2.1, hz b hb2.1]) (by rw [beq_iff_eq.1 ha2.2, beq_iff_eq.1 hb2.2]) hle
  have two : ∀ c d, c < d → ∀ a, a ∈ (L.filter (fun x => lastB x == c)).map un → ∀ b, b ∈ (L.filter (fun x => lastB x == d)).map un → a ≤ b := by
    intro c d hcd a ha b hb
    obtain ⟨x, hx, rfl⟩ := List.mem_map.1 ha
    obtain ⟨y, hy, rfl⟩ := List.mem_map.1 hb
    have hx2 := List.mem_filter.1 hx
    have hy2 := List.mem_filter.1 hy
    exact un_le_lt (by rw [hz x hx2.1]; exact hn) (by rw [hz y hy2.1]; exact hn) (by rw [beq_iff_eq.1 hx2.2, beq_iff_eq.1 hy2.2]; exact hcd)
  unfold blocks
  rw [List.map_append, List.map_append, List.map_append]
  refine List.pairwise_append.2 ⟨one 97, List.pairwise_append.2 ⟨one 98, List.pairwise_append.2 ⟨one 99, one 100, two 99 100 (by omega)⟩, fun a ha b hb => ?_⟩, fun a ha b hb => ?_⟩
  · rcases List.mem_append.1 hb with hb | hb
    · exact two 98 99 (by omega) a ha b hb
    · exact two 98 100 (by omega) a ha b hb
  · rcases List.mem_append.1 hb with hb | hb
    · exact two 97 98 (by omega) a ha b hb
    · rcases List.mem_append.1 hb with hb | hb
      · exact two 97 99 (by omega) a ha b hb
      · exact two 97 100 (by omega) a ha b hb
theorem blocks_un (s : ByteArray) (hw : isWordC s = true) : (blocks (SB s)).map un = SB s := by
  by_cases hn : s.size = 0
  · have : SB s = [] := List.length_eq_zero_iff.1 (by rw [SB_len, hn])
    rw [this]; rfl
  · have hz : ∀ x, x ∈ SB s → x.length = s.size := fun x hx => SB_size hx
    have hl : ∀ x, x ∈ SB s → lastB x = 97 ∨ lastB x = 98 ∨ lastB x = 99 ∨ lastB x = 100 := by
      intro x hx
      obtain ⟨p, c, rfl⟩ := snoc_of x (by rw [hz x hx]; omega)
      rw [lastB_snoc]
      have := ok_mem s hw c (RB_bytes ((SB_perm s).mem_iff.1 hx) c (by simp))
      rcases this with rfl | rfl | rfl | rfl <;> simp
    refine List.Perm.eq_of_pairwise (le := fun x y : List UInt8 => x ≤ y) (fun a b _ _ h1 h2 => List.le_antisymm h1 h2) (blocks_sorted _ s.size (by omega) (SB_sorted s) hz) (SB_sorted s) ?_
    exact ((blocks_perm _ hl).map un).trans (((SB_perm s).map un).trans ((RB_un s).trans (SB_perm s).symm))
end Go.Proofs.YtpeeflkodpnbpaaDoor.Pr

namespace Go.Proofs.YtpeeflkodpnbpaaDoor.Pure
open Go.RowKit Go.Proofs.YtpeeflkodpnbpaaDoor.Pr Go.Proofs.YtpeeflkodpnbpaaDoorW.PrintWords Go.Proofs.YtpeeflkodpnbpaaDoorW.PrintLast
set_option linter.unusedVariables false

/-- the i-th sorted turn -/
def g9 (s : ByteArray) (i : Nat) : List UInt8 := (SB s).getD i []
theorem g9_range (s : ByteArray) : (List.range s.size).map (g9 s) = SB s := by
  apply List.ext_getElem
  · simp [SB_len]
  · intro i h1 h2
    simp [g9, h2]
def posN (s : ByteArray) (c i m : Nat) : List Nat := (List.range' i m).filter (fun j => lastB (g9 s j) == c)
def nextN (s : ByteArray) : List Nat := posN s 97 0 s.size ++ (posN s 98 0 s.size ++ (posN s 99 0 s.size ++ posN s 100 0 s.size))
theorem posN_map (s : ByteArray) (c : Nat) : (posN s c 0 s.size).map (g9 s) = (SB s).filter (fun x => lastB x == c) := by
  unfold posN
  rw [← List.range_eq_range']
  conv => rhs; rw [← g9_range s]
  rw [List.filter_map]
  rfl
theorem nextN_map (s : ByteArray) : (nextN s).map (g9 s) = blocks (SB s) := by
  unfold nextN blocks
  rw [List.map_append, List.map_append, List.map_append, posN_map, posN_map, posN_map, posN_map]
theorem nextN_len (s : ByteArray) (hw : isWordC s = true) : (nextN s).length = s.size := by
  have := congrArg List.length (blocks_un s hw)
  rw [List.length_map, SB_len, ← nextN_map, List.length_map] at this
  exact this
theorem mem_posN {s : ByteArray} {c i m j : Nat} (h : j ∈ posN s c i m) : j < i + m := by
  have := (List.mem_range'.1 (List.mem_filter.1 h).1)
  obtain ⟨q, hq, rfl⟩ := this
  omega
theorem nextN_lt (s : ByteArray) {j : Nat} (h : j ∈ nextN s) : j < s.size := by
  unfold nextN at h
  rcases List.mem_append.1 h with h | h
  · have := mem_posN h; omega
  · rcases List.mem_append.1 h with h | h
    · have := mem_posN h; omega
    · rcases List.mem_append.1 h with h | h <;> (have := mem_posN h; omega)
theorem nextN_un (s : ByteArray) (hw : isWordC s = true) (j : Nat) (hj : j < s.size) : un (g9 s ((nextN s)[j]'(by rw [nextN_len s hw]; exact hj))) = g9 s j := by
  have h := blocks_un s hw
  rw [← nextN_map, List.map_map] at h
  have h2 := congrArg (fun l => l[j]?) h
  simp only [List.getElem?_map] at h2
  have hl : j < (nextN s).length := by rw [nextN_len s hw]; exact hj
  have hl2 : j < (SB s).length := by rw [SB_len]; exact hj
  rw [List.getElem?_eq_getElem hl, List.getElem?_eq_getElem hl2, Option.map_some, Option.some.injEq] at h2
  rw [show g9 s j = (SB s)[j] by simp [g9, hl2]]
  exact h2
theorem lastN_bl (t : ByteArray) (h : 1 ≤ t.size) : lastN t = (lastB (bl t) : Int) := by
  have hlt : t.size - 1 < t.data.size := by have : t.data.size = t.size := rfl; omega
  unfold lastN bt
  rw [dif_pos (by omega)]
  have e : ((t.size : Int) - 1).toNat = t.size - 1 := by omega
  simp only [e]
  unfold lastB
  have h2 : (bl t).getLast? = some (t.data[t.size - 1]'hlt) := by
    rw [List.getLast?_eq_getElem?, bl_len]
    unfold bl
    rw [Array.getElem?_toList]
    exact Array.getElem?_eq_getElem hlt
  rw [h2]
  rfl
/-- the last letters -/
theorem bt_turn (s : ByteArray) (i : Nat) (hi : i < s.size) : bt (turnL s) (i : Int) = (lastB (g9 s i) : Int) := by
  have hz := turnL_size s
  have hl : i < (sortS (rots s)).length := by rw [sortS_len]; rw [show (rots s).length = s.size from rotsUp_len s s.size]; exact hi
  have hmem : (sortS (rots s))[i] ∈ sortS (rots s) := List.getElem_mem hl
  have hsz : ((sortS (rots s))[i]).size = s.size := by
    obtain ⟨j, hj, e⟩ := mem_rotsUp.1 ((sortS_perm _).mem_iff.1 hmem)
    rw [e]; exact rotS_size s j (by omega)
  have e1 : g9 s i = bl (sortS (rots s))[i] := by simp [g9, SB, hl]
  have e2 := lastN_bl (sortS (rots s))[i] (by omega)
  rw [← e1] at e2
  have hb : lastB (g9 s i) < 256 := by
    unfold lastB
    split
    · exact UInt8.toNat_lt _
    · omega
  unfold bt
  rw [dif_pos (by rw [Int.toNat_natCast, hz]; exact hi)]
  have h3 : ((turnL s).data[i]?) = some (UInt8.ofNat (lastN (sortS (rots s))[i]).toNat) := by
    unfold turnL
    rw [← Array.getElem?_toList, strOfNums_data]
    simp [lastsOf, hl]
  have h4 : i < (turnL s).data.size := by have : (turnL s).data.size = s.size := hz; omega
  have h5 : (turnL s).data[i]'h4 = UInt8.ofNat (lastN (sortS (rots s))[i]).toNat := by
    rw [Array.getElem?_eq_getElem h4] at h3
    exact Option.some.inj h3
  have h6 : ((turnL s)[(i : Int).toNat]'(by rw [Int.toNat_natCast, hz]; exact hi)) = (turnL s).data[i]'h4 := by
    simp only [Int.toNat_natCast]; rfl
  rw [h6, h5, e2, Int.toNat_natCast, UInt8.toNat_ofNat']
  omega
theorem inv_l1 (s : ByteArray) (hs : s.size ≤ 160) (P : Int) (c : Nat) (r : Bool) : ∀ (m i : Nat) (x7 : List Int), i + m = s.size → x7.length ≤ 1000 + i →
    Evt (fun k => numnahlaw09_ParseInverse.l0 k s (turnL s) P (x7 ++ (posN s c i m).map (fun j : Nat => (j : Int))) (((c : Int) + 1) % 256)) r →
    Evt (fun k => numnahlaw09_ParseInverse.l1 k s (turnL s) P x7 (c : Int) (i : Int)) r
  | 0, i, x7, hi, hx, h => by
    have hz := turnL_size s
    refine Evt.step (fun k => ?_) h
    rw [numnahlaw09_ParseInverse.l1, if_neg (by omega)]
    simp [posN]
  | m + 1, i, x7, hi, hx, h => by
    have hz := turnL_size s
    have hb := bt_turn s i (by omega)
    have w : Aside0 (wrap64 ((i : Int) + 1) = ((i + 1 : Nat) : Int)) := ⟨(wr (by omega) (by omega)).trans (by omega)⟩
    have c1 : (i : Int) < ((turnL s).size : Int) := by omega
    have c2 : (0 : Int) ≤ (i : Int) := by omega
    by_cases e : lastB (g9 s i) = c
    · have ep : posN s c i (m + 1) = i :: posN s c (i + 1) m := by
        unfold posN
        rw [List.range'_succ, List.filter_cons, if_pos (by simp [e])]
      rw [ep] at h
      have c3 : x7.length < 17592186044416 := by omega
      refine Evt.step (g' := fun k => numnahlaw09_ParseInverse.l1 k s (turnL s) P (x7 ++ [(i : Int)]) (c : Int) ((i + 1 : Nat) : Int)) (fun k => ?_) (inv_l1 s hs P c r m (i + 1) _ (by omega) (by rw [List.length_append, List.length_singleton]; omega) (by simpa using h))
      rw [numnahlaw09_ParseInverse.l1, if_pos c1, if_pos c2, hb, e, if_pos rfl, if_pos c3, w.out]
    · have e' : ¬ ((lastB (g9 s i) : Nat) : Int) = (c : Int) := fun hh => e (Int.ofNat.inj hh)
      have ep : posN s c i (m + 1) = posN s c (i + 1) m := by
        unfold posN
        rw [List.range'_succ, List.filter_cons, if_neg (by simp [e])]
      rw [ep] at h
      refine Evt.step (g' := fun k => numnahlaw09_ParseInverse.l1 k s (turnL s) P x7 (c : Int) ((i + 1 : Nat) : Int)) (fun k => ?_) (inv_l1 s hs P c r m (i + 1) _ (by omega) (by omega) h)
      rw [numnahlaw09_ParseInverse.l1, if_pos c1, if_pos c2, hb, if_neg e', w.out]
theorem un_inv {x y : List UInt8} {c : UInt8} (hx : 1 ≤ x.length) (h : un x = c :: y) : x = y ++ [c] := by
  obtain ⟨p, d, rfl⟩ := snoc_of x hx
  rw [un_snoc] at h
  injection h with h1 h2
  rw [h1, h2]
theorem g9_len (s : ByteArray) (i : Nat) (hi : i < s.size) : (g9 s i).length = s.size := by
  have hl : i < (SB s).length := by rw [SB_len]; exact hi
  rw [show g9 s i = (SB s)[i] by simp [g9, hl]]
  exact SB_size (List.getElem_mem hl)
theorem inv_l2 (s : ByteArray) (hs : s.size ≤ 160) (hw : isWordC s = true) : ∀ (m i p : Nat) (back : ByteArray), i + m = s.size → (m = 0 ∨ (p < s.size ∧ g9 s p = bl (rotS s i))) → bl back = (bl s).take i →
    Evt (fun k => numnahlaw09_ParseInverse.l2 k s (turnL s) ((nextN s).map (fun j : Nat => (j : Int))) back (p : Int) (i : Int)) true
  | 0, i, p, back, hi, _, hb => by
    have : back = s := by
      apply bl_inj
      rw [hb, List.take_of_length_le (by rw [bl_len]; omega)]
    subst this
    refine Evt.step (g' := fun k => (numnahlaw09_awake.f k).bind fun t => some t) (fun k => ?_) awake_bind
    rw [numnahlaw09_ParseInverse.l2, if_neg (by omega), if_pos rfl]
  | m + 1, i, p, back, hi, hp, hb => by
    obtain ⟨hp1, hp2⟩ := hp.resolve_left (by omega)
    have hz := turnL_size s
    have hnl := nextN_len s hw
    have hpl : p < (nextN s).length := by omega
    obtain ⟨q, hq⟩ : ∃ q, q = (nextN s)[p] := ⟨_, rfl⟩
    have hq1 : q < s.size := hq ▸ nextN_lt s (List.getElem_mem hpl)
    have hun := nextN_un s hw p hp1
    rw [← hq] at hun
    have hil : i < (bl s).length := by rw [bl_len]; omega
    have hrot : bl (rotS s i) = (bl s)[i] :: ((bl s).drop (i + 1) ++ (bl s).take i) := by
      rw [bl_rot s i (by omega), List.drop_eq_getElem_cons hil, List.cons_append]
    have hgq := un_inv (by rw [g9_len s q hq1]; omega) ((hun.trans hp2).trans hrot)
    have hrot2 : bl (rotS s (i + 1)) = ((bl s).drop (i + 1) ++ (bl s).take i) ++ [(bl s)[i]] := by
      rw [bl_rot s (i + 1) (by omega), List.take_succ_eq_append_getElem hil, List.append_assoc]
    have hlb : lastB (g9 s q) = ((bl s)[i]).toNat := by rw [hgq, lastB_snoc]
    have hbq := bt_turn s q hq1
    rw [hlb] at hbq
    have er : Aside0 (rd ((nextN s).map (fun j : Nat => (j : Int))) (p : Int) = (q : Int)) := ⟨by
      rw [hq]; simp [rd, hpl]⟩
    have w1 : Aside0 (wrap64 ((q : Int) + 1) = ((q + 1 : Nat) : Int)) := ⟨(wr (by omega) (by omega)).trans (by omega)⟩
    have w2 : Aside0 (wrap64 ((i : Int) + 1) = ((i + 1 : Nat) : Int)) := ⟨(wr (by omega) (by omega)).trans (by omega)⟩
    have hql : q < (turnL s).data.size := by have : (turnL s).data.size = s.size := hz; omega
    have hpiece : bl ((turnL s).extract (q : Int).toNat ((q + 1 : Nat) : Int).toNat) = [(bl s)[i]] := by
      rw [bl_extract, Int.toNat_natCast, Int.toNat_natCast]
      have hd : (bl (turnL s)).drop q = (turnL s).data[q]'hql :: (bl (turnL s)).drop (q + 1) := by
        have : q < (bl (turnL s)).length := by rw [bl_len]; omega
        rw [List.drop_eq_getElem_cons this]
        congr 1
      rw [hd, show q + 1 - q = 1 by omega, List.take_succ_cons, List.take_zero]
      congr 1
      apply UInt8.toNat_inj.1
      unfold bt at hbq
      rw [dif_pos (by rw [Int.toNat_natCast]; exact hql)] at hbq
      simp only [Int.toNat_natCast] at hbq
      have h9 : ((turnL s)[q]'hql) = (turnL s).data[q]'hql := rfl
      rw [h9] at hbq
      omega
    have hbl : bl back = (bl s).take i := hb
    have hbz : back.size ≤ 160 := by rw [← bl_len, hb, List.length_take]; omega
    have hpz : ((turnL s).extract (q : Int).toNat ((q + 1 : Nat) : Int).toNat).size = 1 := by rw [← bl_len, hpiece]; rfl
    have c1 : (i : Int) < (s.size : Int) := by omega
    have c2 : (0 : Int) ≤ (p : Int) := by omega
    have c3 : (p : Int) < (((nextN s).map (fun j : Nat => (j : Int))).length : Int) := by rw [List.length_map]; omega
    have c4 : (0 : Int) ≤ (q : Int) := by omega
    have c5 : (q : Int) ≤ ((q + 1 : Nat) : Int) := by omega
    have c6 : ((q + 1 : Nat) : Int) ≤ ((turnL s).size : Int) := by omega
    have c7 : back.size + ((turnL s).extract (q : Int).toNat ((q + 1 : Nat) : Int).toNat).size ≤ 9223372036854775807 := by rw [hpz]; omega
    refine Evt.step (fun k => ?_) (inv_l2 s hs hw m (i + 1) q (back ++ (turnL s).extract (q : Int).toNat ((q + 1 : Nat) : Int).toNat) (by omega) (.inr ⟨hq1, hgq.trans hrot2.symm⟩) (by rw [bl_append, hbl, hpiece, List.take_succ_eq_append_getElem hil]))
    rw [numnahlaw09_ParseInverse.l2, if_pos c1, if_pos c2, if_pos c3, er.out, if_pos c4, w1.out, if_pos c5, if_pos c6, if_pos c7, w2.out]
theorem idxS_spec (s : ByteArray) : ∀ (l : List ByteArray) (m : Nat), s ∈ l → ∃ p, ∃ h : p < l.length, idxS s l m = ((m + p : Nat) : Int) ∧ l[p] = s
  | x :: l, m, h => by
    rw [idxS]
    by_cases e : s = x
    · exact ⟨0, by simp, by rw [if_pos e]; rfl, by simp [e]⟩
    · rcases List.mem_cons.1 h with h | h
      · exact absurd h e
      · obtain ⟨p, hp, h1, h2⟩ := idxS_spec s l (m + 1) h
        exact ⟨p + 1, by simpa using hp, by rw [if_neg e, h1]; congr 1; omega, by simpa using h2⟩
theorem rot_zero (s : ByteArray) : rotS s 0 = s := by
  apply bl_inj
  rw [bl_rot s 0 (by omega)]; simp
theorem turnP_spec (s : ByteArray) : (s.size = 0 ∧ turnP s = 0) ∨ ∃ p : Nat, p < s.size ∧ turnP s = p ∧ g9 s p = bl (rotS s 0) := by
  by_cases hn : s.size = 0
  · refine .inl ⟨hn, ?_⟩
    have : sortS (rots s) = [] := List.length_eq_zero_iff.1 (by rw [sortS_len]; rw [show (rots s).length = s.size from rotsUp_len s s.size, hn])
    unfold turnP
    rw [this]; rfl
  · right
    have hm : s ∈ sortS (rots s) := (sortS_perm _).mem_iff.2 (mem_rotsUp.2 ⟨0, by omega, (rot_zero s).symm⟩)
    obtain ⟨p, hp, h1, h2⟩ := idxS_spec s _ 0 hm
    have hl : (sortS (rots s)).length = s.size := by rw [sortS_len]; exact rotsUp_len s s.size
    refine ⟨p, by omega, ?_, ?_⟩
    · unfold turnP
      rw [h1]
      unfold mx
      split <;> omega
    · have e : g9 s p = bl (sortS (rots s))[p] := by simp [g9, SB, hp]
      rw [e, h2, rot_zero]
theorem ParseInverse : numnahlaw09_ParseInverse.Pure := by
  intro a0 h0
  apply Evt.ex
  obtain ⟨s, hs, hw, ht⟩ := tame_ev a0 h0 160 (by omega)
  show Evt (fun k => numnahlaw09_ParseInverse.f k a0) true
  unfold numnahlaw09_ParseInverse.f
  refine Evt.bind ht (Evt.bind (turns_ev s hw) ?_)
  dsimp only
  have hz := turnL_size s
  have hP := turnP_spec s
  have hk : 0 ≤ turnP s ∧ turnP s ≤ mx ((s.size : Int) - 1) 0 := by
    unfold mx
    rcases hP with ⟨h1, h2⟩ | ⟨p, h1, h2, _⟩ <;> rw [h2] <;> split <;> omega
  have w : wrap64 ((s.size : Int) - 1) = (s.size : Int) - 1 := wr (by omega) (by omega)
  rw [w]
  refine Evt.pos rfl (Evt.pos (by omega) (Evt.neg (by omega) ?_))
  rw [decide_eq_false (by omega)]
  have hnl := nextN_len s hw
  have fin : Evt (fun k => numnahlaw09_ParseInverse.l2 k s (turnL s) ((nextN s).map (fun j : Nat => (j : Int))) (⟨#[]⟩ : ByteArray) (turnP s) 0) true := by
    rcases hP with ⟨h1, h2⟩ | ⟨p, h1, h2, h3⟩
    · rw [h2]
      exact inv_l2 s hs hw s.size 0 0 ⟨#[]⟩ (by omega) (.inl h1) rfl
    · rw [h2]
      exact inv_l2 s hs hw s.size 0 p ⟨#[]⟩ (by omega) (.inr ⟨h1, h3⟩) rfl
  refine Evt.step (g' := fun k => numnahlaw09_ParseInverse.l0 k s (turnL s) (turnP s) ([] : List Int) 97) (fun k => by rw [numnahlaw09_ParseInverse.j0, if_neg (by decide)]) ?_
  have go : ∀ (c : Nat), c ≤ 100 → ∀ (x7 : List Int), x7.length ≤ 1000 → Evt (fun k => numnahlaw09_ParseInverse.l0 k s (turnL s) (turnP s) (x7 ++ (posN s c 0 s.size).map (fun j : Nat => (j : Int))) (((c : Int) + 1) % 256)) true → Evt (fun k => numnahlaw09_ParseInverse.l0 k s (turnL s) (turnP s) x7 (c : Int)) true := by
    intro c hc x7 hx h
    refine Evt.step (g' := fun k => numnahlaw09_ParseInverse.l1 k s (turnL s) (turnP s) x7 (c : Int) ((0 : Nat) : Int)) (fun k => by rw [numnahlaw09_ParseInverse.l0, if_pos (by omega)]; rfl) (inv_l1 s hs _ c true s.size 0 x7 (by omega) (by omega) h)
  have pl : ∀ c, (posN s c 0 s.size).length ≤ s.size := fun c => by
    unfold posN
    exact Nat.le_trans (List.length_filter_le _ _) (by simp)
  have l1 := pl 97
  have l2 := pl 98
  have l3 := pl 99
  refine go 97 (by omega) [] (by simp) (go 98 (by omega) _ (by simp; omega) (go 99 (by omega) _ (by simp; omega) (go 100 (by omega) _ (by simp; omega) ?_)))
  refine Evt.step (g' := fun k => numnahlaw09_ParseInverse.l2 k s (turnL s) ((nextN s).map (fun j : Nat => (j : Int))) (⟨#[]⟩ : ByteArray) (turnP s) 0) (fun k => ?_) fin
  have e : ((([] ++ (posN s 97 0 s.size).map (fun j : Nat => (j : Int))) ++ (posN s 98 0 s.size).map (fun j : Nat => (j : Int))) ++ (posN s 99 0 s.size).map (fun j : Nat => (j : Int))) ++ (posN s 100 0 s.size).map (fun j : Nat => (j : Int)) = (nextN s).map (fun j : Nat => (j : Int)) := by
    unfold nextN
    simp
  rw [numnahlaw09_ParseInverse.l0, if_neg (by decide), e, if_pos (by rw [List.length_map, hnl])]
end Go.Proofs.YtpeeflkodpnbpaaDoor.Pure
