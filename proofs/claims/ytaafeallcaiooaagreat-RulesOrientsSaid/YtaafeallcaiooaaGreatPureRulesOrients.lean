/- RulesOrients: Orient and Proves answer as the reference says. -/
import Derived.Test.YtaafeallcaiooaaGreatHRh0
import Derived.Test.YtaafeallcaiooaaGreatHRu
import Derived.Test.YtaafeallcaiooaaGreatHEx
import Derived.Test.YtaafeallcaiooaaGreatPrF1
import Derived.Test.YtaafeallcaiooaaGreatHSr
import Derived.Test.YtaafeallcaiooaaGreatDefRulesOrients
/- the reference's Precedence says whether newPrecedence takes a string. -/
namespace Go.Proofs.YtaafeallcaiooaaGreat.Pr
open Go.RowKit Go.Maps Go.Proofs.YtaafeallcaiooaaGreatW.PrintWords Go.Proofs.YtaafeallcaiooaaGreatW.PrintLast Go.Proofs.YtaafeallcaiooaaGreatW.PrintMore
set_option linter.unusedVariables false
set_option linter.unusedSimpArgs false
def allC (L : List UInt8) : Nat → Int → Bool
  | 0, _ => true
  | n + 1, c => hasB c L && allC L n (c + 1)
theorem precG (p : ByteArray) (hs : p.size ≤ 1000000) : ∀ (n : Nat) (c : Int), 97 ≤ c → c + n = 103 → Evt (fun k => numnahref08_Precedence.l0 k p c) (allC p.data.toList n c && ((p.size : Int) == 6))
  | 0, c, h1, h2 => Evt.now fun k => by rw [numnahref08_Precedence.l0, if_neg (by omega)]; rfl
  | n + 1, c, h1, h2 => by
    refine Evt.step (g' := fun k => (numnahref08_occurs.f k c p).bind fun t411 => (if t411 = true then (numnahref08_Precedence.l0 k p (c + 1)) else (some false))) (fun k => ?_) ?_
    · rw [numnahref08_Precedence.l0, if_pos (by omega), show (c + 1) % 256 = c + 1 by omega]
    refine Evt.bind (occursE c p (by omega)) ?_
    rw [allC, Bool.and_assoc]
    cases hasB c p.data.toList with
    | true => exact Evt.pos rfl (precG p hs n (c + 1) (by omega) (by omega))
    | false => exact Evt.neg (by simp) (Evt.all fun _ => rfl)
theorem nodup_of : ∀ L : List UInt8, (∀ x, x ∈ L → x ∉ L.erase x) → L.Nodup
  | [], _ => List.nodup_nil
  | a :: l, h => by
    refine List.nodup_cons.2 ⟨?_, nodup_of l fun x hx hx2 => ?_⟩
    · have := h a (by simp)
      rwa [List.erase_cons_head] at this
    · have := h x (by simp [hx])
      by_cases e : a = x
      · rw [e, List.erase_cons_head] at this
        exact this hx
      · rw [List.erase_cons_tail (by simpa using e)] at this
        exact this (List.mem_cons_of_mem _ hx2)
theorem c6_nodup : c6.Nodup := by decide
theorem perm_of {L : List UInt8} (h6 : L.length = 6) (hall : ∀ c, c ∈ c6 → c ∈ L) : L.Nodup ∧ ∀ x, x ∈ L → x ∈ c6 := by
  have key : ∀ x, x ∈ L → ¬ (∀ c, c ∈ c6 → c ∈ L.erase x) := fun x hx h => by
    have h1 := nodup_len c6 (L.erase x) c6_nodup h
    rw [List.length_erase_of_mem hx] at h1
    have : c6.length = 6 := rfl
    omega
  constructor
  · refine nodup_of L fun x hx hx2 => key x hx fun c hc => ?_
    by_cases e : c = x
    · rw [e]; exact hx2
    · exact (List.mem_erase_of_ne e).2 (hall c hc)
  · intro x hx
    refine Decidable.byContradiction fun hn => key x hx fun c hc => ?_
    exact (List.mem_erase_of_ne (fun e => hn (by rw [← e]; exact hc))).2 (hall c hc)
theorem allC_iff {L : List UInt8} : allC L 6 97 = true ↔ ∀ c, c ∈ c6 → c ∈ L := by
  have hb : ∀ b : UInt8, hasB (b.toNat : Int) L = true ↔ b ∈ L := fun b => by
    rw [hasB_iff]
    constructor
    · rintro ⟨x, hx, e⟩
      have : x = b := UInt8.toNat_inj.1 (by omega)
      exact this ▸ hx
    · intro h
      exact ⟨b, h, rfl⟩
  simp only [allC, Bool.and_eq_true, and_true]
  show (hasB ((97 : UInt8).toNat : Int) L = true ∧ hasB ((98 : UInt8).toNat : Int) L = true ∧ hasB ((99 : UInt8).toNat : Int) L = true ∧ hasB ((100 : UInt8).toNat : Int) L = true ∧ hasB ((101 : UInt8).toNat : Int) L = true ∧ hasB ((102 : UInt8).toNat : Int) L = true) ↔ _
  simp only [hb]
  constructor
  · rintro ⟨h0, h1, h2, h3, h4, h5⟩ c hc
    simp only [c6, List.mem_cons, List.not_mem_nil, or_false] at hc
    rcases hc with rfl | rfl | rfl | rfl | rfl | rfl <;> assumption
  · intro h
    exact ⟨h _ (by decide), h _ (by decide), h _ (by decide), h _ (by decide), h _ (by decide), h _ (by decide)⟩
theorem rkL_mem (p : ByteArray) (c : Int) : ∀ k, k ≤ p.size → (getL (rkL p k) c).isSome = true → hasB c p.data.toList = true
  | 0, _, h => by cases h
  | k + 1, hk, h => by
    rw [rkL, getL_put] at h
    split at h
    · rename_i e
      obtain ⟨b, h1, h2⟩ := at_get p k (by omega)
      rw [hasB_iff]
      refine ⟨b, ?_, ?_⟩
      · have : b ∈ p.data.toList.drop k := by rw [h1]; simp
        exact List.mem_of_mem_drop this
      · rw [← h2]
        have h3 : bAt p k = bt p (k : Int) := by
          unfold bAt
          rw [dif_pos (by omega)]
          simp [bt, show k < p.size by omega]
        rw [← h3]
        first | exact e.symm | exact e
    · exact rkL_mem p c k (by omega) h
theorem precOk_eq (p : ByteArray) : precOk p = (allC p.data.toList 6 97 && ((p.size : Int) == 6)) := by
  rw [Bool.eq_iff_iff]
  constructor
  · intro h
    unfold precOk at h
    rw [Bool.and_eq_true, Bool.and_eq_true, decide_eq_true_eq, List.all_eq_true] at h
    obtain ⟨h1, _, h3⟩ := h
    have g := fun c hc => rkL_mem p c p.size (Nat.le_refl _) (h3 c hc)
    have h6 : ((p.size : Int) == 6) = true := by rw [h1]; rfl
    rw [h6, Bool.and_true]
    simp only [allC, Bool.and_eq_true, and_true]
    exact ⟨g 97 (by simp), g 98 (by simp), g 99 (by simp), g 100 (by simp), g 101 (by simp), g 102 (by simp)⟩
  · intro h
    rw [Bool.and_eq_true] at h
    have h6 : p.data.toList.length = 6 := by
      have h2 : (p.size : Int) = 6 := by simpa using h.2
      have : p.data.toList.length = p.size := by simp
      omega
    obtain ⟨h1, h2⟩ := perm_of h6 (allC_iff.1 h.1)
    have := prec_perm h6 h1 h2
    rwa [B8_of] at this
theorem precRE (p : ByteArray) (hs : p.size ≤ 1000000) : Evt (fun k => numnahref08_Precedence.f k p) (precOk p) := by
  rw [precOk_eq]
  exact precG p hs 6 97 (by omega) (by omega)
theorem ok_is {p : ByteArray} (h : precOk p = true) : IsPrec p := by
  rw [precOk_eq, Bool.and_eq_true] at h
  have h6 : p.data.toList.length = 6 := by
    have h2 : (p.size : Int) = 6 := by simpa using h.2
    have : p.data.toList.length = p.size := by simp
    omega
  obtain ⟨h1, h2⟩ := perm_of h6 (allC_iff.1 h.1)
  exact ⟨p.data.toList, (B8_of p).symm, h6, h1, h2⟩
theorem is_B {p : ByteArray} (h : IsPrec p) : precB p = true := by
  obtain ⟨L, rfl, h6, hn, hc⟩ := h
  unfold precB
  rw [B8_list, decide_eq_true h6, decide_eq_true hn, Bool.true_and, Bool.true_and, List.all_eq_true]
  intro x hx
  exact decide_eq_true (hc x hx)
end Go.Proofs.YtaafeallcaiooaaGreat.Pr
/- the reference's Orient is orient: all orders of the symbols, one after the other. -/
namespace Go.Proofs.YtaafeallcaiooaaGreat.Pr
open Go.RowKit Go.Proofs.YtaafeallcaiooaaGreatW.PrintWords Go.Proofs.YtaafeallcaiooaaGreatW.PrintLast Go.Proofs.YtaafeallcaiooaaGreatW.PrintMore
set_option linter.unusedVariables false
set_option linter.unusedSimpArgs false
theorem ext_pre' {s : ByteArray} {pre r : List UInt8} (h : s.data.toList = pre ++ r) : s.extract 0 pre.length = B8 pre := by
 rw [← B8_of (s.extract 0 pre.length)]
 congr 1
 have h1 : (s.extract 0 pre.length).data.toList = (s.data.toList.drop 0).take pre.length := by
  rw [ByteArray.data_extract, Array.toList_extract]
  first | rfl | (rw [List.extract_eq_take_drop]; simp) | (rw [List.extract_eq_drop_take]; simp) | simp
 rw [h1, h, List.drop_zero, List.take_left]
theorem ext_post' {s : ByteArray} {pre r : List UInt8} (h : s.data.toList = pre ++ r) : s.extract pre.length s.size = B8 r := by
 rw [← B8_of (s.extract pre.length s.size)]
 congr 1
 have h1 : (s.extract pre.length s.size).data.toList = (s.data.toList.drop pre.length).take (s.size - pre.length) := by
  rw [ByteArray.data_extract, Array.toList_extract]
 have h2 : s.data.toList.length = s.size := by simp
 rw [h1, h, List.drop_left, List.take_of_length_le]
 have := congrArg List.length h
 rw [List.length_append] at this
 omega
theorem laws_at : ∀ {rs : List S94} {ls : List (Tm × Tm)}, lawsT rs = some ls → ∀ k (h : k < rs.length) (h' : k < ls.length), readT rs[k].f0 = some ls[k].1 ∧ readT rs[k].f1 = some ls[k].2
 | [], ls, e, k, h, _ => by simp at h
 | x :: rs, ls, e, k, h, h' => by
  rw [lawsT] at e
  cases hx : lawT x with
  | none => rw [hx] at e; cases e
  | some l =>
   cases hr : lawsT rs with
   | none => rw [hx, hr] at e; cases e
   | some r =>
    rw [hx, hr] at e
    simp only [Option.bind_some, Option.map_some] at e
    injection e with e
    subst e
    cases k with
    | zero =>
     unfold lawT readL at hx
     cases hA : readT x.f0 with
     | none => rw [hA] at hx; cases hx
     | some A =>
      cases hB : readT x.f1 with
      | none => rw [hA, hB] at hx; cases hx
      | some B =>
       rw [hA, hB] at hx
       simp only [Option.bind_some, Option.map_some] at hx
       split at hx
       ·injection hx with hx
        subst hx
        exact ⟨hA, hB⟩
       ·cases hx
    | succ k => exact laws_at hr k (by simpa using h) (by simpa using h')
theorem slice1_eq (s : ByteArray) (i : Nat) (h : i < s.size) : s.extract i (i + 1) = ⟨#[s[i]]⟩ := by
 rw [← B8_of (s.extract i (i + 1))]
 show B8 _ = B8 [s[i]]
 congr 1
 have hl : i < s.data.toList.length := by simpa using h
 have h1 : (s.extract i (i + 1)).data.toList = (s.data.toList.drop i).take (i + 1 - i) := by
  rw [ByteArray.data_extract, Array.toList_extract]
 rw [h1, show i + 1 - i = 1 by omega, List.drop_eq_getElem_cons hl, list_get s i h]
 rfl
/-- all orders, as the reference lists them -/
def permsR : Nat → List UInt8 → List (List UInt8)
 | 0, _ => [[]]
 | n + 1, L => (List.range L.length).flatMap fun i => (permsR n (L.take i ++ L.drop (i + 1))).map (fun q => L.getD i 0 :: q)
theorem rest_len {L : List UInt8} {i n : Nat} (hi : i < L.length) (hl : L.length = n + 1) : (L.take i ++ L.drop (i + 1)).length = n := by
 rw [List.length_append, List.length_take, List.length_drop]; omega
theorem permsR_mem : ∀ (n : Nat) (L q : List UInt8), q ∈ permsR n L → q.length = n
 | 0, L, q, h => by rw [permsR, List.mem_singleton] at h; rw [h]; rfl
 | n + 1, L, q, h => by
  rw [permsR, List.mem_flatMap] at h
  obtain ⟨i, _, h⟩ := h
  obtain ⟨q', h1, rfl⟩ := List.mem_map.1 h
  rw [List.length_cons, permsR_mem n _ q' h1]
theorem flat_len {α : Type} (f : Nat → List α) (B : Nat) : ∀ (l : List Nat), (∀ i, i ∈ l → (f i).length ≤ B) → (l.flatMap f).length ≤ l.length * B
 | [], _ => by simp
 | a :: l, h => by
  rw [List.flatMap_cons, List.length_append, List.length_cons, Nat.succ_mul]
  have h1 := h a (by simp)
  have h2 := flat_len f B l (fun i hi => h i (by simp [hi]))
  omega
theorem permsR_len : ∀ (n : Nat) (L : List UInt8), L.length = n → n ≤ 6 → (permsR n L).length ≤ 6 ^ n
 | 0, L, _, _ => by rw [permsR]; decide
 | n + 1, L, hl, hn => by
  rw [permsR]
  have h := flat_len (fun i => (permsR n (L.take i ++ L.drop (i + 1))).map (fun q => L.getD i 0 :: q)) (6 ^ n) (List.range L.length) (fun i hi => by
   rw [List.length_map]
   exact permsR_len n _ (rest_len (List.mem_range.1 hi) hl) (by omega))
  rw [Nat.pow_succ]
  have : (n + 1) * 6 ^ n ≤ 6 ^ n * 6 := by rw [Nat.mul_comm]; exact Nat.mul_le_mul_left _ hn
  refine Nat.le_trans h ?_
  rw [List.length_range, hl]
  exact this
theorem pow_le {n : Nat} (h : n ≤ 6) : 6 ^ n ≤ 46656 := Nat.le_trans (Nat.pow_le_pow_right (by decide) h) (by decide)
def headR (L : List UInt8) (i : Nat) (q : List UInt8) : ByteArray := B8 (L.getD i 0 :: q)
theorem ext_mid (L : List UInt8) (i : Nat) (hi : i < L.length) : (B8 L).extract i (i + 1) = B8 [L.getD i 0] := by
 have h1 := slice1_eq (B8 L) i (by rw [B8_size]; exact hi)
 rw [h1]
 have : L.getD i 0 = L[i] := by rw [List.getD_eq_getElem?_getD, List.getElem?_eq_getElem hi]; rfl
 rw [this]
 rfl
theorem prec_l1 (L : List UInt8) (hl6 : L.length ≤ 6) (i : Nat) (hi : i < L.length) (qs : List (List UInt8)) (hq : ∀ q, q ∈ qs → q.length ≤ 6) (hql : qs.length ≤ 1000000) (b : List ByteArray) : ∀ (n j : Nat) (acc : List ByteArray), j + n = qs.length → acc.length + n ≤ 1000000 →
  Evt (fun k => numnahref08_precedences.l0 k (B8 L) (acc ++ (qs.drop j).map (headR L i)) ((i + 1 : Nat) : Int)) b → Evt (fun k => numnahref08_precedences.l1 k (B8 L) acc (i : Int) (qs.map B8) (j : Int)) b
 | 0, j, acc, hj, ha, h => by
  have hw : wrap64 ((i : Int) + 1) = ((i + 1 : Nat) : Int) := (wr (by omega) (by omega)).trans (by omega)
  rw [List.drop_of_length_le (by omega), List.map_nil, List.append_nil] at h
  refine Evt.step (fun k => ?_) h
  rw [numnahref08_precedences.l1, if_neg (by rw [List.length_map]; omega), hw]
 | n + 1, j, acc, hj, ha, h => by
  have hjl : j < qs.length := by omega
  have hw : wrap64 ((i : Int) + 1) = ((i + 1 : Nat) : Int) := (wr (by omega) (by omega)).trans (by omega)
  have hwj : wrap64 ((j : Int) + 1) = ((j + 1 : Nat) : Int) := (wr (by omega) (by omega)).trans (by omega)
  have hqs := hq qs[j] (List.getElem_mem hjl)
  have hrd : rdOf ByteArray.empty (qs.map B8) (j : Int) = B8 qs[j] := by rw [rdOf_at _ j (by rw [List.length_map]; exact hjl), List.getElem_map]
  have hsz : (B8 L).size = L.length := B8_size L
  rw [List.drop_eq_getElem_cons hjl, List.map_cons] at h
  refine Evt.step (fun k => ?_) (prec_l1 L hl6 i hi qs hq hql b n (j + 1) (acc ++ [headR L i qs[j]]) (by omega) (by rw [List.length_append, List.length_singleton]; omega) (by rw [List.append_assoc]; exact h))
  have c1 : (j : Int) < ((qs.map B8).length : Int) := by rw [List.length_map]; omega
  have c2 : (i : Int) ≤ ((i + 1 : Nat) : Int) := by omega
  have c3 : ((i + 1 : Nat) : Int) ≤ ((B8 L).size : Int) := by rw [hsz]; omega
  have c4 : ((B8 [L.getD i 0]).size + (B8 qs[j]).size) ≤ 9223372036854775807 := by rw [B8_size, B8_size, List.length_singleton]; clear hw hwj; omega
  have c5 : acc.length < 8796093022208 := by clear hw hwj; omega
  rw [numnahref08_precedences.l1, if_pos c1, if_pos (Int.natCast_nonneg i), hw, if_pos c2, if_pos c3, if_pos (Int.natCast_nonneg j), Int.toNat_natCast, Int.toNat_natCast, ext_mid L i hi, hrd, if_pos c4, if_pos c5, hwj, B8_app']
  rfl
theorem ext_rest (L : List UInt8) (i : Nat) (hi : i < L.length) : (B8 L).extract 0 i ++ (B8 L).extract (i + 1) (B8 L).size = B8 (L.take i ++ L.drop (i + 1)) := by
 have h1 : (B8 L).extract 0 i = B8 (L.take i) := by
  have := ext_pre' (s := B8 L) (pre := L.take i) (r := L.drop i) (by rw [B8_list, List.take_append_drop])
  rwa [List.length_take, Nat.min_eq_left (by omega)] at this
 have h2 : (B8 L).extract (i + 1) (B8 L).size = B8 (L.drop (i + 1)) := by
  have := ext_post' (s := B8 L) (pre := L.take (i + 1)) (r := L.drop (i + 1)) (by rw [B8_list, List.take_append_drop])
  rwa [List.length_take, Nat.min_eq_left (by omega)] at this
 rw [h1, h2, B8_app']
def rowR (n : Nat) (L : List UInt8) (i : Nat) : List ByteArray := (permsR n (L.take i ++ L.drop (i + 1))).map (headR L i)
theorem prec_l0 (m : Nat) (L : List UInt8) (hL : L.length = m + 1) (hl6 : L.length ≤ 6) (ih : ∀ M : List UInt8, M.length = m → Evt (fun k => numnahref08_precedences.f k (B8 M)) ((permsR m M).map B8)) : ∀ (n i : Nat) (acc : List ByteArray), i + n = L.length → acc.length ≤ i * 46656 →
  Evt (fun k => numnahref08_precedences.l0 k (B8 L) acc (i : Int)) (acc ++ ((List.range' i n).flatMap (rowR m L)))
 | 0, i, acc, hi, ha => by
  have hsz : (B8 L).size = L.length := B8_size L
  refine Evt.now fun k => ?_
  rw [numnahref08_precedences.l0, if_neg (by rw [hsz]; omega)]
  simp
 | n + 1, i, acc, hi, ha => by
  have hsz : (B8 L).size = L.length := B8_size L
  have hil : i < L.length := by omega
  have hw : wrap64 ((i : Int) + 1) = ((i + 1 : Nat) : Int) := (wr (by omega) (by omega)).trans (by omega)
  have hrl := rest_len hil hL
  have hpl := permsR_len m (L.take i ++ L.drop (i + 1)) hrl (by omega)
  have hp6 := pow_le (n := m) (by omega)
  have hi6 : i * 46656 ≤ 6 * 46656 := Nat.mul_le_mul_right _ (by omega)
  have h2 := prec_l0 m L hL hl6 ih n (i + 1) (acc ++ rowR m L i) (by omega) (by
   unfold rowR
   rw [List.length_append, List.length_map, Nat.succ_mul]
   omega)
  rw [List.append_assoc] at h2
  have h3 := prec_l1 L hl6 i hil (permsR m (L.take i ++ L.drop (i + 1))) (fun q hq => by have := permsR_mem m _ q hq; omega) (by omega) _ (permsR m (L.take i ++ L.drop (i + 1))).length 0 acc (by omega) (by omega) (by rw [List.drop_zero]; exact prec_l0 m L hL hl6 ih n (i + 1) (acc ++ rowR m L i) (by omega) (by
   unfold rowR
   rw [List.length_append, List.length_map, Nat.succ_mul]
   omega))
  rw [List.append_assoc] at h3
  refine Evt.step (g' := fun k => (numnahref08_precedences.f k (B8 (L.take i ++ L.drop (i + 1)))).bind fun t398 => (numnahref08_precedences.l1 k (B8 L) acc (i : Int) t398 0)) (fun k => ?_) ?_
  ·rw [numnahref08_precedences.l0, if_pos (by rw [hsz]; omega), if_pos (by omega), if_pos (by rw [hsz]; omega), hw, if_pos (by omega), if_pos (by rw [hsz]; omega), Int.toNat_natCast, Int.toNat_natCast, if_pos (by rw [ByteArray.size_extract, ByteArray.size_extract, hsz]; omega), ext_rest L i hil]
  ·refine Evt.bind (ih _ hrl) (h3.val ?_)
   rw [List.range'_succ, List.flatMap_cons]
theorem precsE : ∀ (n : Nat) (L : List UInt8), L.length = n → n ≤ 6 → Evt (fun k => numnahref08_precedences.f k (B8 L)) ((permsR n L).map B8)
 | 0, L, hl, _ => by
  obtain rfl := List.length_eq_zero_iff.1 hl
  refine Evt.now fun k => ?_
  rw [numnahref08_precedences.f, if_pos (by rw [ByteArray.toList_eq]; rfl)]
  rfl
 | n + 1, L, hl, hn => by
  have h := prec_l0 n L hl (by omega) (fun M hM => precsE n M hM (by omega)) L.length 0 [] (by omega) (by simp)
  refine Evt.step (fun k => ?_) (h.val ?_)
  ·rw [numnahref08_precedences.f, if_neg]
   ·rfl
   ·rw [ByteArray.toList_eq, B8_list]
    intro e
    rw [e] at hl
    cases hl
  ·rw [List.nil_append, permsR, List.map_flatMap, List.range_eq_range']
   congr 1
   funext i
   unfold rowR
   rw [List.map_map]
   rfl
/-! ### Proves, Orient -/
theorem provesL (rs : List S94) (ls : List (Tm × Tm)) (hls : lawsT rs = some ls) (hn : rs.length ≤ 1000) (p : ByteArray) (hP : IsPrec p) : ∀ (n i : Nat), i + n = rs.length → Evt (fun k => numnahref08_Proves.l0 k rs p (i : Int)) (!((ls.drop i).any fun l => !gt (rankP p) l.1 l.2))
 | 0, i, hi => by
  have hl := (lawsT_good hls).2
  rw [List.drop_of_length_le (by omega)]
  refine Evt.now fun k => ?_
  rw [numnahref08_Proves.l0, if_neg (by omega)]
  rfl
 | n + 1, i, hi => by
  have hl := (lawsT_good hls).2
  have hg := (lawsT_good hls).1
  have hlt : i < rs.length := by omega
  have hlt' : i < ls.length := by omega
  have hw : wrap64 ((i : Int) + 1) = ((i + 1 : Nat) : Int) := (wr (by omega) (by omega)).trans (by omega)
  have hat := laws_at hls i hlt hlt'
  have hgd := hg _ (List.getElem_mem hlt')
  have hG : numnahref08_Greater.f p rs[i].f0 rs[i].f1 = some (gt (rankP p) ls[i].1 ls[i].2) := by
   unfold numnahref08_Greater.f
   rw [if_pos (is_B hP), hat.1, hat.2]
   rfl
  have ih := provesL rs ls hls hn p hP n (i + 1) (by omega)
  rw [List.drop_eq_getElem_cons hlt', List.any_cons]
  cases hv : gt (rankP p) ls[i].1 ls[i].2 with
  | true =>
   rw [hv] at hG
   refine Evt.step (fun k => ?_) ih
   rw [numnahref08_Proves.l0, if_pos (by omega), if_pos (by omega), rd94_at rs i hlt, hG, Option.bind_some, if_pos rfl, hw]
  | false =>
   rw [hv] at hG
   refine Evt.now fun k => ?_
   rw [numnahref08_Proves.l0, if_pos (by omega), if_pos (by omega), rd94_at rs i hlt, hG, Option.bind_some, if_neg (by simp)]
   rfl
theorem provesRE (rs : List S94) (ls : List (Tm × Tm)) (hls : lawsT rs = some ls) (hn : rs.length ≤ 1000) (p : ByteArray) (hP : IsPrec p) : Evt (fun k => numnahref08_Proves.f k rs p) (provT (rankP p) ls) := provesL rs ls hls hn p hP rs.length 0 (by omega)
def orR : Option (List UInt8) → ByteArray × Bool
 | none => (⟨#[]⟩, false)
 | some q => (B8 q, true)
theorem orientL (rs : List S94) (ls : List (Tm × Tm)) (hls : lawsT rs = some ls) (hn : rs.length ≤ 1000) (qs : List (List UInt8)) (hq : ∀ q, q ∈ qs → IsPrec (B8 q)) (hl : qs.length ≤ 1000000) : ∀ (n i : Nat), i + n = qs.length → Evt (fun k => numnahref08_Orient.l0 k rs (qs.map B8) (i : Int)) (orR ((qs.drop i).find? fun q => provT (rankP (B8 q)) ls))
 | 0, i, hi => by
  rw [List.drop_of_length_le (by omega)]
  refine Evt.now fun k => ?_
  rw [numnahref08_Orient.l0, if_neg (by rw [List.length_map]; omega)]
  rfl
 | n + 1, i, hi => by
  have hil : i < qs.length := by omega
  have hw : wrap64 ((i : Int) + 1) = ((i + 1 : Nat) : Int) := (wr (by omega) (by omega)).trans (by omega)
  have hrd : rdOf ByteArray.empty (qs.map B8) (i : Int) = B8 qs[i] := by rw [rdOf_at _ i (by rw [List.length_map]; exact hil), List.getElem_map]
  have hv := provesRE rs ls hls hn (B8 qs[i]) (hq _ (List.getElem_mem hil))
  have ih := orientL rs ls hls hn qs hq hl n (i + 1) (by omega)
  rw [List.drop_eq_getElem_cons hil, List.find?_cons]
  refine Evt.step (g' := fun k => (numnahref08_Proves.f k rs (B8 qs[i])).bind fun t409 => (if t409 = true then (some (B8 qs[i], true)) else (numnahref08_Orient.l0 k rs (qs.map B8) ((i + 1 : Nat) : Int)))) (fun k => ?_) ?_
  ·rw [numnahref08_Orient.l0, if_pos (by rw [List.length_map]; omega), if_pos (by omega), hrd, hw]
  ·refine Evt.bind hv ?_
   cases provT (rankP (B8 qs[i])) ls with
   | true => exact Evt.pos rfl (Evt.all fun _ => rfl)
   | false => exact Evt.neg (by simp) ih
/-! ### the same orders, in the same order -/
theorem findSome_filter {α : Type} (f : UInt8 → Option α) (p : UInt8 → Bool) : ∀ l : List UInt8, (l.findSome? fun c => if p c then none else f c) = (l.filter fun c => !p c).findSome? f
 | [] => rfl
 | c :: l => by
  rw [List.findSome?_cons, List.filter_cons]
  cases hp : p c with
  | true => simp only [Bool.not_true]; exact findSome_filter f p l
  | false =>
   simp only [Bool.not_false, if_true, List.findSome?_cons]
   rw [findSome_filter f p l]
   rfl
theorem findSome_range {α : Type} (f : UInt8 → Option α) (M : List UInt8) : M.findSome? f = (List.range M.length).findSome? fun i => f (M.getD i 0) := by
 have h : M = (List.range M.length).map (fun i => M.getD i 0) := by
  apply List.ext_getElem
  ·simp
  ·intro i h1 h2
   simp [List.getD_eq_getElem?_getD, List.getElem?_eq_getElem h1]
 conv => lhs; rw [h]
 rw [List.findSome?_map]
 rfl
theorem findSome_eq {α : Type} (f g : Nat → Option α) : ∀ l : List Nat, (∀ i, i ∈ l → f i = g i) → l.findSome? f = l.findSome? g
 | [], _ => rfl
 | a :: l, h => by rw [List.findSome?_cons, List.findSome?_cons, h a (by simp), findSome_eq f g l (fun i hi => h i (by simp [hi]))]
theorem filter_erase {P : List UInt8} {M : List UInt8} (hM : M = c6.filter fun c => !P.any (fun x => x == c)) (i : Nat) (hi : i < M.length) : M.take i ++ M.drop (i + 1) = c6.filter fun c => !(P ++ [M.getD i 0]).any (fun x => x == c) := by
 have hnd : M.Nodup := by rw [hM]; exact List.Pairwise.filter _ c6_nodup
 have hgd : M.getD i 0 = M[i] := by rw [List.getD_eq_getElem?_getD, List.getElem?_eq_getElem hi]; rfl
 rw [hgd]
 have h2 : M = M.take i ++ M[i] :: M.drop (i + 1) := by rw [← List.drop_eq_getElem_cons hi, List.take_append_drop]
 have h3 : (M.take i ++ M[i] :: M.drop (i + 1)).Nodup := h2 ▸ hnd
 obtain ⟨c, hc⟩ : ∃ c, c = M[i] := ⟨_, rfl⟩
 rw [← hc] at h2 h3 ⊢
 have h1 : (c6.filter fun x => !(P ++ [c]).any (fun y => y == x)) = M.filter fun x => !(c == x) := by
  rw [hM, List.filter_filter]
  congr 1
  funext x
  rw [List.any_append, Bool.not_or, List.any_cons, List.any_nil, Bool.or_false, Bool.and_comm]
 rw [h1]
 have h4 := List.nodup_append.1 h3
 have ha : ∀ x, x ∈ M.take i → (!(c == x)) = true := fun x hx => by
  have := h4.2.2 x hx c (by simp)
  rw [Bool.not_eq_true']
  exact beq_eq_false_iff_ne.2 (fun e => this e.symm)
 have hb : ∀ x, x ∈ M.drop (i + 1) → (!(c == x)) = true := fun x hx => by
  have h5 := (List.nodup_cons.1 h4.2.1).1
  rw [Bool.not_eq_true']
  exact beq_eq_false_iff_ne.2 (fun e => h5 (by rw [e]; exact hx))
 have h6 : M.filter (fun x => !(c == x)) = (M.take i ++ c :: M.drop (i + 1)).filter (fun x => !(c == x)) := congrArg (List.filter _) h2
 rw [h6, List.filter_append, List.filter_cons, List.filter_eq_self.2 ha, List.filter_eq_self.2 hb]
 simp
theorem ext_find (ls : List (Tm × Tm)) : ∀ (n : Nat) (P M : List UInt8), (M = c6.filter fun c => !P.any (fun x => x == c)) → M.length = n → extO ls n P = ((permsR n M).find? fun q => provT (rankP (B8 (P ++ q))) ls).map (P ++ ·)
 | 0, P, M, hM, hl => by
  rw [extO, permsR, List.find?_cons, List.append_nil]
  cases provT (rankP (B8 P)) ls with
  | true => simp
  | false => simp
 | n + 1, P, M, hM, hl => by
  rw [extO, findSome_filter (fun c => extO ls n (P ++ [c])) (fun c => P.any (fun x => x == c)) c6, ← hM, findSome_range]
  rw [permsR, List.find?_flatMap, List.map_findSome?]
  refine findSome_eq _ _ _ fun i hi => ?_
  have hil := List.mem_range.1 hi
  rw [ext_find ls n (P ++ [M.getD i 0]) (M.take i ++ M.drop (i + 1)) (filter_erase hM i hil) (rest_len hil hl)]
  simp only [Function.comp_apply]
  rw [List.find?_map]
  simp only [List.append_assoc, List.singleton_append, Function.comp_def, Option.map_map]
theorem ext_perms (ls : List (Tm × Tm)) : extO ls 6 [] = (permsR 6 c6).find? fun q => provT (rankP (B8 q)) ls := by
 rw [ext_find ls 6 [] c6 (by decide) rfl]
 simp
theorem permsR_prec : ∀ (n : Nat) (P M : List UInt8), (M = c6.filter fun c => !P.any (fun x => x == c)) → M.length = n → P.length + n = 6 → P.Nodup → (∀ x, x ∈ P → x ∈ c6) → ∀ q, q ∈ permsR n M → IsPrec (B8 (P ++ q))
 | 0, P, M, hM, hl, h6, hn, hc, q, hq => by
  rw [permsR, List.mem_singleton] at hq
  rw [hq, List.append_nil]
  exact ⟨P, rfl, by omega, hn, hc⟩
 | n + 1, P, M, hM, hl, h6, hn, hc, q, hq => by
  rw [permsR, List.mem_flatMap] at hq
  obtain ⟨i, hi, hq⟩ := hq
  obtain ⟨q', h1, rfl⟩ := List.mem_map.1 hq
  have hil := List.mem_range.1 hi
  have hgd : M.getD i 0 = M[i] := by rw [List.getD_eq_getElem?_getD, List.getElem?_eq_getElem hil]; rfl
  have hm : M.getD i 0 ∈ M := by rw [hgd]; exact List.getElem_mem hil
  rw [hM, List.mem_filter] at hm
  have hnp : M.getD i 0 ∉ P := fun h => by
   have h2 := hm.2
   rw [Bool.not_eq_true', ← Bool.not_eq_true, List.any_eq_true] at h2
   exact h2 ⟨_, h, by rw [hM]; simp⟩
  have := permsR_prec n (P ++ [M.getD i 0]) (M.take i ++ M.drop (i + 1)) (filter_erase hM i hil) (rest_len hil hl) (by simp; omega) (List.nodup_append.2 ⟨hn, by simp, fun a ha b hb e => by rw [List.mem_singleton] at hb; rw [hb] at e; exact hnp (e ▸ ha)⟩) (fun x hx => by
   rcases List.mem_append.1 hx with hx | hx
   ·exact hc x hx
   ·rw [List.mem_singleton] at hx; rw [hx]; exact (hM ▸ hm.1)) q' h1
  rwa [List.append_assoc] at this
theorem orientRE (rs : List S94) (ls : List (Tm × Tm)) (hls : lawsT rs = some ls) (hn : rs.length ≤ 1000) : Evt (fun k => numnahref08_Orient.f k rs) (orR (extO ls 6 [])) := by
 have h1 := precsE 6 c6 rfl (by omega)
 have hl := permsR_len 6 c6 rfl (by omega)
 have h2 := orientL rs ls hls hn (permsR 6 c6) (fun q hq => permsR_prec 6 [] c6 (by decide) rfl rfl List.nodup_nil (by simp) q hq) (by omega) (permsR 6 c6).length 0 (by omega)
 rw [List.drop_zero, ← ext_perms] at h2
 exact Evt.bind h1 h2
end Go.Proofs.YtaafeallcaiooaaGreat.Pr
-- indented by one
namespace Go.Proofs.YtaafeallcaiooaaGreat.Pr
open Go.RowKit Go.Proofs.YtaafeallcaiooaaGreatW.PrintWords Go.Proofs.YtaafeallcaiooaaGreatW.PrintLast Go.Proofs.YtaafeallcaiooaaGreatW.PrintMore
set_option linter.unusedVariables false
set_option linter.unusedSimpArgs false
theorem newLaws_l {rs : List S94} {ls : List (Tm × Tm)} (h : newLawsT rs = some ls) : lawsT rs = some ls := by
  unfold newLawsT at h
  split at h
  · exact h
  · cases h
theorem orients_j0 (rs : List S94) (ls : List (Tm × Tm)) (hN : newLawsT rs = some ls) (hn : rs.length ≤ 1000) (p : ByteArray) (hp : p.size ≤ 1000000) : Evt (fun k => numnahlaw08_RulesOrients.j0 k rs p (provesE rs p) false) true := by
  refine Evt.step (g' := fun k => (numnahref08_Precedence.f k p).bind fun t423 => (if t423 = true then ((numnahref08_Proves.f k rs p).bind fun t425 => (if t425 = true then (if provesE rs p = 0 then ((numnahlaw08_awake.f k).bind fun t426 => (some t426)) else (some false)) else (if provesE rs p = 10 then ((numnahlaw08_awake.f k).bind fun t427 => (some t427)) else (some false)))) else (if provesE rs p = 2 then ((numnahlaw08_awake.f k).bind fun t424 => (some t424)) else (some false)))) (fun k => by rw [numnahlaw08_RulesOrients.j0, if_neg (by simp)]) ?_
  refine Evt.bind (precRE p hp) ?_
  cases hok : precOk p with
  | false =>
    have e : provesE rs p = 2 := by unfold provesE; rw [hN]; dsimp only; rw [hok]
    rw [e]
    exact Evt.neg (by simp) (Evt.pos rfl awakeF)
  | true =>
    refine Evt.pos rfl (Evt.bind (provesRE rs ls (newLaws_l hN) hn p (ok_is hok)) ?_)
    have e : provesE rs p = if provT (rankP p) ls then 0 else 10 := by unfold provesE; rw [hN]; dsimp only; rw [hok]
    rw [e]
    cases provT (rankP p) ls with
    | true => exact Evt.pos rfl (Evt.pos rfl awakeF)
    | false => exact Evt.neg (by simp) (Evt.pos rfl awakeF)
theorem orients_all (l0 : List S94) (a1 : ByteArray) : Evt (fun k => numnahlaw08_RulesOrients.f k l0 a1) true := by
  obtain ⟨rs, hrs, hE⟩ := lawsE l0
  obtain ⟨p, hp, hps⟩ := short_ev a1
  have hrl := hrs.1
  have hR := rulesRE rs (by omega) (fun y hy => by have := hrs.2 y hy; omega)
  have hO : rules_Orient.f rs = some ((orientT rs).2, (orientT rs).1) := rfl
  have hV : rules_Proves.f rs p = some (provesE rs p) := by unfold rules_Proves.f; rw [if_pos (by omega)]
  unfold numnahlaw08_RulesOrients.f
  refine Evt.bind hE ?_
  simp only [hp, hO, hV, Option.bind_some]
  refine Evt.bind hR ?_
  have hemp : (⟨#[]⟩ : ByteArray).toList = ([] : List UInt8) := by rw [ByteArray.toList_eq]
  cases hN : newLawsT rs with
  | none =>
    have eo : orientT rs = (2, ⟨#[]⟩) := by unfold orientT; rw [hN]
    have ev : provesE rs p = 2 := by unfold provesE; rw [hN]
    rw [eo, ev]
    exact Evt.neg (by simp) (Evt.pos hemp (Evt.pos rfl (Evt.pos rfl awakeF)))
  | some ls =>
    have hj := orients_j0 rs ls hN (by omega) p (by omega)
    refine Evt.pos rfl (Evt.bind (orientRE rs ls (newLaws_l hN) (by omega)) ?_)
    cases hx : extO ls 6 [] with
    | none =>
      have eo : orientT rs = (6, ⟨#[]⟩) := by unfold orientT; rw [hN]; dsimp only; rw [hx]
      rw [eo]
      exact Evt.neg (by simp [orR]) (Evt.pos hemp (Evt.pos rfl hj))
    | some q =>
      have eo : orientT rs = (0, B8 q) := by unfold orientT; rw [hN]; dsimp only; rw [hx]
      rw [eo]
      exact Evt.pos rfl (Evt.pos rfl hj)
end Go.Proofs.YtaafeallcaiooaaGreat.Pr
namespace Go.Proofs.YtaafeallcaiooaaGreat.Pure
open Go.RowKit Go.Proofs.YtaafeallcaiooaaGreat.Pr Go.Proofs.YtaafeallcaiooaaGreatW.PrintWords Go.Proofs.YtaafeallcaiooaaGreatW.PrintLast
theorem RulesOrients : numnahlaw08_RulesOrients.Pure := by
  intro l a _ _ _ _
  exact (orients_all l a).ex
end Go.Proofs.YtaafeallcaiooaaGreat.Pure
