/- Cheapest, plainly: the cheapest plan and its cost, from the end on. -/
import Derived.Test.YtpeeflkodpnbpaaDoorHCheap
import Derived.Test.YtpeeflkodpnbpaaDoorHEv
import Derived.Test.YtpeeflkodpnbpaaDoorHCopy
namespace Go.Proofs.YtpeeflkodpnbpaaDoor.Pr
open Go.RowKit Go.Proofs.YtpeeflkodpnbpaaDoorW.PrintWords Go.Proofs.YtpeeflkodpnbpaaDoorW.PrintLast Go.Proofs.YtpeeflkodpnbpaaDoorW.PrintMore
set_option linter.unusedVariables false
set_option linter.unusedSimpArgs false

def inn (q F : Int) (T : List (Int × S63)) : Nat → Nat → Int × S63 → Int × S63
  | 0, _, cur => cur
  | r + 1, n, cur => inn q F T r (n + 1) (if q + (T.getD n (0, z63)).1 < cur.1 then (q + (T.getD n (0, z63)).1, ⟨F, (n : Int) + 1⟩) else cur)
/-- costs and first factors of the last m positions, and of the end -/
def chp (s : ByteArray) (p q : Int) : Nat → List (Int × S63)
  | 0 => [(0, z63)]
  | m + 1 => (if (factS s (s.size - (m + 1))).f0 < 0 then (p + ((chp s p q m).getD 0 (0, z63)).1, ⟨-1, 1⟩) else inn q (factS s (s.size - (m + 1))).f0 (chp s p q m) (factS s (s.size - (m + 1))).f1.toNat 0 (p + ((chp s p q m).getD 0 (0, z63)).1, ⟨-1, 1⟩)) :: chp s p q m
theorem chp_len (s : ByteArray) (p q : Int) : ∀ m, (chp s p q m).length = m + 1
  | 0 => rfl
  | m + 1 => by rw [chp, List.length_cons, chp_len s p q m]
/-- the plan -/
def plnF (T : List (Int × S63)) (N : Nat) : Nat → Nat → List S63
  | 0, _ => []
  | k + 1, a => if a < N then (T.getD a (0, z63)).2 :: plnF T N k (a + (T.getD a (0, z63)).2.f1.toNat) else []
def cheapF (s : ByteArray) (p q : Int) : List S63 × Int := (plnF (chp s p q s.size) s.size s.size 0, ((chp s p q s.size).getD 0 (0, z63)).1)

/-! ### bounds -/
theorem inn_le (q F : Int) (T : List (Int × S63)) : ∀ r n cur, (inn q F T r n cur).1 ≤ cur.1
  | 0, _, cur => Int.le_refl _
  | r + 1, n, cur => by
    rw [inn]
    refine Int.le_trans (inn_le q F T r (n + 1) _) ?_
    split <;> omega
theorem inn_ge (q F : Int) (hq : 0 ≤ q) (T : List (Int × S63)) (hT : ∀ n, 0 ≤ (T.getD n (0, z63)).1) : ∀ r n cur, 0 ≤ cur.1 → 0 ≤ (inn q F T r n cur).1
  | 0, _, cur, h => h
  | r + 1, n, cur, h => by
    rw [inn]
    refine inn_ge q F hq T hT r (n + 1) _ ?_
    split
    · have := hT n; show 0 ≤ q + _; omega
    · exact h
/-- a first factor: one letter, or a copy that fits -/
def okF (F : Int) (L : Nat) (x : S63) : Prop := x = ⟨-1, 1⟩ ∨ ∃ n : Nat, n < L ∧ x = ⟨F, (n : Int) + 1⟩
theorem inn_ok (q F : Int) (T : List (Int × S63)) (L : Nat) : ∀ r n cur, n + r ≤ L → okF F L cur.2 → okF F L (inn q F T r n cur).2
  | 0, _, cur, _, h => h
  | r + 1, n, cur, hn, h => by
    rw [inn]
    refine inn_ok q F T L r (n + 1) _ (by omega) ?_
    split
    · exact .inr ⟨n, by omega, rfl⟩
    · exact h
theorem getD_cons0 {α : Type} (x d : α) (l : List α) : (x :: l).getD 0 d = x := rfl
theorem getD_consS {α : Type} (x d : α) (l : List α) (n : Nat) : (x :: l).getD (n + 1) d = l.getD n d := rfl
theorem chp_bd (s : ByteArray) (p q : Int) (hp : 0 ≤ p ∧ p ≤ 100) (hq : 0 ≤ q) : ∀ m n, 0 ≤ ((chp s p q m).getD n (0, z63)).1 ∧ ((chp s p q m).getD n (0, z63)).1 ≤ 100 * m
  | 0, 0 => by simp [chp]
  | 0, n + 1 => by simp [chp]
  | m + 1, 0 => by
    have h0 := chp_bd s p q hp hq m 0
    have hge := fun n => (chp_bd s p q hp hq m n).1
    rw [chp, getD_cons0]
    split
    · show 0 ≤ p + _ ∧ p + _ ≤ _
      omega
    · have h1 := inn_le q (factS s (s.size - (m + 1))).f0 (chp s p q m) (factS s (s.size - (m + 1))).f1.toNat 0 (p + ((chp s p q m).getD 0 (0, z63)).1, ⟨-1, 1⟩)
      have h2 := inn_ge q (factS s (s.size - (m + 1))).f0 hq (chp s p q m) hge (factS s (s.size - (m + 1))).f1.toNat 0 (p + ((chp s p q m).getD 0 (0, z63)).1, ⟨-1, 1⟩) (by show 0 ≤ p + _; omega)
      have h3 : (p + ((chp s p q m).getD 0 (0, z63)).1, (⟨-1, 1⟩ : S63)).1 = p + ((chp s p q m).getD 0 (0, z63)).1 := rfl
      omega
  | m + 1, n + 1 => by
    have := chp_bd s p q hp hq m n
    rw [chp, getD_consS]
    omega
/-- position a, counted from the beginning -/
theorem chp_at (s : ByteArray) (p q : Int) : ∀ m a, a ≤ m → (chp s p q m).getD a (0, z63) = (chp s p q (m - a)).getD 0 (0, z63)
  | m, 0, _ => rfl
  | 0, a + 1, h => by omega
  | m + 1, a + 1, h => by
    rw [chp, getD_consS, chp_at s p q m a (by omega), show m + 1 - (a + 1) = m - a by omega]
theorem chp_head (s : ByteArray) (p q : Int) (m : Nat) (hm : m + 1 ≤ s.size) : okF (factS s (s.size - (m + 1))).f0 (factS s (s.size - (m + 1))).f1.toNat ((chp s p q (m + 1)).getD 0 (0, z63)).2 ∧ ((factS s (s.size - (m + 1))).f0 < 0 → ((chp s p q (m + 1)).getD 0 (0, z63)).2 = ⟨-1, 1⟩) := by
  rw [chp, getD_cons0]
  by_cases c : (factS s (s.size - (m + 1))).f0 < 0
  · rw [if_pos c]
    exact ⟨.inl rfl, fun _ => rfl⟩
  · rw [if_neg c]
    exact ⟨inn_ok _ _ _ _ _ _ _ (by omega) (.inl rfl), fun h => absurd h c⟩
/-- what the plan has at position a -/
theorem chp_fit (s : ByteArray) (p q : Int) (a : Nat) (ha : a < s.size) : 1 ≤ ((chp s p q s.size).getD a (0, z63)).2.f1 ∧ (a : Int) + ((chp s p q s.size).getD a (0, z63)).2.f1 ≤ s.size ∧ -1 ≤ ((chp s p q s.size).getD a (0, z63)).2.f0 ∧ ((chp s p q s.size).getD a (0, z63)).2.f0 < a := by
  rw [chp_at s p q s.size a (by omega)]
  obtain ⟨m, hm⟩ : ∃ m, s.size - a = m + 1 := ⟨s.size - a - 1, by omega⟩
  have ea : s.size - (m + 1) = a := by omega
  have h := (chp_head s p q m (by omega)).1
  have ok := earl_ok s a ha
  have o1 : 1 ≤ (factS s a).f1 := ok.1
  have o2 : (a : Int) + (factS s a).f1 ≤ s.size := ok.2.1
  have o3 : -1 ≤ (factS s a).f0 := ok.2.2.1
  have o4 : (factS s a).f0 < a := ok.2.2.2
  rw [hm]
  rw [ea] at h
  rcases h with h | ⟨n, h1, h2⟩
  · rw [h]
    exact ⟨by decide, by show (a : Int) + 1 ≤ _; omega, by decide, by show (-1 : Int) < _; omega⟩
  · rw [h2]
    exact ⟨by show (1 : Int) ≤ (n : Int) + 1; omega, by show (a : Int) + ((n : Int) + 1) ≤ _; omega, o3, o4⟩

/-! ### the loops -/
theorem set_rep {α : Type} (z v : α) (a : Nat) (xs : List α) : (List.replicate (a + 1) z ++ xs).set a v = List.replicate a z ++ v :: xs := by
  rw [List.replicate_succ', List.append_assoc, List.set_append_right _ _ (by simp)]
  simp
theorem set_rep2 {α : Type} (z u v : α) (a : Nat) (xs : List α) : (List.replicate a z ++ u :: xs).set a v = List.replicate a z ++ v :: xs := by
  rw [List.set_append_right _ _ (by simp)]
  simp
theorem rd_rep (a i : Nat) (z : Int) (xs : List Int) : rd (List.replicate a z ++ xs) ((a + i : Nat) : Int) = xs.getD i 0 := by
  unfold rd
  rw [Int.toNat_natCast, List.getD_eq_getElem?_getD, List.getD_eq_getElem?_getD, List.getElem?_append_right (by simp)]
  simp
theorem map_getD (T : List (Int × S63)) (i : Nat) : (T.map Prod.fst).getD i 0 = (T.getD i (0, z63)).1 := by
  rw [List.getD_eq_getElem?_getD, List.getD_eq_getElem?_getD, List.getElem?_map]
  cases T[i]? <;> rfl
theorem ch_l1 (s : ByteArray) (p q : Int) (hq : 1 ≤ q ∧ q ≤ 100) (hs : s.size ≤ 160) (a : Nat) (F : Int) (L : Nat) (T : List (Int × S63)) (hT : T.length = s.size - a) (hL : a + L ≤ s.size) (hb : ∀ n, 0 ≤ (T.getD n (0, z63)).1 ∧ (T.getD n (0, z63)).1 ≤ 16000) (ha : a < s.size) (R : List S63 × Int × Int) : ∀ (r n : Nat) (cur : Int × S63), n + r = L →
    Evt (fun k => parse_CheapP.l0 k s p q (List.replicate a 0 ++ ((inn q F T r n cur) :: T).map Prod.fst) (List.replicate a z63 ++ ((inn q F T r n cur) :: T).map Prod.snd) ((a : Int) - 1)) R →
    Evt (fun k => parse_CheapP.l1 k s p q (List.replicate a 0 ++ (cur :: T).map Prod.fst) (List.replicate a z63 ++ (cur :: T).map Prod.snd) (a : Int) (L : Int) (n : Int) F (L : Int)) R
  | 0, n, cur, hn, h => by
    rw [inn] at h
    have w1 : Aside0 (wrap64 ((a : Int) - 1) = (a : Int) - 1) := ⟨wr (by omega) (by omega)⟩
    refine Evt.step (fun k => ?_) h
    rw [parse_CheapP.l1, if_neg (by omega), w1.out]
  | r + 1, n, cur, hn, h => by
    rw [inn] at h
    have ih := ch_l1 s p q hq hs a F L T hT hL hb ha R r (n + 1) _ (by omega) h
    have hbn := hb n
    have w1 : Aside0 (wrap64 ((a : Int) + (n : Int)) = ((a + n : Nat) : Int)) := ⟨(wr (by omega) (by omega)).trans (by omega)⟩
    have w2 : Aside0 (wrap64 (((a + n : Nat) : Int) + 1) = ((a + (n + 1) : Nat) : Int)) := ⟨(wr (by omega) (by omega)).trans (by omega)⟩
    have w3 : Aside0 (wrap64 ((n : Int) + 1) = ((n + 1 : Nat) : Int)) := ⟨(wr (by omega) (by omega)).trans (by omega)⟩
    have w4 : Aside0 (wrap64 (q + (T.getD n (0, z63)).1) = q + (T.getD n (0, z63)).1) := ⟨wr (by omega) (by omega)⟩
    have l1 : (List.replicate a (0 : Int) ++ (cur :: T).map Prod.fst).length = s.size + 1 := by simp [hT]; omega
    have l2 : (List.replicate a z63 ++ (cur :: T).map Prod.snd).length = s.size + 1 := by simp [hT]; omega
    have e1 : rd (List.replicate a (0 : Int) ++ (cur :: T).map Prod.fst) ((a + (n + 1) : Nat) : Int) = (T.getD n (0, z63)).1 := by
      rw [rd_rep, List.map_cons, getD_consS, map_getD]
    have e2 : rd (List.replicate a (0 : Int) ++ (cur :: T).map Prod.fst) (a : Int) = cur.1 := by
      have := rd_rep a 0 0 ((cur :: T).map Prod.fst)
      rw [Nat.add_zero] at this
      rw [this]; rfl
    have c1 : (n : Int) < (L : Int) := by omega
    refine Evt.step (fun k => ?_) ih
    rw [parse_CheapP.l1, if_pos c1, w1.out, w2.out, if_pos (by omega), if_pos (by rw [l1]; omega), if_pos (by omega), if_pos (by rw [l1]; omega), e1, e2, w4.out, w3.out]
    by_cases c : q + (T.getD n (0, z63)).1 < cur.1
    · rw [if_pos c, if_pos (by rw [l2]; omega), if_pos c, Int.toNat_natCast, List.map_cons, List.map_cons, set_rep2, set_rep2]
      rfl
    · rw [if_neg c, if_neg c]
theorem ch_l0 (s : ByteArray) (p q : Int) (hp : 1 ≤ p ∧ p ≤ 100) (hq : 1 ≤ q ∧ q ≤ 100) (hs : s.size ≤ 160) (R : List S63 × Int × Int)
    (h : Evt (fun k => parse_CheapP.l2 k s ((chp s p q s.size).map Prod.fst) ((chp s p q s.size).map Prod.snd) ([] : List S63) 0) R) : ∀ (a m : Nat), a + m = s.size →
    Evt (fun k => parse_CheapP.l0 k s p q (List.replicate a 0 ++ (chp s p q m).map Prod.fst) (List.replicate a z63 ++ (chp s p q m).map Prod.snd) ((a : Int) - 1)) R
  | 0, m, hm => by
    obtain rfl : m = s.size := by omega
    refine Evt.step (fun k => ?_) h
    rw [parse_CheapP.l0, if_neg (by omega)]
    rfl
  | a + 1, m, hm => by
    have ih := ch_l0 s p q hp hq hs R h a (m + 1) (by omega)
    have hl := chp_len s p q m
    have hb := chp_bd s p q ⟨by omega, hp.2⟩ (by omega) m
    have hb0 := hb 0
    rw [chp, show s.size - (m + 1) = a by omega] at ih
    generalize chp s p q m = T at *
    have w0 : ((a + 1 : Nat) : Int) - 1 = (a : Int) := by omega
    have w1 : Aside0 (wrap64 ((a : Int) + 1) = ((a + 1 : Nat) : Int)) := ⟨(wr (by omega) (by omega)).trans (by omega)⟩
    have w2 : Aside0 (wrap64 (p + (T.getD 0 (0, z63)).1) = p + (T.getD 0 (0, z63)).1) := ⟨wr (by omega) (by omega)⟩
    have w3 : Aside0 (wrap64 ((a : Int) - 1) = (a : Int) - 1) := ⟨wr (by omega) (by omega)⟩
    have l1 : (List.replicate (a + 1) (0 : Int) ++ T.map Prod.fst).length = s.size + 1 := by simp [hl]; omega
    have l2 : (List.replicate (a + 1) z63 ++ T.map Prod.snd).length = s.size + 1 := by simp [hl]; omega
    have e1 : rd (List.replicate (a + 1) (0 : Int) ++ T.map Prod.fst) ((a + 1 : Nat) : Int) = (T.getD 0 (0, z63)).1 := by
      have := rd_rep (a + 1) 0 0 (T.map Prod.fst)
      rw [Nat.add_zero] at this
      rw [this, map_getD]
    have ee : parse_earlier.f s (a : Int) = some (earlF s a a 0 (-1, 1)) := by
      rw [parse_earlier.f, if_pos ⟨hs, by omega, by omega⟩, Int.toNat_natCast]
    have ok := earl_ok s a (by omega)
    have o1 := ok.1
    have o2 := ok.2.1
    have f0 : (factS s a).f0 = (earlF s a a 0 (-1, 1)).1 := rfl
    have f1 : (factS s a).f1 = (earlF s a a 0 (-1, 1)).2 := rfl
    rw [f0, f1] at ih
    generalize earlF s a a 0 (-1, 1) = E at *
    have hh : ∀ k, parse_CheapP.l0 (k + 1) s p q (List.replicate (a + 1) 0 ++ T.map Prod.fst) (List.replicate (a + 1) z63 ++ T.map Prod.snd) (a : Int) = (if E.1 < 0 then (parse_CheapP.l0 k s p q (List.replicate a 0 ++ (p + (T.getD 0 (0, z63)).1) :: T.map Prod.fst) (List.replicate a z63 ++ (⟨-1, 1⟩ : S63) :: T.map Prod.snd) ((a : Int) - 1)) else (parse_CheapP.l1 k s p q (List.replicate a 0 ++ (p + (T.getD 0 (0, z63)).1) :: T.map Prod.fst) (List.replicate a z63 ++ (⟨-1, 1⟩ : S63) :: T.map Prod.snd) (a : Int) E.2 0 E.1 E.2)) := by
      intro k
      rw [parse_CheapP.l0, if_pos (by omega), w1.out, if_pos (by omega), if_pos (by rw [l1]; omega), if_pos (by omega), if_pos (by rw [l1]; omega), Option.bind_some, if_pos (by rw [l2]; omega), Option.bind_some, ee, Option.bind_some, e1, w2.out, w3.out, Int.toNat_natCast, set_rep, set_rep]
    rw [w0]
    by_cases c : E.1 < 0
    · rw [if_pos c] at ih
      refine Evt.step (fun k => ?_) ih
      rw [hh, if_pos c]
      rfl
    · rw [if_neg c] at ih
      have hE : E.2 = (E.2.toNat : Int) := by omega
      refine Evt.step (g' := fun k => parse_CheapP.l1 k s p q (List.replicate a 0 ++ ((p + (T.getD 0 (0, z63)).1, (⟨-1, 1⟩ : S63)) :: T).map Prod.fst) (List.replicate a z63 ++ ((p + (T.getD 0 (0, z63)).1, (⟨-1, 1⟩ : S63)) :: T).map Prod.snd) (a : Int) (E.2.toNat : Int) ((0 : Nat) : Int) E.1 (E.2.toNat : Int)) (fun k => ?_) (ch_l1 s p q hq hs a E.1 E.2.toNat T (by omega) (by omega) (fun n => by have := hb n; omega) (by omega) R E.2.toNat 0 _ (by omega) ih)
      rw [hh, if_neg c, ← hE]
      rfl
theorem ch_l2 (s : ByteArray) (p q : Int) (hs : s.size ≤ 160) : ∀ (k a : Nat) (out : List S63), s.size ≤ a + k → out.length ≤ a → a ≤ s.size →
    Evt (fun k => parse_CheapP.l2 k s ((chp s p q s.size).map Prod.fst) ((chp s p q s.size).map Prod.snd) out (a : Int)) (out ++ plnF (chp s p q s.size) s.size k a, ((chp s p q s.size).getD 0 (0, z63)).1, 0) := by
  have hl := chp_len s p q s.size
  have stop : ∀ (a : Nat) (out : List S63), ¬ a < s.size → Evt (fun k => parse_CheapP.l2 k s ((chp s p q s.size).map Prod.fst) ((chp s p q s.size).map Prod.snd) out (a : Int)) (out, ((chp s p q s.size).getD 0 (0, z63)).1, 0) := by
    intro a out c
    refine Evt.now fun k => ?_
    have e : rd ((chp s p q s.size).map Prod.fst) 0 = ((chp s p q s.size).getD 0 (0, z63)).1 := map_getD _ 0
    rw [parse_CheapP.l2, if_neg (by omega), if_pos (by rw [List.length_map]; omega), e]
  intro k
  induction k with
  | zero =>
    intro a out h1 h2 h3
    rw [plnF, List.append_nil]
    exact stop a out (by omega)
  | succ k ih =>
    intro a out h1 h2 h3
    by_cases c : a < s.size
    · have fit := chp_fit s p q a c
      have e : rd_T63 ((chp s p q s.size).map Prod.snd) (a : Int) = ((chp s p q s.size).getD a (0, z63)).2 := by
        unfold rd_T63
        rw [Int.toNat_natCast, List.getD_eq_getElem?_getD, List.getD_eq_getElem?_getD, List.getElem?_map]
        cases (chp s p q s.size)[a]? <;> rfl
      rw [plnF, if_pos c]
      generalize ((chp s p q s.size).getD a (0, z63)).2 = x at *
      have ih2 := ih (a + x.f1.toNat) (out ++ [x]) (by omega) (by rw [List.length_append, List.length_singleton]; omega) (by omega)
      have w1 : Aside0 (wrap64 ((a : Int) + x.f1) = ((a + x.f1.toNat : Nat) : Int)) := ⟨(wr (by omega) (by omega)).trans (by omega)⟩
      rw [List.append_assoc] at ih2
      refine Evt.step (fun k => ?_) ih2
      rw [parse_CheapP.l2, if_pos (by omega), if_pos (by omega), if_pos (by rw [List.length_map]; omega), if_pos (by omega), e, w1.out]
    · rw [plnF, if_neg c, List.append_nil]
      exact stop a out c
def priceB (p q : Int) : Bool := decide (1 ≤ p) && decide (p ≤ 100) && (decide (1 ≤ q) && decide (q ≤ 100))
theorem isPrice_eq (p q : Int) : parse_isPrice.f p q = some (priceB p q) := by
  unfold parse_isPrice.f parse_within.f priceB
  by_cases c1 : p ≥ 1
  · rw [if_pos c1, Option.bind_some]
    by_cases c2 : p ≤ 100
    · rw [decide_eq_true c2, if_pos rfl]
      by_cases c3 : q ≥ 1
      · rw [if_pos c3, Option.bind_some, decide_eq_true (show 1 ≤ p from c1), decide_eq_true (show 1 ≤ q from c3)]; simp
      · rw [if_neg c3, Option.bind_some, decide_eq_false (show ¬ 1 ≤ q from c3)]; simp
    · rw [decide_eq_false c2, if_neg (by decide)]; simp
  · rw [if_neg c1, Option.bind_some, if_neg (by decide), decide_eq_false (show ¬ 1 ≤ p from c1)]; simp
def cheapR (s : ByteArray) (p q : Int) : List S63 × Int × Int := if isWordC s = true ∧ priceB p q = true then ((cheapF s p q).1, (cheapF s p q).2, 0) else ([], 0, 2)
theorem cheap_ev (s : ByteArray) (p q : Int) : Evt (fun k => parse_CheapP.f k s p q) (cheapR s p q) := by
  unfold parse_CheapP.f cheapR
  refine Evt.bind (Evt.all (fun _ => show parse_isWord.f s = some (isWordC s) from rfl)) ?_
  have no : Evt (fun k => parse_CheapP.j0 k s p q true) (([] : List S63), 0, 2) := by
    refine Evt.now fun k => ?_
    rw [parse_CheapP.j0, if_pos rfl]
  cases hw : isWordC s with
  | false =>
    rw [if_neg (by simp)]
    exact Evt.neg (by decide) no
  | true =>
    refine Evt.pos rfl (Evt.bind (Evt.all (fun _ => isPrice_eq p q)) ?_)
    cases hpr : priceB p q with
    | false =>
      rw [if_neg (by simp)]
      exact no
    | true =>
      rw [if_pos (by simp)]
      simp only [priceB, Bool.and_eq_true, decide_eq_true_eq] at hpr
      have hs := ((isWordC_iff s).1 hw).1
      have w1 : Aside0 (wrap64 ((s.size : Int) + 1) = ((s.size + 1 : Nat) : Int)) := ⟨(wr (by omega) (by omega)).trans (by omega)⟩
      have w2 : Aside0 (wrap64 ((s.size : Int) - 1) = (s.size : Int) - 1) := ⟨wr (by omega) (by omega)⟩
      have main := ch_l0 s p q hpr.1 hpr.2 hs _ (ch_l2 s p q hs s.size 0 [] (by omega) (by simp) (by omega)) s.size 0 (by omega)
      rw [List.nil_append] at main
      refine Evt.step (fun k => ?_) main
      rw [parse_CheapP.j0, if_neg (by decide), w1.out, w2.out, Int.toNat_natCast, if_pos (by omega), if_pos (by omega), if_pos (by omega), List.replicate_succ', List.replicate_succ']
      rfl
/-! for the printer -/
def parse_Cheapest.f (a0 : ByteArray) (a1 a2 : Int) : Option (List S63 × Int × Int) := some (cheapR a0 a1 a2)
theorem parse_Cheapest.calls (a0 : ByteArray) (a1 a2 : Int) (r1 : List S63) (r2 r3 : Int) (w : World) (hG : GW w) (h : parse_Cheapest.f a0 a1 a2 = some (r1, r2, r3)) :
    Calls Tryd.prog 52 #[.string a0, .int .i64 a1, .int .i64 a2] w fun e w' => ∃ v0_ : Value, e = .returned (.tuple #[v0_, .int .i64 r2, .int .i64 r3]) ∧ Kd.R k63 63 w' w.heap.size (fun _ => True) v0_ r1 ∧ Below w.heap.size w w' := by
  obtain ⟨k, hk⟩ := (cheap_ev a0 a1 a2).ex
  rw [Option.some.inj h] at hk
  exact parse_CheapP.calls k a0 a1 a2 r1 r2 r3 w hG hk
end Go.Proofs.YtpeeflkodpnbpaaDoor.Pr
