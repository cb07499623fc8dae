/- ParseFew, plainly: the ends of the factors of the copying parse touch the word; a set that touches it has at least as many positions as Fewest's, and this one at least as many as Delta, rounded up; the copying parse has at most twice as many factors as the learning parse. -/
import Derived.Test.YtpeeflkodpnbpaaDoorHUnt
import Derived.Test.YtpeeflkodpnbpaaDoorHCnt
import Derived.Test.YtpeeflkodpnbpaaDoorPrB23
import Derived.Test.YtpeeflkodpnbpaaDoorHEv
import Derived.Test.YtpeeflkodpnbpaaDoorHCopy
import Derived.Test.YtpeeflkodpnbpaaDoorHLearn
import Derived.Test.YtpeeflkodpnbpaaDoorHDelta
import Derived.Test.YtpeeflkodpnbpaaDoorHFew
import Derived.Test.YtpeeflkodpnbpaaDoorPrA23
import Derived.Test.YtpeeflkodpnbpaaDoorHWord
import Derived.Test.YtpeeflkodpnbpaaDoorPrA8
import Derived.Test.YtpeeflkodpnbpaaDoorPrB19
import Derived.Test.YtpeeflkodpnbpaaDoorPrB8
/- Sets that touch a word: what untF says, and how many substrings there are at most. -/
namespace Go.Proofs.YtpeeflkodpnbpaaDoor.Pr
open Go.RowKit Go.Proofs.YtpeeflkodpnbpaaDoorW.PrintWords Go.Proofs.YtpeeflkodpnbpaaDoorW.PrintLast Go.Proofs.YtpeeflkodpnbpaaDoorW.PrintMore
set_option linter.unusedVariables false
set_option linter.unusedSimpArgs false

/-- a set touches the word -/
def Tch (s : ByteArray) (set : List Int) : Prop := ∀ k j : Nat, 1 ≤ k → j + k ≤ s.size → ∃ j' p : Nat, j' + k ≤ s.size ∧ subAt s k j' = subAt s k j ∧ (p : Int) ∈ set ∧ j' ≤ p ∧ p < j' + k
theorem cntB_mono (set : List Int) (i : Nat) : ∀ n, cntB set i ≤ cntB set (i + n)
  | 0 => Int.le_refl _
  | n + 1 => by
    have := cntB_mono set i n
    rw [← Nat.add_assoc, cntB]
    split <;> omega
theorem cntB_lt (set : List Int) (i : Nat) : ∀ n, cntB set i < cntB set (i + n) ↔ ∃ p : Nat, (p : Int) ∈ set ∧ i ≤ p ∧ p < i + n
  | 0 => by
    constructor
    · intro h; exact absurd h (by rw [Nat.add_zero]; exact Int.lt_irrefl _)
    · rintro ⟨p, _, h1, h2⟩; omega
  | n + 1 => by
    have ih := cntB_lt set i n
    have mo := cntB_mono set i n
    rw [← Nat.add_assoc, cntB]
    by_cases c : memI ((i + n : Nat) : Int) set = true
    · rw [if_pos c]
      constructor
      · intro _; exact ⟨i + n, memI_iff.1 c, by omega, by omega⟩
      · intro _; omega
    · rw [if_neg c]
      constructor
      · intro h
        obtain ⟨p, h1, h2, h3⟩ := ih.1 (by omega)
        exact ⟨p, h1, h2, by omega⟩
      · rintro ⟨p, h1, h2, h3⟩
        have hne : p ≠ i + n := fun e => c (memI_iff.2 (e ▸ h1))
        have := ih.2 ⟨p, h1, h2, by omega⟩
        omega
theorem tch_any (s : ByteArray) (set : List Int) (n : Nat) (t : ByteArray) : (posS s n t).any (tchP set n) = true ↔ ∃ j p : Nat, j + n ≤ s.size ∧ subAt s n j = t ∧ (p : Int) ∈ set ∧ j ≤ p ∧ p < j + n := by
  rw [List.any_eq_true]
  constructor
  · rintro ⟨x, hx, h⟩
    obtain ⟨j, hj, rfl, hs⟩ := mem_posUp.1 hx
    unfold tchP at h
    rw [decide_eq_true_iff, Int.toNat_natCast, cntB_lt] at h
    obtain ⟨p, h1, h2, h3⟩ := h
    exact ⟨j, p, by omega, hs, h1, h2, h3⟩
  · rintro ⟨j, p, hj, hs, h1, h2, h3⟩
    refine ⟨(j : Int), mem_posUp.2 ⟨j, by omega, rfl, hs⟩, ?_⟩
    unfold tchP
    rw [decide_eq_true_iff, Int.toNat_natCast, cntB_lt]
    exact ⟨p, h1, h2, h3⟩
theorem findU_none (s : ByteArray) (set : List Int) (n : Nat) : ∀ l, findU s set n l = none ↔ ∀ t, t ∈ l → (posS s n t).any (tchP set n) = true
  | [] => by simp [findU]
  | t :: l => by
    rw [findU]
    by_cases c : (posS s n t).any (tchP set n) = true
    · rw [if_pos c, findU_none s set n l]
      constructor
      · intro h x hx
        rcases List.mem_cons.1 hx with rfl | hx
        · exact c
        · exact h x hx
      · intro h x hx; exact h x (List.mem_cons_of_mem _ hx)
    · rw [if_neg c]
      constructor
      · intro h; cases h
      · intro h; exact absurd (h t List.mem_cons_self) c
theorem untF_iff (s : ByteArray) (set : List Int) : ∀ q n, (untF s set q n).2 = false ↔ ∀ k, n ≤ k → k < n + q → ∀ t, t ∈ partsS s k → (posS s k t).any (tchP set k) = true
  | 0, n => by
    rw [untF]
    exact ⟨fun _ k h1 h2 => by omega, fun _ => rfl⟩
  | q + 1, n => by
    rw [untF]
    cases h : findU s set n (partsS s n) with
    | some t =>
      constructor
      · intro h2; cases h2
      · intro h2
        have := (findU_none s set n (partsS s n)).2 (h2 n (Nat.le_refl _) (by omega))
        rw [h] at this; cases this
    | none =>
      show (untF s set q (n + 1)).2 = false ↔ _
      rw [untF_iff s set q (n + 1)]
      have h3 := (findU_none s set n (partsS s n)).1 h
      constructor
      · intro h2 k h4 h5
        by_cases e : k = n
        · subst e; exact h3
        · exact h2 k (by omega) (by omega)
      · intro h2 k h4 h5; exact h2 k (by omega) (by omega)
theorem unt_tch (s : ByteArray) (set : List Int) : (untF s set s.size 1).2 = false ↔ Tch s set := by
  rw [untF_iff]
  constructor
  · intro h k j hk hj
    have := (tch_any s set k _).1 (h k hk (by omega) (subAt s k j) (mem_parts.2 ⟨j, hj, rfl⟩))
    obtain ⟨j', p, h1, h2, h3, h4, h5⟩ := this
    exact ⟨j', p, h1, h2, h3, h4, h5⟩
  · intro h k h1 h2 t ht
    obtain ⟨j, hj, rfl⟩ := mem_parts.1 ht
    obtain ⟨j', p, g1, g2, g3, g4, g5⟩ := h k j h1 hj
    exact (tch_any s set k _).2 ⟨j', p, g1, g2, g3, g4, g5⟩
theorem untF_no (s : ByteArray) (set : List Int) : ∀ q n, (untF s set q n).2 = false → (untF s set q n).1 = emptyB
  | 0, n, _ => rfl
  | q + 1, n, h => by
    rw [untF] at h ⊢
    cases hf : findU s set n (partsS s n) with
    | some t => rw [hf] at h; cases h
    | none =>
      rw [hf] at h
      exact untF_no s set q (n + 1) h

/-! ### how many substrings -/
def cand (s : ByteArray) (k : Nat) : List Int → List ByteArray
  | [] => []
  | p :: l => (List.range k).map (fun o => subAt s k (p.toNat - o)) ++ cand s k l
theorem cand_len (s : ByteArray) (k : Nat) : ∀ l, (cand s k l).length = l.length * k
  | [] => by simp [cand]
  | p :: l => by rw [cand, List.length_append, cand_len s k l, List.length_map, List.length_range, List.length_cons, Nat.succ_mul, Nat.add_comm]
theorem mem_cand (s : ByteArray) (k : Nat) {p o : Nat} (ho : o < k) : ∀ {l : List Int}, (p : Int) ∈ l → subAt s k (p - o) ∈ cand s k l
  | q :: l, h => by
    rw [cand, List.mem_append]
    rcases List.mem_cons.1 h with h | h
    · refine .inl (List.mem_map.2 ⟨o, List.mem_range.2 ho, ?_⟩)
      rw [← h, Int.toNat_natCast]
    · exact .inr (mem_cand s k ho h)
theorem tch_cnt (s : ByteArray) (set : List Int) (h : Tch s set) (k : Nat) (hk : 1 ≤ k) : cntS s k ≤ set.length * k := by
  rw [cntS_eq, ← cand_len s k set]
  refine nodup_le (partsS_nodup s k) (fun t ht => ?_)
  obtain ⟨j, hj, rfl⟩ := mem_parts.1 ht
  obtain ⟨j', p, g1, g2, g3, g4, g5⟩ := h k j hk hj
  have := mem_cand s k (p := p) (o := p - j') (by omega) g3
  rw [show p - (p - j') = j' by omega, g2] at this
  exact this
end Go.Proofs.YtpeeflkodpnbpaaDoor.Pr

/- parse.Touches, plainly. -/
namespace Go.Proofs.YtpeeflkodpnbpaaDoor.Pr
open Go.RowKit Go.Proofs.YtpeeflkodpnbpaaDoorW.PrintWords Go.Proofs.YtpeeflkodpnbpaaDoorW.PrintLast Go.Proofs.YtpeeflkodpnbpaaDoorW.PrintMore
set_option linter.unusedVariables false
set_option linter.unusedSimpArgs false

/-- place i of a list of positions is well -/
def posAt (s : ByteArray) (l : List Int) (i : Nat) : Prop := 0 ≤ rd l (i : Int) ∧ rd l (i : Int) < s.size ∧ (0 < i → rd l ((i - 1 : Nat) : Int) < rd l (i : Int))
def tchR (s : ByteArray) (l : List Int) : ByteArray × Bool × Int := ((untF s l s.size 1).1, !(untF s l s.size 1).2, 0)
theorem tchs_step (s : ByteArray) (l : List Int) (hs : s.size ≤ 160) (hl : l.length ≤ 200) (i : Nat) (hi : i < l.length) (h : posAt s l i) (k : Nat) : parse_Touches.l0 (k + 1) s l l (l.length : Int) (i : Int) = parse_Touches.l0 k s l l (l.length : Int) ((i + 1 : Nat) : Int) := by
  obtain ⟨h1, h2, h3⟩ := h
  have w2 : Aside0 (wrap64 ((i : Int) + 1) = ((i + 1 : Nat) : Int)) := ⟨(wr (by omega) (by omega)).trans (by omega)⟩
  have w3 : Aside0 (wrap64 ((s.size : Int) - 1) = (s.size : Int) - 1) := ⟨wr (by omega) (by omega)⟩
  have hw : parse_within.f (rd l (i : Int)) 0 ((s.size : Int) - 1) = some true := by
    rw [parse_within.f, if_pos (by omega), decide_eq_true (by omega)]
  rw [parse_Touches.l0, if_pos (by omega), if_pos (by omega), if_pos (by omega), w3.out, hw, Option.bind_some, if_pos rfl]
  by_cases c : (i : Int) > 0
  · have w4 : Aside0 (wrap64 ((i : Int) - 1) = ((i - 1 : Nat) : Int)) := ⟨(wr (by omega) (by omega)).trans (by omega)⟩
    have h4 := h3 (by omega)
    rw [if_pos c, w4.out, if_pos (by omega), if_pos (by omega), if_neg (by omega), w2.out]
  · rw [if_neg c, w2.out]
theorem tchs_good (s : ByteArray) (l : List Int) (hs : s.size ≤ 160) (hl : l.length ≤ 200) : ∀ m i, i + m = l.length → (∀ j, i ≤ j → j < l.length → posAt s l j) → Evt (fun k => parse_Touches.l0 k s l l (l.length : Int) (i : Int)) (tchR s l)
  | 0, i, hi, h => by
    refine Evt.now fun k => ?_
    rw [parse_Touches.l0, if_neg (by omega), parse_untouched.f, if_pos hs]
    rfl
  | m + 1, i, hi, h =>
    Evt.step (fun k => tchs_step s l hs hl i (by omega) (h i (Nat.le_refl _) (by omega)) k) (tchs_good s l hs hl m (i + 1) (by omega) (fun j h1 h2 => h j (by omega) h2))
theorem tchs_bad (s : ByteArray) (l : List Int) (hs : s.size ≤ 160) (hl : l.length ≤ 200) : ∀ m i, i + m = l.length → (∃ j, i ≤ j ∧ j < l.length ∧ ¬ posAt s l j) → Evt (fun k => parse_Touches.l0 k s l l (l.length : Int) (i : Int)) ((⟨#[]⟩ : ByteArray), false, 2)
  | 0, i, hi, ⟨j, h1, h2, _⟩ => by omega
  | m + 1, i, hi, h => by
    by_cases c : posAt s l i
    · obtain ⟨j, h1, h2, h3⟩ := h
      have : j ≠ i := fun e => h3 (e ▸ c)
      exact Evt.step (fun k => tchs_step s l hs hl i (by omega) c k) (tchs_bad s l hs hl m (i + 1) (by omega) ⟨j, by omega, h2, h3⟩)
    · have w3 : Aside0 (wrap64 ((s.size : Int) - 1) = (s.size : Int) - 1) := ⟨wr (by omega) (by omega)⟩
      refine Evt.now fun k => ?_
      rw [parse_Touches.l0, if_pos (by omega), if_pos (by omega), if_pos (by omega), w3.out, parse_within.f]
      by_cases c1 : rd l (i : Int) ≥ 0
      · rw [if_pos c1, Option.bind_some]
        by_cases c2 : rd l (i : Int) ≤ (s.size : Int) - 1
        · rw [decide_eq_true c2, if_pos rfl]
          by_cases c3 : (i : Int) > 0
          · have w4 : Aside0 (wrap64 ((i : Int) - 1) = ((i - 1 : Nat) : Int)) := ⟨(wr (by omega) (by omega)).trans (by omega)⟩
            have c4 : rd l ((i - 1 : Nat) : Int) ≥ rd l (i : Int) := by
              apply Decidable.byContradiction
              intro hn
              exact c ⟨c1, by omega, fun _ => by omega⟩
            rw [if_pos c3, w4.out, if_pos (by omega), if_pos (by omega), if_pos c4]
          · exact absurd ⟨c1, by omega, fun h => absurd h (by omega)⟩ c
        · rw [decide_eq_false c2, if_neg (by decide)]
      · rw [if_neg c1, Option.bind_some, if_neg (by decide)]
theorem touches_ev (s : ByteArray) (hw : isWordC s = true) (l : List Int) (hl : l.length ≤ 200) (h : ∀ j, j < l.length → posAt s l j) : Evt (fun k => parse_Touches.f k s l) (tchR s l) := by
  have hs := ((isWordC_iff s).1 hw).1
  refine Evt.congr (tchs_good s l hs hl l.length 0 (by omega) (fun j _ h2 => h j h2)) (fun k => ?_)
  rw [parse_Touches.f, parse_isWord.f, hw, Option.bind_some, if_pos rfl]
  rfl
theorem touches_bad (s : ByteArray) (hw : isWordC s = true) (l : List Int) (hl : l.length ≤ 200) (h : ∃ j, j < l.length ∧ ¬ posAt s l j) : Evt (fun k => parse_Touches.f k s l) ((⟨#[]⟩ : ByteArray), false, 2) := by
  have hs := ((isWordC_iff s).1 hw).1
  obtain ⟨j, h1, h2⟩ := h
  refine Evt.congr (tchs_bad s l hs hl l.length 0 (by omega) ⟨j, by omega, h1, h2⟩) (fun k => ?_)
  rw [parse_Touches.f, parse_isWord.f, hw, Option.bind_some, if_pos rfl]
  rfl
theorem touches_no (s : ByteArray) (hw : isWordC s = false) (l : List Int) : Evt (fun k => parse_Touches.f k s l) ((⟨#[]⟩ : ByteArray), false, 2) := by
  refine Evt.all (fun k => ?_)
  rw [parse_Touches.f, parse_isWord.f, hw, Option.bind_some, if_neg (by decide)]
theorem posAt_of (s : ByteArray) (l : List Int) (hp : l.Pairwise (fun x y => x < y)) (hr : ∀ x, x ∈ l → 0 ≤ x ∧ x < s.size) : ∀ j, j < l.length → posAt s l j := by
  intro j hj
  have e : rd l (j : Int) = l[j] := by simp [rd, hj]
  have := hr _ (List.getElem_mem hj)
  refine ⟨by omega, by omega, fun h => ?_⟩
  have hj2 : j - 1 < l.length := by omega
  have e2 : rd l ((j - 1 : Nat) : Int) = l[j - 1] := by simp [rd, hj2]
  rw [e, e2]
  exact (List.pairwise_iff_getElem.1 hp) (j - 1) j hj2 hj (by omega)
theorem tchR_tch (s : ByteArray) (l : List Int) : (tchR s l).2.1 = true ↔ Tch s l := by
  rw [← unt_tch]
  unfold tchR
  dsimp only
  cases (untF s l s.size 1).2 <;> simp
end Go.Proofs.YtpeeflkodpnbpaaDoor.Pr

/- How far two strings go together, and the longest earlier string. -/
namespace Go.Proofs.YtpeeflkodpnbpaaDoor.Pr
open Go.RowKit Go.Proofs.YtpeeflkodpnbpaaDoorW.PrintWords Go.Proofs.YtpeeflkodpnbpaaDoorW.PrintLast Go.Proofs.YtpeeflkodpnbpaaDoorW.PrintMore
set_option linter.unusedVariables false
set_option linter.unusedSimpArgs false

def btL (l : List UInt8) (i : Nat) : Int := match l[i]? with
  | some c => (c.toNat : Int)
  | none => 0
theorem bt_btL (s : ByteArray) (i : Nat) : bt s (i : Int) = btL (bl s) i := by
  unfold bt btL bl
  rw [Array.getElem?_toList]
  by_cases h : i < s.data.size
  · rw [dif_pos (by rw [Int.toNat_natCast]; exact h), Array.getElem?_eq_getElem h]
    simp only [Int.toNat_natCast]
    rfl
  · rw [dif_neg (by rw [Int.toNat_natCast]; exact h), Array.getElem?_eq_none (by omega)]
theorem ext_spec (s : ByteArray) (j i : Nat) : ∀ q n, i + n ≤ s.size → s.size ≤ i + n + q →
    n ≤ ext s j i q n ∧ i + ext s j i q n ≤ s.size ∧ (∀ m, n ≤ m → m < ext s j i q n → bt s ((j + m : Nat) : Int) = bt s ((i + m : Nat) : Int)) ∧ (i + ext s j i q n = s.size ∨ bt s ((j + ext s j i q n : Nat) : Int) ≠ bt s ((i + ext s j i q n : Nat) : Int))
  | 0, n, h1, h2 => by
    rw [ext]
    exact ⟨Nat.le_refl _, h1, fun m a b => absurd b (by omega), .inl (by omega)⟩
  | q + 1, n, h1, h2 => by
    rw [ext]
    by_cases c : i + n < s.size
    · rw [if_pos c]
      by_cases e : bt s ((j + n : Nat) : Int) = bt s ((i + n : Nat) : Int)
      · rw [if_pos e]
        obtain ⟨a1, a2, a3, a4⟩ := ext_spec s j i q (n + 1) (by omega) (by omega)
        refine ⟨by omega, a2, fun m hm1 hm2 => ?_, a4⟩
        by_cases hmn : m = n
        · subst hmn; exact e
        · exact a3 m (by omega) hm2
      · rw [if_neg e]
        exact ⟨Nat.le_refl _, h1, fun m a b => absurd b (by omega), .inr e⟩
    · rw [if_neg c]
      exact ⟨Nat.le_refl _, h1, fun m a b => absurd b (by omega), .inl (by omega)⟩
theorem earlF_max (s : ByteArray) (i : Nat) : ∀ (m f : Nat) (b : Int × Int), 1 ≤ b.2 → b.2 ≤ (earlF s i m f b).2 ∧ ∀ j, f ≤ j → j < f + m → (ext s j i s.size 0 : Int) ≤ (earlF s i m f b).2
  | 0, f, b, h => ⟨by rw [earlF]; exact Int.le_refl _, fun j h1 h2 => by omega⟩
  | m + 1, f, b, h => by
    rw [earlF]
    have hp : 1 ≤ (pick9 f (ext s f i s.size 0) b).2 ∧ b.2 ≤ (pick9 f (ext s f i s.size 0) b).2 ∧ (ext s f i s.size 0 : Int) ≤ (pick9 f (ext s f i s.size 0) b).2 := by
      generalize ext s f i s.size 0 = e
      unfold pick9
      by_cases p : 0 < e ∧ (b = ((-1 : Int), (1 : Int)) ∨ b.2 < (e : Int))
      · rw [if_pos p]
        refine ⟨by show (1 : Int) ≤ (e : Int); omega, ?_, by show (e : Int) ≤ (e : Int); omega⟩
        show b.2 ≤ (e : Int)
        rcases p.2 with p2 | p2
        · have := congrArg Prod.snd p2
          have : b.2 = 1 := this
          omega
        · omega
      · rw [if_neg p]
        refine ⟨h, Int.le_refl _, ?_⟩
        apply Decidable.byContradiction
        intro hc
        exact p ⟨by omega, .inr (by omega)⟩
    obtain ⟨a1, a2⟩ := earlF_max s i m (f + 1) _ hp.1
    refine ⟨Int.le_trans hp.2.1 a1, fun j h1 h2 => ?_⟩
    by_cases e : j = f
    · subst e; exact Int.le_trans hp.2.2 a1
    · exact a2 j (by omega) (by omega)
end Go.Proofs.YtpeeflkodpnbpaaDoor.Pr

/- The ends of the factors of the copying parse touch the word; there are at most twice as many as factors of the learning parse. -/
namespace Go.Proofs.YtpeeflkodpnbpaaDoor.Pr
open Go.RowKit Go.Proofs.YtpeeflkodpnbpaaDoorW.PrintWords Go.Proofs.YtpeeflkodpnbpaaDoorW.PrintLast Go.Proofs.YtpeeflkodpnbpaaDoorW.PrintMore
set_option linter.unusedVariables false
set_option linter.unusedSimpArgs false

theorem sub_of_bt (s : ByteArray) (k i j : Nat) (hi : i + k ≤ s.size) (hj : j + k ≤ s.size) (h : ∀ m, m < k → bt s ((i + m : Nat) : Int) = bt s ((j + m : Nat) : Int)) : subAt s k i = subAt s k j := by
  apply bl_inj
  rw [bl_sub, bl_sub]
  apply List.ext_getElem?
  intro m
  by_cases c : m < k
  · have h1 : i + m < (bl s).length := by rw [bl_len]; omega
    have h2 : j + m < (bl s).length := by rw [bl_len]; omega
    have := h m c
    rw [bt_btL, bt_btL] at this
    unfold btL at this
    rw [List.getElem?_eq_getElem h1, List.getElem?_eq_getElem h2] at this
    rw [List.getElem?_take, List.getElem?_take, if_pos c, if_pos c, List.getElem?_drop, List.getElem?_drop, List.getElem?_eq_getElem h1, List.getElem?_eq_getElem h2]
    congr 1
    apply UInt8.toNat_inj.1
    exact Int.ofNat.inj this
  · rw [List.getElem?_take, List.getElem?_take, if_neg c, if_neg c]
theorem bt_of_sub (s : ByteArray) (k i j : Nat) (hi : i + k ≤ s.size) (hj : j + k ≤ s.size) (h : subAt s k i = subAt s k j) (m : Nat) (hm : m < k) : bt s ((i + m : Nat) : Int) = bt s ((j + m : Nat) : Int) := by
  have h1 : i + m < (bl s).length := by rw [bl_len]; omega
  have h2 : j + m < (bl s).length := by rw [bl_len]; omega
  have e : (bl (subAt s k i))[m]? = (bl (subAt s k j))[m]? := by rw [h]
  rw [bl_sub, bl_sub, List.getElem?_take, List.getElem?_take, if_pos hm, if_pos hm, List.getElem?_drop, List.getElem?_drop] at e
  rw [bt_btL, bt_btL]
  unfold btL
  rw [e]
/-- a factor is one letter, or a copy -/
def factIs (s : ByteArray) (i : Nat) (b : Int × Int) : Prop := b = (-1, 1) ∨ ∃ j, j < i ∧ 0 < ext s j i s.size 0 ∧ b = ((j : Int), (ext s j i s.size 0 : Int))
theorem earlF_is (s : ByteArray) (i : Nat) : ∀ m f b, f + m = i → factIs s i b → factIs s i (earlF s i m f b)
  | 0, _, _, _, h => h
  | m + 1, f, b, hf, h => by
    rw [earlF]
    refine earlF_is s i m (f + 1) _ (by omega) ?_
    unfold pick9
    split
    · rename_i hc
      exact .inr ⟨f, by omega, hc.1, rfl⟩
    · exact h
theorem fact_is (s : ByteArray) (i : Nat) : ((factS s i).f0, (factS s i).f1) = ((-1 : Int), (1 : Int)) ∨ ∃ j, j < i ∧ 0 < ext s j i s.size 0 ∧ (factS s i).f0 = j ∧ (factS s i).f1 = ext s j i s.size 0 := by
  rcases earlF_is s i i 0 (-1, 1) (by omega) (.inl rfl) with h | ⟨j, h1, h2, h3⟩
  · exact .inl h
  · exact .inr ⟨j, h1, h2, congrArg Prod.fst h3, congrArg Prod.snd h3⟩
theorem fact_ok (s : ByteArray) (i : Nat) (hi : i < s.size) : 1 ≤ (factS s i).f1 ∧ (i : Int) + (factS s i).f1 ≤ s.size ∧ -1 ≤ (factS s i).f0 ∧ (factS s i).f0 < i := earl_ok s i hi
theorem fact_max (s : ByteArray) (i j : Nat) (h : j < i) : (ext s j i s.size 0 : Int) ≤ (factS s i).f1 := by
  obtain ⟨_, hm⟩ := earlF_max s i i 0 (-1, 1) (by decide)
  exact hm j (by omega) (by omega)
theorem ext_ge (s : ByteArray) (j i k : Nat) (hi : i + k ≤ s.size) (h : ∀ m, m < k → bt s ((j + m : Nat) : Int) = bt s ((i + m : Nat) : Int)) : k ≤ ext s j i s.size 0 := by
  obtain ⟨_, h2, _, h4⟩ := ext_spec s j i s.size 0 (by omega) (by omega)
  apply Decidable.byContradiction
  intro hn
  rcases h4 with h4 | h4
  · omega
  · exact h4 (h _ (by omega))
/-- where the factors end -/
def endsF (s : ByteArray) : Nat → Nat → List Int
  | 0, _ => []
  | q + 1, i => if i < s.size then ((i : Int) + (factS s i).f1 - 1) :: endsF s q (i + (factS s i).f1.toNat) else []
theorem endsF_stop {s : ByteArray} {q i : Nat} (h : ¬ i < s.size) : endsF s q i = [] := by
  cases q with
  | zero => rfl
  | succ q => rw [endsF, if_neg h]
theorem endsF_len (s : ByteArray) : ∀ q i, (endsF s q i).length = (copF s q i).length
  | 0, _ => rfl
  | q + 1, i => by
    rw [endsF, copF]
    split
    · rw [List.length_cons, List.length_cons, endsF_len s q]
    · rfl
theorem endsF_range (s : ByteArray) : ∀ q i x, x ∈ endsF s q i → (i : Int) ≤ x ∧ x < s.size
  | 0, _, x, h => by simp [endsF] at h
  | q + 1, i, x, h => by
    rw [endsF] at h
    by_cases c : i < s.size
    · rw [if_pos c] at h
      have ok := fact_ok s i c
      rcases List.mem_cons.1 h with rfl | h
      · omega
      · have := endsF_range s q _ x h
        omega
    · rw [if_neg c] at h; simp at h
theorem endsF_sorted (s : ByteArray) : ∀ q i, (endsF s q i).Pairwise (fun x y => x < y)
  | 0, _ => .nil
  | q + 1, i => by
    rw [endsF]
    by_cases c : i < s.size
    · rw [if_pos c]
      have ok := fact_ok s i c
      refine List.pairwise_cons.2 ⟨fun x hx => ?_, endsF_sorted s q _⟩
      have := endsF_range s q _ x hx
      omega
    · rw [if_neg c]; exact .nil
theorem fact_in (s : ByteArray) : ∀ q i j, s.size ≤ i + q → i ≤ j → j < s.size → ∃ a : Nat, a < s.size ∧ a ≤ j ∧ (j : Int) < a + (factS s a).f1 ∧ ((a : Int) + (factS s a).f1 - 1) ∈ endsF s q i
  | 0, i, j, hq, h1, h2 => by omega
  | q + 1, i, j, hq, h1, h2 => by
    have ci : i < s.size := by omega
    have ok := fact_ok s i ci
    rw [endsF, if_pos ci]
    by_cases c : (j : Int) < i + (factS s i).f1
    · exact ⟨i, ci, h1, c, List.mem_cons_self⟩
    · obtain ⟨a, a1, a2, a3, a4⟩ := fact_in s q (i + (factS s i).f1.toNat) j (by omega) (by omega) h2
      exact ⟨a, a1, a2, a3, List.mem_cons_of_mem _ a4⟩
theorem ends_tch (s : ByteArray) : Tch s (endsF s s.size 0) := by
  intro k j hk hj
  induction j using Nat.strongRecOn with
  | _ j ih =>
    obtain ⟨a, a1, a2, a3, a4⟩ := fact_in s s.size 0 j (by omega) (by omega) (by omega)
    have ok := fact_ok s a a1
    by_cases c : (a : Int) + (factS s a).f1 ≤ j + k
    · refine ⟨j, ((a : Int) + (factS s a).f1 - 1).toNat, hj, rfl, ?_, by omega, by omega⟩
      rw [Int.toNat_of_nonneg (by omega)]
      exact a4
    · rcases fact_is s a with h | ⟨f, f1, f2, f3, f4⟩
      · have : (factS s a).f1 = 1 := congrArg Prod.snd h
        omega
      · obtain ⟨_, e2, e3, _⟩ := ext_spec s f a s.size 0 (by omega) (by omega)
        rw [f4] at c a3 ok
        have e : subAt s k (f + (j - a)) = subAt s k j := by
          refine sub_of_bt s k _ _ (by omega) hj (fun m hm => ?_)
          have := e3 (j - a + m) (by omega) (by omega)
          rw [show f + (j - a) + m = f + (j - a + m) by omega, this]
          congr 2
          omega
        obtain ⟨j', p, h1, h2, h3⟩ := ih (f + (j - a)) (by omega) (by omega)
        exact ⟨j', p, h1, h2.trans e, h3⟩

/-! ### at most twice as many -/
theorem extL_known (s : ByteArray) (known : List ByteArray) (i : Nat) : ∀ q n, (n = 1 ∨ subAt s (n - 1) i ∈ known) → (extL s known i q n = 1 ∨ subAt s (extL s known i q n - 1) i ∈ known)
  | 0, n, h => h
  | q + 1, n, h => by
    rw [extL]
    split
    · rename_i hc
      exact extL_known s known i q (n + 1) (.inr (by rw [Nat.add_sub_cancel]; exact memB_iff.1 hc.2))
    · exact h
theorem cop_step (s : ByteArray) (Q p : Nat) : ∃ Q', (copF s Q p).length ≤ 1 + (copF s Q' (p + (factS s p).f1.toNat)).length := by
  cases Q with
  | zero => exact ⟨0, by simp [copF]⟩
  | succ q =>
    refine ⟨q, ?_⟩
    rw [copF]
    split
    · rw [List.length_cons]; omega
    · simp
theorem cop_two (s : ByteArray) (i n : Nat) (h1 : 1 ≤ n) (h2 : i + n ≤ s.size) (hk : n = 1 ∨ ∃ j, j < i ∧ j + (n - 1) ≤ s.size ∧ subAt s (n - 1) j = subAt s (n - 1) i) (p Q : Nat) (hp : i ≤ p) :
    ∃ p' Q', i + n ≤ p' ∧ (copF s Q p).length ≤ 2 + (copF s Q' p').length := by
  by_cases c : i + n ≤ p
  · exact ⟨p, Q, c, by omega⟩
  · have hone : ∀ Q, ∃ p' Q', i + n ≤ p' ∧ (copF s Q (i + n - 1)).length ≤ 1 + (copF s Q' p').length := by
      intro Q
      obtain ⟨Q', h⟩ := cop_step s Q (i + n - 1)
      have ok := fact_ok s (i + n - 1) (by omega)
      exact ⟨_, Q', by omega, h⟩
    by_cases c2 : p = i + n - 1
    · obtain ⟨p', Q', a, b⟩ := hone Q
      rw [← c2] at b
      exact ⟨p', Q', a, by omega⟩
    · obtain ⟨j, j1, j2, j3⟩ := hk.resolve_left (by omega)
      obtain ⟨Q', h⟩ := cop_step s Q p
      have ok := fact_ok s p (by omega)
      have hl : i + n - 1 - p ≤ ext s (j + (p - i)) p s.size 0 := by
        refine ext_ge s _ p _ (by omega) (fun m hm => ?_)
        have := bt_of_sub s (n - 1) j i j2 (by omega) j3 (p - i + m) (by omega)
        rw [show j + (p - i) + m = j + (p - i + m) by omega, this]
        congr 2
        omega
      have hm := fact_max s p (j + (p - i)) (by omega)
      by_cases c3 : i + n ≤ p + (factS s p).f1.toNat
      · exact ⟨_, Q', c3, by omega⟩
      · have e : p + (factS s p).f1.toNat = i + n - 1 := by omega
        rw [e] at h
        obtain ⟨p', Q2, a, b⟩ := hone Q'
        exact ⟨p', Q2, a, by omega⟩
theorem cop_learn (s : ByteArray) : ∀ q i known out p Q, i ≤ p → s.size ≤ i + q → (∀ x, x ∈ known → ∃ j, j < i ∧ j + x.size ≤ s.size ∧ subAt s x.size j = x) → (copF s Q p).length + 2 * out.length ≤ 2 * (learnF s q i known out).length
  | 0, i, known, out, p, Q, hp, hq, hk => by
    rw [copF_stop (by omega), learnF]; simp
  | q + 1, i, known, out, p, Q, hp, hq, hk => by
    rw [learnF]
    by_cases c : i < s.size
    · rw [if_pos c]
      have g1 := extL_ge s known i s.size 1
      have g2 := extL_le s known i s.size 1 (by omega)
      have g3 := extL_known s known i s.size 1 (.inl rfl)
      generalize extL s known i s.size 1 = n at *
      obtain ⟨p', Q', a, b⟩ := cop_two s i n g1 g2 (by
        rcases g3 with g3 | g3
        · exact .inl g3
        · obtain ⟨j, j1, j2, j3⟩ := hk _ g3
          rw [subAt_size s (n - 1) i (by omega)] at j2 j3
          exact .inr ⟨j, j1, j2, j3⟩) p Q hp
      have := cop_learn s q (i + n) (known ++ [subAt s n i]) (out ++ [⟨numK (subAt s (n - 1) i) known 0, (n : Int)⟩]) p' Q' a (by omega) (fun x hx => by
        rcases List.mem_append.1 hx with hx | hx
        · obtain ⟨j, j1, j2, j3⟩ := hk x hx
          exact ⟨j, by omega, j2, j3⟩
        · rw [List.mem_singleton] at hx
          subst hx
          have hz := subAt_size s n i g2
          exact ⟨i, by omega, by omega, by rw [hz]⟩)
      rw [List.length_append, List.length_singleton] at this
      omega
    · rw [if_neg c, copF_stop (by omega)]; simp
theorem cop_twice (s : ByteArray) : (copF s s.size 0).length ≤ 2 * (learnF s s.size 0 [] []).length := by
  have := cop_learn s s.size 0 [] [] 0 s.size (Nat.le_refl _) (by omega) (fun x hx => by simp at hx)
  simpa using this
end Go.Proofs.YtpeeflkodpnbpaaDoor.Pr

/- What Delta's fraction is. -/
namespace Go.Proofs.YtpeeflkodpnbpaaDoor.Pr
open Go.RowKit Go.Proofs.YtpeeflkodpnbpaaDoorW.PrintWords Go.Proofs.YtpeeflkodpnbpaaDoorW.PrintLast Go.Proofs.YtpeeflkodpnbpaaDoorW.PrintMore
set_option linter.unusedVariables false
set_option linter.unusedSimpArgs false

theorem delL_ok (s : ByteArray) : ∀ (m n A : Nat), n + m = s.size + 1 → 1 ≤ n → 1 ≤ A → A ≤ s.size → ∃ B : Nat, delL s m n (cntS s A) A = ((cntS s B : Int), (B : Int)) ∧ 1 ≤ B ∧ B ≤ s.size
  | 0, n, A, hm, hn, h1, h2 => ⟨A, rfl, h1, h2⟩
  | m + 1, n, A, hm, hn, h1, h2 => by
    rw [delL]
    split
    · exact delL_ok s m (n + 1) n (by omega) (by omega) hn (by omega)
    · exact delL_ok s m (n + 1) A (by omega) (by omega) h1 h2
theorem gcdL_dvd : ∀ (q : Nat) (d e : Int), 0 ≤ d → 0 ≤ e → e.toNat + 1 ≤ q → 1 ≤ d + e → gcdL q d e ∣ d ∧ gcdL q d e ∣ e ∧ 1 ≤ gcdL q d e
  | 0, d, e, hd, he, hq, h1 => by omega
  | q + 1, d, e, hd, he, hq, h1 => by
    rw [gcdL]
    by_cases c : e > 0
    · rw [if_pos c]
      have t1 := Int.tmod_nonneg e hd
      have t2 := Int.tmod_lt_of_pos d c
      obtain ⟨a1, a2, a3⟩ := gcdL_dvd q e (Int.tmod d e) he t1 (by omega) (by omega)
      refine ⟨?_, a1, a3⟩
      have := Int.dvd_add (Int.dvd_trans a1 (Int.dvd_mul_right e (d.tdiv e))) a2
      rwa [Int.mul_tdiv_add_tmod] at this
    · rw [if_neg c]
      have : e = 0 := by omega
      subst this
      exact ⟨Int.dvd_refl _, Int.dvd_zero _, by omega⟩
theorem delF_val (s : ByteArray) (hs : s.size ≤ 160) (h1 : 1 ≤ s.size) : ∃ (A : Nat) (g x y : Int), delF s = (x, y, (A : Int), 0) ∧ 1 ≤ A ∧ A ≤ s.size ∧ 1 ≤ g ∧ (cntS s A : Int) = g * x ∧ (A : Int) = g * y ∧ 1 ≤ x ∧ 1 ≤ y ∧ x ≤ 161 ∧ y ≤ 160 := by
  have hpos := cnt_pos s 1 h1
  obtain ⟨m, hm⟩ : ∃ m, s.size = m + 1 := ⟨s.size - 1, by omega⟩
  have e : delL s s.size 1 0 1 = delL s m 2 (cntS s 1) 1 := by
    rw [hm, delL, if_pos (by omega)]; rfl
  obtain ⟨A, hA, h2, h3⟩ := delL_ok s m 2 1 (by omega) (by omega) (Nat.le_refl _) h1
  have hc := cnt_pos s A h3
  have hc2 := cnt_le_pos s A
  obtain ⟨d1, d2, d3⟩ := gcdL_dvd ((A : Int).toNat + 1) (cntS s A) A (by omega) (by omega) (Nat.le_refl _) (by omega)
  unfold delF
  rw [e, show ((1 : Nat) : Int) = 1 from rfl] at *
  rw [hA]
  dsimp only
  generalize gcdL ((A : Int).toNat + 1) (cntS s A) A = g at *
  obtain ⟨x, hx⟩ := d1
  obtain ⟨y, hy⟩ := d2
  have hg : g ≠ 0 := by omega
  have ex : Int.tdiv (cntS s A : Int) g = x := by rw [hx]; exact Int.mul_tdiv_cancel_left x hg
  have ey : Int.tdiv (A : Int) g = y := by rw [hy]; exact Int.mul_tdiv_cancel_left y hg
  have x1 : 1 ≤ x := by
    apply Decidable.byContradiction
    intro hn
    have : g * x ≤ 0 := Int.mul_nonpos_of_nonneg_of_nonpos (by omega) (by omega)
    omega
  have y1 : 1 ≤ y := by
    apply Decidable.byContradiction
    intro hn
    have : g * y ≤ 0 := Int.mul_nonpos_of_nonneg_of_nonpos (by omega) (by omega)
    omega
  have x2 : x ≤ 161 := by
    have : 1 * x ≤ g * x := Int.mul_le_mul_of_nonneg_right d3 (by omega)
    omega
  have y2 : y ≤ 160 := by
    have : 1 * y ≤ g * y := Int.mul_le_mul_of_nonneg_right d3 (by omega)
    omega
  refine ⟨A, g, x, y, ?_, h2, h3, d3, hx, hy, x1, y1, x2, y2⟩
  rw [ex, ey, Go.IntWalk.wrap64_in _ (by omega), Go.IntWalk.wrap64_in _ (by omega)]
/-- a bound on the number of substrings of each length bounds Delta -/
theorem delF_le (s : ByteArray) (hs : s.size ≤ 160) (h1 : 1 ≤ s.size) (m : Nat) (h : ∀ k, 1 ≤ k → cntS s k ≤ m * k) : (delF s).1 ≤ (m : Int) * (delF s).2.1 := by
  obtain ⟨A, g, x, y, e, a1, a2, g1, hx, hy, x1, y1, _, _⟩ := delF_val s hs h1
  rw [e]
  show x ≤ (m : Int) * y
  have := h A a1
  have h2 : (cntS s A : Int) ≤ (m : Int) * A := by exact_mod_cast this
  rw [hx, hy, ← Int.mul_assoc, Int.mul_comm (m : Int) g, Int.mul_assoc] at h2
  exact Int.le_of_mul_le_mul_left h2 (by omega)
end Go.Proofs.YtpeeflkodpnbpaaDoor.Pr

/- Fewest's list: it touches the word, and is the first one of the shortest lists of positions that do. -/
namespace Go.Proofs.YtpeeflkodpnbpaaDoor.Pr
open Go.RowKit Go.Proofs.YtpeeflkodpnbpaaDoorW.PrintWords Go.Proofs.YtpeeflkodpnbpaaDoorW.PrintLast Go.Proofs.YtpeeflkodpnbpaaDoorW.PrintMore
set_option linter.unusedVariables false
set_option linter.unusedSimpArgs false

/-- positions from frm to N - 1, ascending -/
def Asc (N : Nat) : Nat → List Int → Prop
  | _, [] => True
  | frm, x :: r => ∃ a : Nat, x = (a : Int) ∧ frm ≤ a ∧ a < N ∧ Asc N (a + 1) r
def Lx : List Int → List Int → Prop
  | x :: r, y :: r' => x < y ∨ (x = y ∧ Lx r r')
  | _, _ => False
theorem asc_mono {N : Nat} {a b : Nat} (h : a ≤ b) : ∀ {r : List Int}, Asc N b r → Asc N a r
  | [], _ => trivial
  | x :: r, ⟨c, h1, h2, h3, h4⟩ => ⟨c, h1, by omega, h3, h4⟩
theorem asc_len {N : Nat} : ∀ {r : List Int} {a : Nat}, Asc N a r → r = [] ∨ a + r.length ≤ N
  | [], _, _ => .inl rfl
  | x :: r, a, ⟨c, h1, h2, h3, h4⟩ => by
    refine .inr ?_
    rcases asc_len h4 with h | h
    · subst h; simp; omega
    · rw [List.length_cons]; omega
theorem asc_mem {N : Nat} : ∀ {r : List Int} {a : Nat}, Asc N a r → ∀ x, x ∈ r → ∃ c : Nat, x = (c : Int) ∧ a ≤ c ∧ c < N
  | y :: r, a, ⟨c, h1, h2, h3, h4⟩, x, hx => by
    rcases List.mem_cons.1 hx with rfl | hx
    · exact ⟨c, h1, h2, h3⟩
    · obtain ⟨d, d1, d2, d3⟩ := asc_mem h4 x hx
      exact ⟨d, d1, by omega, d3⟩
theorem asc_sorted {N : Nat} : ∀ {r : List Int} {a : Nat}, Asc N a r → r.Pairwise (fun x y => x < y)
  | [], _, _ => .nil
  | x :: r, a, ⟨c, h1, h2, h3, h4⟩ => List.pairwise_cons.2 ⟨fun y hy => by
      obtain ⟨d, d1, d2, d3⟩ := asc_mem h4 y hy
      omega, asc_sorted h4⟩
theorem asc_of {N : Nat} : ∀ {r : List Int} {a : Nat}, r.Pairwise (fun x y => x < y) → (∀ x, x ∈ r → (a : Int) ≤ x ∧ x < N) → Asc N a r
  | [], _, _, _ => trivial
  | x :: r, a, hp, h => by
    have hp2 := List.pairwise_cons.1 hp
    have hx := h x List.mem_cons_self
    refine ⟨x.toNat, by omega, by omega, by omega, asc_of hp2.2 (fun y hy => ?_)⟩
    have h1 := hp2.1 y hy
    have h2 := h y (List.mem_cons_of_mem _ hy)
    omega
def Found (s : ByteArray) (set : List Int) (l frm : Nat) (o : Bool × List Int) : Prop :=
  (o.1 = true → ∃ r, o.2 = set ++ r ∧ r.length = l ∧ Asc s.size frm r ∧ Tch s (set ++ r) ∧ ∀ r', r'.length = l → Asc s.size frm r' → Tch s (set ++ r') → r' = r ∨ Lx r r') ∧
  (o.1 = false → ∀ r', r'.length = l → Asc s.size frm r' → ¬ Tch s (set ++ r'))
theorem extLoop_found (s : ByteArray) (l : Nat) (hrec : ∀ set frm found, Found s set l frm (extF s l set frm found)) : ∀ q set at_ found, s.size ≤ at_ + q → Found s set (l + 1) at_ (extLoop s (extF s l) (l + 1) q set at_ found)
  | 0, set, at_, found, hq => by
    refine ⟨fun h => (by cases h), fun _ r' hl ha => ?_⟩
    cases r' with
    | nil => simp at hl
    | cons x r' => obtain ⟨a, h1, h2, h3, h4⟩ := ha; omega
  | q + 1, set, at_, found, hq => by
    rw [extLoop]
    by_cases c : at_ + (l + 1) ≤ s.size
    · rw [if_pos c]
      have h1 := hrec (set ++ [(at_ : Int)]) (at_ + 1) found
      generalize extF s l (set ++ [(at_ : Int)]) (at_ + 1) found = o at h1
      obtain ⟨b, f⟩ := o
      cases b with
      | true =>
        obtain ⟨r, r1, r2, r3, r4, r5⟩ := h1.1 rfl
        refine ⟨fun _ => ⟨(at_ : Int) :: r, ?_, by rw [List.length_cons, r2], ⟨at_, rfl, Nat.le_refl _, by omega, r3⟩, ?_, fun r' hl ha ht => ?_⟩, fun h => by cases h⟩
        · show f = _
          rw [show f = _ from r1, List.append_assoc]; rfl
        · rw [List.append_assoc] at r4; exact r4
        · cases r' with
          | nil => simp at hl
          | cons x r' =>
            obtain ⟨a, rfl, a2, a3, a4⟩ := ha
            by_cases e : a = at_
            · subst e
              rcases r5 r' (by simpa using hl) a4 (by rw [List.append_assoc]; exact ht) with e | e
              · exact .inl (by rw [e])
              · exact .inr (.inr ⟨rfl, e⟩)
            · exact .inr (.inl (by omega))
      | false =>
        obtain ⟨i1, i2⟩ := extLoop_found s l hrec q set (at_ + 1) f (by omega)
        have key : ∀ r' : List Int, r'.length = l + 1 → Asc s.size at_ r' → Tch s (set ++ r') → Asc s.size (at_ + 1) r' := by
          intro r' hl ha ht
          cases r' with
          | nil => simp at hl
          | cons x r' =>
            obtain ⟨a, rfl, a2, a3, a4⟩ := ha
            by_cases e : a = at_
            · subst e
              exact absurd (by rw [List.append_assoc]; exact ht) (h1.2 rfl r' (by simpa using hl) a4)
            · exact ⟨a, rfl, by omega, a3, a4⟩
        refine ⟨fun h => ?_, fun h r' hl ha ht => i2 h r' hl (key r' hl ha ht) ht⟩
        obtain ⟨r, r1, r2, r3, r4, r5⟩ := i1 h
        exact ⟨r, r1, r2, asc_mono (by omega) r3, r4, fun r' hl ha ht => r5 r' hl (key r' hl ha ht) ht⟩
    · rw [if_neg c]
      refine ⟨fun h => (by cases h), fun _ r' hl ha => ?_⟩
      rcases asc_len ha with e | e
      · subst e; simp at hl
      · omega
theorem extF_found (s : ByteArray) : ∀ l set frm found, Found s set l frm (extF s l set frm found)
  | 0, set, frm, found => by
    rw [extF]
    refine ⟨fun h => ⟨[], by simp, rfl, trivial, ?_, fun r' hl _ _ => .inl (List.length_eq_zero_iff.1 hl)⟩, fun h r' hl _ ht => ?_⟩
    · have h2 : (untF s set s.size 1).2 = false := by simpa using h
      rw [List.append_nil]
      exact (unt_tch s set).1 h2
    · have h2 : (untF s set s.size 1).2 = true := by simpa using h
      rw [List.length_eq_zero_iff.1 hl, List.append_nil, ← unt_tch, h2] at ht
      cases ht
  | l + 1, set, frm, found => by
    rw [extF]
    exact extLoop_found s l (extF_found s l) (s.size + 1) set frm found (by omega)
/-- all positions -/
def allP (N : Nat) : Nat → List Int
  | 0 => []
  | k + 1 => ((N - (k + 1) : Nat) : Int) :: allP N k
theorem allP_len (N : Nat) : ∀ k, (allP N k).length = k
  | 0 => rfl
  | k + 1 => by rw [allP, List.length_cons, allP_len N k]
theorem allP_asc (N : Nat) : ∀ k, k ≤ N → Asc N (N - k) (allP N k)
  | 0, _ => trivial
  | k + 1, h => ⟨N - (k + 1), rfl, Nat.le_refl _, by omega, by
      have := allP_asc N k (by omega)
      rwa [show N - (k + 1) + 1 = N - k by omega]⟩
theorem mem_allP (N : Nat) : ∀ k p, N - k ≤ p → p < N → k ≤ N → (p : Int) ∈ allP N k
  | 0, p, h1, h2, _ => by omega
  | k + 1, p, h1, h2, h3 => by
    rw [allP]
    by_cases e : p = N - (k + 1)
    · rw [e]; exact List.mem_cons_self
    · exact List.mem_cons_of_mem _ (mem_allP N k p (by omega) h2 (by omega))
theorem all_tch (s : ByteArray) : Tch s (allP s.size s.size) := fun k j hk hj => ⟨j, j, hj, rfl, mem_allP _ _ _ (by omega) (by omega) (Nat.le_refl _), Nat.le_refl _, by omega⟩
/-- the first one of the shortest lists -/
def IsFew (s : ByteArray) (f : List Int) : Prop := Tch s f ∧ Asc s.size 0 f ∧ ∀ r, Asc s.size 0 r → Tch s r → f.length < r.length ∨ (f.length = r.length ∧ (r = f ∨ Lx f r))
theorem fewL_is (s : ByteArray) : ∀ q many found, many + q = s.size + 1 → (∀ r, r.length < many → Asc s.size 0 r → ¬ Tch s r) → IsFew s (fewL s q many found)
  | 0, many, found, hq, h => by
    exact absurd (all_tch s) (h _ (by rw [allP_len]; omega) (by have := allP_asc s.size s.size (Nat.le_refl _); rwa [Nat.sub_self] at this))
  | q + 1, many, found, hq, h => by
    rw [fewL]
    have h1 := extF_found s many [] 0 found
    generalize extF s many [] 0 found = o at h1
    obtain ⟨b, f⟩ := o
    cases b with
    | true =>
      obtain ⟨r, r1, r2, r3, r4, r5⟩ := h1.1 rfl
      have e : f = r := r1
      subst e
      refine ⟨r4, r3, fun r' ha ht => ?_⟩
      by_cases c : r'.length < many
      · exact absurd ht (h r' c ha)
      · by_cases c2 : r'.length = many
        · exact .inr ⟨by rw [r2, c2], r5 r' c2 ha ht⟩
        · exact .inl (by rw [r2]; omega)
    | false =>
      exact fewL_is s q (many + 1) f (by omega) (fun r hl ha => by
        by_cases c : r.length < many
        · exact h r c ha
        · exact h1.2 rfl r (by omega) ha)
theorem few_is (s : ByteArray) : IsFew s (fewL s (s.size + 1) 0 []) := fewL_is s (s.size + 1) 0 [] (by omega) (fun r h => by omega)
end Go.Proofs.YtpeeflkodpnbpaaDoor.Pr

/- tame(s, most) is a word of at most that many letters. -/
namespace Go.Proofs.YtpeeflkodpnbpaaDoor.Pr
open Go.RowKit Go.Proofs.YtpeeflkodpnbpaaDoorW.PrintWords Go.Proofs.YtpeeflkodpnbpaaDoorW.PrintLast Go.Proofs.YtpeeflkodpnbpaaDoorW.PrintMore
set_option linter.unusedVariables false
set_option linter.unusedSimpArgs false

theorem ok_nums (l : List Int) (h : ∀ x, x ∈ l → 97 ≤ x ∧ x ≤ 100) : ∀ i, i < (strOfNums l).size → okAt (strOfNums l) i := by
  intro i hi
  rw [strOfNums_size] at hi
  have e : (strOfNums l).get! i = UInt8.ofNat (l[i]).toNat := by
    have : ((strOfNums l).data[i]?) = some (UInt8.ofNat (l[i]).toNat) := by
      rw [← Array.getElem?_toList, strOfNums_data]
      simp [hi]
    show (strOfNums l).data[i]! = _
    rw [getElem!_def, this]
  have := h _ (List.getElem_mem hi)
  unfold okAt
  rw [e]
  have e2 : (UInt8.ofNat (l[i]).toNat).toNat = (l[i]).toNat := by
    rw [UInt8.toNat_ofNat']
    omega
  rw [e2]
  omega
theorem tame_l0 (a0 : ByteArray) (hz : a0.size ≤ 140737488351232) (most : Nat) (hm : most ≤ 1000) : ∀ (q i : Nat) (l : List Int), i + q = most → i ≤ a0.size → l.length = i → (∀ x, x ∈ l → 97 ≤ x ∧ x ≤ 100) →
    ∃ s, s.size ≤ most ∧ (∀ i, i < s.size → okAt s i) ∧ Evt (fun k => numnahlaw09_tame.l0 k a0 (most : Int) l (i : Int)) s
  | 0, i, l, hi, hi2, hl, h => by
    refine ⟨strOfNums l, by rw [strOfNums_size]; omega, ok_nums l h, Evt.now fun k => ?_⟩
    rw [numnahlaw09_tame.l0]
    by_cases c : (i : Int) < (a0.size : Int)
    · rw [if_pos c, if_neg (by omega)]
    · rw [if_neg c]
  | q + 1, i, l, hi, hi2, hl, h => by
    by_cases c : i < a0.size
    · have hr := bt_range a0 (i : Int)
      obtain ⟨s, h1, h2, h3⟩ := tame_l0 a0 hz most hm q (i + 1) (l ++ [(97 + (Int.tmod (bt a0 (i : Int)) 4)) % 256]) (by omega) (by omega) (by rw [List.length_append, hl]; rfl) (fun x hx => by
        rcases List.mem_append.1 hx with hx | hx
        · exact h x hx
        · rw [List.mem_singleton] at hx
          rw [hx, Int.tmod_eq_emod_of_nonneg hr.1]
          omega)
      refine ⟨s, h1, h2, Evt.step (fun k => ?_) h3⟩
      rw [numnahlaw09_tame.l0, if_pos (by omega), if_pos (by omega), if_pos (by omega), if_pos (by omega), wr (by omega) (by omega)]
      rfl
    · refine ⟨strOfNums l, by rw [strOfNums_size]; omega, ok_nums l h, Evt.now fun k => ?_⟩
      rw [numnahlaw09_tame.l0, if_neg (by omega)]
theorem tame_ev (a0 : ByteArray) (hz : a0.size ≤ 140737488351232) (most : Nat) (hm : most ≤ 160) : ∃ s, s.size ≤ most ∧ isWordC s = true ∧ Evt (fun k => numnahlaw09_tame.f k a0 (most : Int)) s := by
  obtain ⟨s, h1, h2, h3⟩ := tame_l0 a0 hz most (by omega) most 0 [] (by omega) (by omega) rfl (by simp)
  exact ⟨s, h1, (isWordC_iff s).2 ⟨by omega, h2⟩, h3⟩
theorem mod_some (x : Int) (n : Nat) (h1 : 1 ≤ n) (h2 : n ≤ 1000000) : ∃ r : Nat, r < n ∧ numnahlaw09_mod.f x (n : Int) = some (r : Int) := by
  have e : IntKind.u64.wrap (n : Int) = n := wu (by omega) (by omega)
  have h0 : 0 ≤ IntKind.u64.wrap x := by
    simp only [IntKind.wrap, IntKind.bits, IntKind.signed]
    simp
    omega
  refine ⟨(IntKind.u64.wrap x % n).toNat, ?_, ?_⟩
  · have := Int.emod_lt_of_pos (IntKind.u64.wrap x) (show (0 : Int) < n by omega)
    have := Int.emod_nonneg (IntKind.u64.wrap x) (show (n : Int) ≠ 0 by omega)
    omega
  · have := Int.emod_lt_of_pos (IntKind.u64.wrap x) (show (0 : Int) < n by omega)
    have h3 := Int.emod_nonneg (IntKind.u64.wrap x) (show (n : Int) ≠ 0 by omega)
    rw [numnahlaw09_mod.f, e, if_neg (by omega), Int.tmod_eq_emod_of_nonneg h0, wr (by omega) (by omega), Int.toNat_of_nonneg h3]
end Go.Proofs.YtpeeflkodpnbpaaDoor.Pr

/- The law's comparison of two lists. -/
namespace Go.Proofs.YtpeeflkodpnbpaaDoor.Pr
open Go.RowKit Go.Proofs.YtpeeflkodpnbpaaDoorW.PrintWords Go.Proofs.YtpeeflkodpnbpaaDoorW.PrintLast Go.Proofs.YtpeeflkodpnbpaaDoorW.PrintMore
set_option linter.unusedVariables false
set_option linter.unusedSimpArgs false

theorem ints_same (l : List Int) (hl : l.length ≤ 1000) : Evt (fun k => numnahlaw09_ints.f k l l) true := by
  have : ∀ (m i : Nat), i + m = l.length → Evt (fun k => numnahlaw09_ints.l0 k l l (i : Int)) true := by
    intro m
    induction m with
    | zero =>
      intro i hi
      refine Evt.now fun k => ?_
      rw [numnahlaw09_ints.l0, if_neg (by omega)]
    | succ m ih =>
      intro i hi
      have w2 : Aside0 (wrap64 ((i : Int) + 1) = ((i + 1 : Nat) : Int)) := ⟨(wr (by omega) (by omega)).trans (by omega)⟩
      refine Evt.step (fun k => ?_) (ih (i + 1) (by omega))
      rw [numnahlaw09_ints.l0, if_pos (by omega), if_pos (by omega), if_pos (by omega), if_pos rfl, w2.out]
  unfold numnahlaw09_ints.f
  exact Evt.pos rfl (this l.length 0 (by omega))
theorem empty_toList {s : ByteArray} (h : s.size = 0) : s.toList = [] := by
  rw [ByteArray.toList_eq]
  exact List.length_eq_zero_iff.1 (by have h2 : s.data.toList.length = s.size := Array.length_toList; omega)
theorem nonempty_toList {s : ByteArray} (hz : ¬ s.size = 0) : ¬ s.toList = [] := by
  intro h
  rw [ByteArray.toList_eq] at h
  have h2 : s.data.toList.length = s.size := Array.length_toList
  rw [h] at h2
  simp at h2
  omega
end Go.Proofs.YtpeeflkodpnbpaaDoor.Pr

/- awake() answers true. -/
namespace Go.Proofs.YtpeeflkodpnbpaaDoor.Pr
open Go.RowKit Go.Proofs.YtpeeflkodpnbpaaDoorW.PrintWords Go.Proofs.YtpeeflkodpnbpaaDoorW.PrintLast Go.Proofs.YtpeeflkodpnbpaaDoorW.PrintMore
set_option linter.unusedVariables false
set_option maxRecDepth 1000000 in
theorem awake_run : numnahlaw09_awake.f 200 = some true := by kernel_rfl
theorem awake_ev : Evt (fun k => numnahlaw09_awake.f k) true := ⟨200, fun k hk => at_rounds (fun k => numnahlaw09_awake.mono k) hk awake_run⟩
theorem awake_bind : Evt (fun k => (numnahlaw09_awake.f k).bind fun t => some t) true := Evt.congr awake_ev (fun k => by cases numnahlaw09_awake.f k <;> rfl)
/-- short(s): at most 161 bytes -/
def shortS (s : ByteArray) : ByteArray := s.extract 0 (min s.size 161)
theorem shortS_size (s : ByteArray) : (shortS s).size ≤ 161 := by unfold shortS; rw [ByteArray.size_extract]; omega
theorem short_some (s : ByteArray) : numnahlaw09_short.f s = some (shortS s) := by
  unfold numnahlaw09_short.f mn
  by_cases h : (161 : Int) < (s.size : Int)
  · rw [if_pos h, if_pos (by omega), if_pos (by omega)]
    congr 1
    unfold shortS
    congr 1
    omega
  · rw [if_neg h, if_pos (by omega), if_pos (by omega)]
    congr 1
    unfold shortS
    congr 1
    omega
end Go.Proofs.YtpeeflkodpnbpaaDoor.Pr

namespace Go.Proofs.YtpeeflkodpnbpaaDoor.Pure
open Go.RowKit Go.Proofs.YtpeeflkodpnbpaaDoor.Pr Go.Proofs.YtpeeflkodpnbpaaDoorW.PrintWords Go.Proofs.YtpeeflkodpnbpaaDoorW.PrintLast
set_option linter.unusedVariables false
set_option linter.unusedSimpArgs false

theorem mnmx (x n : Int) (h1 : 1 ≤ x) (h2 : x ≤ n) : mn (mx x 1) n = x := by unfold mn mx; split <;> split <;> omega
theorem copF_len (s : ByteArray) : ∀ q i, (copF s q i).length ≤ q
  | 0, _ => by simp [copF]
  | q + 1, i => by
    rw [copF]
    split
    · rw [List.length_cons]; have := copF_len s q (i + (factS s i).f1.toNat); omega
    · simp
theorem rd_cop (pre : List S63) (x : S63) (l : List S63) (c : Nat) (hc : c = pre.length) : rd_T63 (pre ++ x :: l) (c : Int) = x := by
  subst hc
  simp [rd_T63]
theorem learnF_len (s : ByteArray) : ∀ q i known out, (learnF s q i known out).length ≤ out.length + q
  | 0, i, known, out => by simp [learnF]
  | q + 1, i, known, out => by
    rw [learnF]
    split
    · refine Nat.le_trans (learnF_len s q _ _ _) ?_
      rw [List.length_append, List.length_singleton]; omega
    · omega
/-- the law's loop lists the ends -/
theorem ends_l0 (s : ByteArray) (hs : s.size ≤ 160) (a1 : Int) (few : List Int) (x y : Int) (all : List S63) (E : List Int) (hall : all.length ≤ 160) (fin : Evt (fun k => numnahlaw09_ParseFew.l1 k a1 s few E ([] : List Int) 0 x y) true) : ∀ (q i : Nat) (pre : List S63) (es : List Int), i ≤ s.size → pre ++ copF s q i = all → es ++ endsF s q i = E → es.length = pre.length →
    (s.size ≤ i + q) → Evt (fun k => numnahlaw09_ParseFew.l0 k a1 s all few es (i : Int) (pre.length : Int) x y) true := by
  have stop : Evt (fun k => numnahlaw09_ParseFew.l0 k a1 s all few E (s.size : Int) (all.length : Int) x y) true := by
    refine Evt.step (fun k => ?_) fin
    rw [numnahlaw09_ParseFew.l0, if_neg (by omega)]
  intro q
  induction q with
  | zero =>
    intro i pre es hi h1 h2 h3 hq
    rw [copF, List.append_nil] at h1
    rw [endsF, List.append_nil] at h2
    subst h1
    subst h2
    rw [show (i : Int) = (s.size : Int) by omega]
    exact stop
  | succ q ih =>
    intro i pre es hi h1 h2 h3 hq
    by_cases c : i < s.size
    · rw [copF, if_pos c] at h1
      rw [endsF, if_pos c] at h2
      have ok := fact_ok s i c
      have hlt : pre.length < all.length := by rw [← h1]; simp
      have hrd : rd_T63 all (pre.length : Int) = factS s i := by rw [← h1]; exact rd_cop _ _ _ _ rfl
      have hm := mnmx (factS s i).f1 s.size ok.1 (by omega)
      have w1 : Aside0 (wrap64 ((i : Int) + (factS s i).f1) = ((i + (factS s i).f1.toNat : Nat) : Int)) := ⟨(wr (by omega) (by omega)).trans (by omega)⟩
      have w2 : Aside0 (wrap64 (((i + (factS s i).f1.toNat : Nat) : Int) - 1) = (i : Int) + (factS s i).f1 - 1) := ⟨(wr (by omega) (by omega)).trans (by omega)⟩
      have w3 : Aside0 (wrap64 ((pre.length : Int) + 1) = ((pre ++ [factS s i]).length : Int)) := ⟨by rw [List.length_append, List.length_singleton]; exact (wr (by omega) (by omega)).trans (by omega)⟩
      have ih2 := ih (i + (factS s i).f1.toNat) (pre ++ [factS s i]) (es ++ [(i : Int) + (factS s i).f1 - 1]) (by omega) (by rw [List.append_assoc]; exact h1) (by rw [List.append_assoc]; exact h2) (by simp [h3]) (by omega)
      refine Evt.step (fun k => ?_) ih2
      rw [numnahlaw09_ParseFew.l0, if_pos (by omega), if_pos (by omega), if_pos (by omega), hrd, hm, w1.out, w2.out, w3.out]
    · rw [copF_stop c, List.append_nil] at h1
      rw [endsF_stop c, List.append_nil] at h2
      subst h1
      subst h2
      rw [show (i : Int) = (s.size : Int) by omega]
      exact stop
theorem some_l1 (s : ByteArray) (hs : s.size ≤ 160) (a1 : Int) (few E : List Int) (x y : Int) (fin : ∀ l : List Int, l.Pairwise (fun x y => x < y) → (∀ z, z ∈ l → 0 ≤ z ∧ z < s.size) → l.length ≤ s.size → Evt (fun k => numnahlaw09_ParseFew.l1 k a1 s few E l (s.size : Int) x y) true) :
    ∀ (m i : Nat) (l : List Int), i + m = s.size → l.Pairwise (fun x y => x < y) → (∀ z, z ∈ l → 0 ≤ z ∧ z < i) → l.length ≤ i → Evt (fun k => numnahlaw09_ParseFew.l1 k a1 s few E l (i : Int) x y) true
  | 0, i, l, hi, h1, h2, h3 => by
    obtain rfl : i = s.size := by omega
    exact fin l h1 h2 h3
  | m + 1, i, l, hi, h1, h2, h3 => by
    obtain ⟨r, hr, hm⟩ := mod_some a1 16384 (by omega) (by omega)
    have hm' : numnahlaw09_mod.f a1 16384 = some (r : Int) := hm
    have w1 : Aside0 (wrap64 ((i : Int) + 1) = ((i + 1 : Nat) : Int)) := ⟨(wr (by omega) (by omega)).trans (by omega)⟩
    by_cases c : Int.tmod (shr .i64 (r : Int) (i : Int)) 2 = 1
    · refine Evt.step (fun k => ?_) (some_l1 s hs a1 few E x y fin m (i + 1) (l ++ [(i : Int)]) (by omega) (List.pairwise_append.2 ⟨h1, List.pairwise_singleton _ _, fun a ha b hb => by rw [List.mem_singleton] at hb; have := h2 a ha; omega⟩) (fun z hz => by
        rcases List.mem_append.1 hz with hz | hz
        · have := h2 z hz; omega
        · rw [List.mem_singleton] at hz; omega) (by rw [List.length_append, List.length_singleton]; omega))
      rw [numnahlaw09_ParseFew.l1, if_pos (by omega), hm', Option.bind_some, if_pos (by omega), if_pos c, if_pos (by omega), w1.out]
    · refine Evt.step (fun k => ?_) (some_l1 s hs a1 few E x y fin m (i + 1) l (by omega) h1 (fun z hz => by have := h2 z hz; omega) (by omega))
      rw [numnahlaw09_ParseFew.l1, if_pos (by omega), hm', Option.bind_some, if_pos (by omega), if_neg c, w1.out]
theorem least_le (x y : Int) (n : Nat) (x1 : 1 ≤ x) (y1 : 1 ≤ y) (x2 : x ≤ 161) (y2 : y ≤ 160) (h : x ≤ (n : Int) * y) : ¬ (n : Int) < wrap64 (Int.tdiv (wrap64 (wrap64 (x + y) - 1)) y) := by
  have w1 : wrap64 (x + y) = x + y := wr (by omega) (by omega)
  have w2 : wrap64 (x + y - 1) = x + y - 1 := wr (by omega) (by omega)
  rw [w1, w2, Int.tdiv_eq_ediv_of_nonneg (by omega)]
  have h1 : (x + y - 1) / y < (n : Int) + 1 := Int.ediv_lt_of_lt_mul (by omega) (by rw [Int.add_mul]; omega)
  have h2 : 0 ≤ (x + y - 1) / y := Int.ediv_nonneg (by omega) (by omega)
  have h3 : (x + y - 1) / y ≤ x + y - 1 := Int.ediv_le_self _ (by omega)
  rw [wr (by omega) (by omega)]
  omega
theorem ParseFew : numnahlaw09_ParseFew.Pure := by
  intro a0 a1 h0
  intros
  apply Evt.ex
  obtain ⟨s, hs, hw, ht⟩ := tame_ev a0 h0 14 (by omega)
  show Evt (fun k => numnahlaw09_ParseFew.f k a0 a1) true
  unfold numnahlaw09_ParseFew.f
  refine Evt.bind ht ?_
  by_cases hz : s.size = 0
  · exact Evt.pos (empty_toList hz) awake_bind
  · have e1 : parse_Copying.f s = some (copF s s.size 0, 0) := by rw [parse_Copying.f, if_pos hw]
    have e3 : parse_Learning.f s = some (learnF s s.size 0 [] [], 0) := by
      rw [parse_Learning.f, parse_isWord.f, hw, Option.bind_some, if_pos rfl, parse_learn.f, if_pos (by omega)]; rfl
    have e2 : parse_Delta.f s = some (delF s) := by rw [parse_Delta.f, hw, if_pos rfl, if_neg hz]
    have e4 : parse_Fewest.f s = some (fewL s (s.size + 1) 0 [], 0) := by rw [parse_Fewest.f, hw, if_pos rfl, if_neg (by omega)]
    have hfew := few_is s
    generalize fewL s (s.size + 1) 0 [] = F at *
    have hcl := copF_len s s.size 0
    have hel := endsF_len s s.size 0
    have hT := ends_tch s
    have hle := delF_le s (by omega) (by omega) F.length (fun k hk => tch_cnt s _ hfew.1 k hk)
    obtain ⟨A, g, x, y, ed, _, _, _, _, _, x1, y1, x2, y2⟩ := delF_val s (by omega) (by omega)
    have htw := cop_twice s
    have hll := learnF_len s s.size 0 [] []
    simp only [List.length_nil] at hll
    rw [ed] at hle e2
    dsimp only at hle
    have cneg : decide (((copF s s.size 0).length : Int) > wrap64 (2 * ((learnF s s.size 0 [] []).length : Int))) = false := by
      rw [wr (by omega) (by omega)]
      exact decide_eq_false (by omega)
    have hFl : F.length ≤ s.size := by
      rcases asc_len hfew.2.1 with h | h
      · rw [h]; simp
      · omega
    refine Evt.neg (nonempty_toList hz) (Evt.bind (Evt.all (fun _ => e1)) (Evt.bind (Evt.all (fun _ => e3)) (Evt.bind (Evt.all (fun _ => e2)) (Evt.bind (Evt.all (fun _ => e4)) ?_))))
    refine Evt.pos rfl (Evt.pos rfl (Evt.pos rfl (Evt.pos rfl (Evt.neg (by dsimp only; omega) (Evt.neg (by dsimp only; omega) (Evt.neg (by dsimp only; omega) (Evt.neg (by dsimp only; omega) ?_)))))))
    dsimp only
    rw [cneg]
    refine Evt.step (g' := fun k => numnahlaw09_ParseFew.l0 k a1 s (copF s s.size 0) F ([] : List Int) 0 0 x y) (fun k => by rw [numnahlaw09_ParseFew.j0, if_neg (by decide)]) ?_
    have tE := touches_ev s hw (endsF s s.size 0) (by omega) (posAt_of s _ (endsF_sorted s _ _) (fun x hx => by have := endsF_range s _ _ x hx; omega))
    have bE := (tchR_tch s _).2 hT
    have tF := touches_ev s hw F (by omega) (posAt_of s _ (asc_sorted hfew.2.1) (fun x hx => by obtain ⟨c, c1, c2, c3⟩ := asc_mem hfew.2.1 x hx; omega))
    have bF := (tchR_tch s _).2 hfew.1
    have hEF : F.length ≤ (endsF s s.size 0).length := by
      rcases hfew.2.2 (endsF s s.size 0) (asc_of (endsF_sorted s _ _) (fun x hx => by have := endsF_range s _ _ x hx; omega)) hT with h | h <;> omega
    have hleast := least_le x y F.length x1 y1 x2 y2 hle
    refine ends_l0 s (by omega) a1 F x y (copF s s.size 0) (endsF s s.size 0) (by omega) ?_ s.size 0 [] [] (by omega) rfl rfl rfl (by omega)
    refine some_l1 s (by omega) a1 F (endsF s s.size 0) x y ?_ s.size 0 [] (by omega) .nil (by simp) (by simp)
    intro l l1 l2 l3
    have tL := touches_ev s hw l (by omega) (posAt_of s _ l1 l2)
    refine Evt.succ ?_
    simp only [numnahlaw09_ParseFew.l1, Int.lt_irrefl, if_false, if_neg (show ¬ y = 0 by omega)]
    refine Evt.bind tE (Evt.bind tF (Evt.bind tL ?_))
    refine Evt.pos rfl (Evt.pos bE (Evt.pos rfl (Evt.pos bF (Evt.pos rfl (Evt.neg hleast (Evt.neg (by omega) ?_))))))
    cases hb : (tchR s l).2.1 with
    | false => exact Evt.neg (by decide) awake_bind
    | true =>
      have hl := hfew.2.2 l (asc_of l1 (fun x hx => by have := l2 x hx; omega)) ((tchR_tch s l).1 hb)
      exact Evt.pos rfl (Evt.pos (by rcases hl with h | h <;> omega) awake_bind)
end Go.Proofs.YtpeeflkodpnbpaaDoor.Pure
