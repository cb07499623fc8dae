/- ParseReads, plainly: Read tells the word of a plan, Unlearn the word whose learning parse has the factors, or the error. -/
import Derived.Test.YtpeeflkodpnbpaaDoorHRead
import Derived.Test.YtpeeflkodpnbpaaDoorPrA19
import Derived.Test.YtpeeflkodpnbpaaDoorHAre
import Derived.Test.YtpeeflkodpnbpaaDoorPrA1
import Derived.Test.YtpeeflkodpnbpaaDoorPrA24
import Derived.Test.YtpeeflkodpnbpaaDoorHWord
import Derived.Test.YtpeeflkodpnbpaaDoorHSub
import Derived.Test.YtpeeflkodpnbpaaDoorPrA30
import Derived.Test.YtpeeflkodpnbpaaDoorPrA9
import Derived.Test.YtpeeflkodpnbpaaDoorHCopy
import Derived.Test.YtpeeflkodpnbpaaDoorHLearn
import Derived.Test.YtpeeflkodpnbpaaDoorHKeys
import Derived.Test.YtpeeflkodpnbpaaDoorHSubs
import Derived.Test.YtpeeflkodpnbpaaDoorPrB24
import Derived.Test.YtpeeflkodpnbpaaDoorPrA20
import Derived.Test.YtpeeflkodpnbpaaDoorPrB19
import Derived.Test.YtpeeflkodpnbpaaDoorDefParseReads
/- The reference of Read, plainly. -/
namespace Go.Proofs.YtpeeflkodpnbpaaDoor.Pr
open Go.RowKit Go.Proofs.YtpeeflkodpnbpaaDoorW.PrintWords Go.Proofs.YtpeeflkodpnbpaaDoorW.PrintLast Go.Proofs.YtpeeflkodpnbpaaDoorW.PrintMore
set_option linter.unusedVariables false
set_option linter.unusedSimpArgs false

theorem rea_l1 (all : List S63) (lt : ByteArray) (i u n f : Nat) (x0 : Nat) (hn : x0 + n ≤ 160) (hf : f < x0) (hi : i ≤ 1000) (r : ByteArray × Bool) : ∀ (q k0 : Nat) (out : List Int), k0 + q = n → out.length = x0 + k0 →
    Evt (fun k => numnahref09_Read.l0 k all lt (spkC q out (f : Int) k0) (u : Int) ((i + 1 : Nat) : Int)) r → Evt (fun k => numnahref09_Read.l1 k all lt out (u : Int) (i : Int) (k0 : Int) (f : Int) (n : Int)) r
  | 0, k0, out, hk, ho, h => by
    have w1 : Aside0 (wrap64 ((i : Int) + 1) = ((i + 1 : Nat) : Int)) := ⟨(wr (by omega) (by omega)).trans (by omega)⟩
    rw [spkC] at h
    refine Evt.step (fun k => ?_) h
    rw [numnahref09_Read.l1, if_neg (by omega), w1.out]
  | q + 1, k0, out, hk, ho, h => by
    rw [spkC] at h
    have w1 : Aside0 (wrap64 ((f : Int) + (k0 : Int)) = (f : Int) + (k0 : Int)) := ⟨wr (by omega) (by omega)⟩
    have w2 : Aside0 (wrap64 ((k0 : Int) + 1) = ((k0 + 1 : Nat) : Int)) := ⟨(wr (by omega) (by omega)).trans (by omega)⟩
    refine Evt.step (fun k => ?_) (rea_l1 all lt i u n f x0 hn hf hi r q (k0 + 1) (out ++ [rd out ((f : Int) + (k0 : Int))]) (by omega) (by rw [List.length_append, List.length_singleton]; omega) h)
    rw [numnahref09_Read.l1, if_pos (by omega), w1.out, if_pos (by omega), if_pos (by omega), if_pos (by omega), w2.out]
def reaR (lt : ByteArray) (l : List S63) (out : List Int) (u : Nat) : ByteArray × Bool := if okP l out.length ∧ u + sgl l ≤ lt.size then (strOfNums (spk lt l out u).1, decide (u + sgl l = lt.size)) else ((⟨#[]⟩ : ByteArray), false)
theorem rea_l0 (all : List S63) (hall : all.length ≤ 1000) (lt : ByteArray) (hlt : lt.size ≤ 1000) : ∀ (l : List S63) (i u : Nat) (out : List Int), all.drop i = l → out.length ≤ 160 → u ≤ lt.size → Evt (fun k => numnahref09_Read.l0 k all lt out (u : Int) (i : Int)) (reaR lt l out u)
  | [], i, u, out, hi, ho, hu => by
    have : all.length ≤ i := List.drop_eq_nil_iff.1 hi
    refine Evt.now fun k => ?_
    rw [numnahref09_Read.l0, if_neg (by omega)]
    unfold reaR
    rw [if_pos ⟨trivial, by rw [sgl]; omega⟩, spk, sgl, Nat.add_zero]
    congr 2
    by_cases c : u = lt.size
    · rw [decide_eq_true c]; exact beq_iff_eq.2 (by omega)
    · rw [decide_eq_false c]; exact beq_eq_false_iff_ne.2 (by omega)
  | x :: l, i, u, out, hi, ho, hu => by
    have hli : i < all.length := by
      apply Decidable.byContradiction
      intro hn
      rw [List.drop_eq_nil_of_le (by omega)] at hi
      cases hi
    have hd := List.drop_eq_getElem_cons hli
    rw [hi] at hd
    injection hd with h1 h2
    have e : rd_T63 all (i : Int) = x := by rw [h1]; simp [rd_T63, hli]
    have w1 : Aside0 (wrap64 (160 - (out.length : Int)) = 160 - (out.length : Int)) := ⟨wr (by omega) (by omega)⟩
    have w2 : Aside0 (wrap64 ((i : Int) + 1) = ((i + 1 : Nat) : Int)) := ⟨(wr (by omega) (by omega)).trans (by omega)⟩
    have w3 : Aside0 (wrap64 ((u : Int) + 1) = ((u + 1 : Nat) : Int)) := ⟨(wr (by omega) (by omega)).trans (by omega)⟩
    have bad : ¬ (okP (x :: l) out.length ∧ u + sgl (x :: l) ≤ lt.size) → Evt (fun k => numnahref09_Read.j1 k all lt out (u : Int) (i : Int) true x.f0 x.f1) (reaR lt (x :: l) out u) := by
      intro hn
      unfold reaR
      rw [if_neg hn]
      refine Evt.now fun k => ?_
      rw [numnahref09_Read.j1, if_pos rfl]
    have one : ∀ k, numnahref09_Read.l0 (k + 1) all lt out (u : Int) (i : Int) = (if x.f1 < 1 then (numnahref09_Read.j1 k all lt out (u : Int) (i : Int) true x.f0 x.f1) else (if x.f1 > 160 - (out.length : Int) then (numnahref09_Read.j1 k all lt out (u : Int) (i : Int) true x.f0 x.f1) else (if x.f0 < (-1) then (numnahref09_Read.j1 k all lt out (u : Int) (i : Int) true x.f0 x.f1) else (if x.f0 ≥ (out.length : Int) then (numnahref09_Read.j1 k all lt out (u : Int) (i : Int) true x.f0 x.f1) else (if x.f0 = (-1) then (if x.f1 = 1 then (numnahref09_Read.j1 k all lt out (u : Int) (i : Int) (decide ((u : Int) ≥ (lt.size : Int))) x.f0 x.f1) else (numnahref09_Read.j1 k all lt out (u : Int) (i : Int) true x.f0 x.f1)) else (numnahref09_Read.j1 k all lt out (u : Int) (i : Int) false x.f0 x.f1)))))) := by
      intro k
      rw [numnahref09_Read.l0, if_pos (by omega), if_pos (by omega), e, w1.out]
    by_cases c1 : x.f1 < 1
    · exact Evt.step (fun k => by rw [one, if_pos c1]) (bad (by rw [okP]; exact fun h => by omega))
    · by_cases c2 : x.f1 > 160 - (out.length : Int)
      · exact Evt.step (fun k => by rw [one, if_neg c1, if_pos c2]) (bad (by rw [okP]; exact fun h => by omega))
      · by_cases c3 : x.f0 < -1
        · exact Evt.step (fun k => by rw [one, if_neg c1, if_neg c2, if_pos c3]) (bad (by rw [okP]; exact fun h => by omega))
        · by_cases c4 : x.f0 ≥ (out.length : Int)
          · exact Evt.step (fun k => by rw [one, if_neg c1, if_neg c2, if_neg c3, if_pos c4]) (bad (by rw [okP]; exact fun h => by omega))
          · by_cases c5 : x.f0 = -1
            · by_cases c6 : x.f1 = 1
              · have cs : x.f0 < 0 := by omega
                by_cases c7 : u < lt.size
                · have ih := rea_l0 all hall lt hlt l (i + 1) (u + 1) (out ++ [bt lt (u : Int)]) h2.symm (by rw [List.length_append, List.length_singleton]; omega) (by omega)
                  refine Evt.val (Evt.step (g' := fun k => numnahref09_Read.j1 k all lt out (u : Int) (i : Int) false x.f0 x.f1) (fun k => by rw [one, if_neg c1, if_neg c2, if_neg c3, if_neg c4, if_pos c5, if_pos c6, decide_eq_false (by omega)]) (Evt.step (fun k => by rw [numnahref09_Read.j1, if_neg (by decide), if_pos c5, if_pos (by omega), if_pos (by omega), if_pos (by omega), w3.out, w2.out]) ih)) ?_
                  unfold reaR
                  have hs : sgl (x :: l) = 1 + sgl l := by rw [sgl, if_pos cs]
                  have hk : spk lt (x :: l) out u = spk lt l (out ++ [bt lt (u : Int)]) (u + 1) := by rw [spk, if_pos cs]
                  have hz : (out ++ [bt lt (u : Int)]).length = out.length + 1 := by rw [List.length_append, List.length_singleton]
                  have ho2 : okP (x :: l) out.length ↔ okP l (out.length + 1) := by
                    rw [okP, show out.length + x.f1.toNat = out.length + 1 by omega]
                    exact ⟨fun h => h.2.2.2.2.2, fun h => ⟨by omega, by omega, by omega, by omega, fun _ => c6, h⟩⟩
                  rw [hz, hs, hk]
                  by_cases c8 : okP l (out.length + 1) ∧ u + 1 + sgl l ≤ lt.size
                  · rw [if_pos c8, if_pos ⟨ho2.2 c8.1, by omega⟩]
                    congr 1
                    exact decide_eq_decide.2 (by omega)
                  · rw [if_neg c8, if_neg (fun h => c8 ⟨ho2.1 h.1, by omega⟩)]
                · refine Evt.step (fun k => by rw [one, if_neg c1, if_neg c2, if_neg c3, if_neg c4, if_pos c5, if_pos c6, decide_eq_true (by omega)]) (bad ?_)
                  intro h
                  have := h.2
                  rw [sgl, if_pos cs] at this
                  omega
              · exact Evt.step (fun k => by rw [one, if_neg c1, if_neg c2, if_neg c3, if_neg c4, if_pos c5, if_neg c6]) (bad (by rw [okP]; exact fun h => c6 (h.1.2.2.2.2.1 (by omega))))
            · have cs : ¬ x.f0 < 0 := by omega
              obtain ⟨n, hn⟩ : ∃ n : Nat, x.f1 = (n : Int) := ⟨x.f1.toNat, by omega⟩
              obtain ⟨f, hf⟩ : ∃ f : Nat, x.f0 = (f : Int) := ⟨x.f0.toNat, by omega⟩
              have hz : (spkC n out (f : Int) 0).length = out.length + n := spkC_len n out (f : Int) 0
              have ih := rea_l0 all hall lt hlt l (i + 1) u (spkC n out (f : Int) 0) h2.symm (by omega) hu
              refine Evt.val (Evt.step (g' := fun k => numnahref09_Read.j1 k all lt out (u : Int) (i : Int) false x.f0 x.f1) (fun k => by rw [one, if_neg c1, if_neg c2, if_neg c3, if_neg c4, if_neg c5]) (Evt.step (g' := fun k => numnahref09_Read.l1 k all lt out (u : Int) (i : Int) ((0 : Nat) : Int) (f : Int) (n : Int)) (fun k => by rw [numnahref09_Read.j1, if_neg (by decide), if_neg c5, hf, hn]; rfl) (rea_l1 all lt i u n f out.length (by omega) (by omega) (by omega) _ n 0 out (by omega) (by omega) ih))) ?_
              unfold reaR
              have hs : sgl (x :: l) = sgl l := by rw [sgl, if_neg cs, Nat.zero_add]
              have hk : spk lt (x :: l) out u = spk lt l (spkC n out (f : Int) 0) u := by rw [spk, if_neg cs, hf, hn, Int.toNat_natCast]
              have ho2 : okP (x :: l) out.length ↔ okP l (out.length + n) := by
                rw [okP, show out.length + x.f1.toNat = out.length + n by omega]
                exact ⟨fun h => h.2.2.2.2.2, fun h => ⟨by omega, by omega, by omega, by omega, fun hh => absurd hh cs, h⟩⟩
              rw [hz, hs, hk]
              by_cases c8 : okP l (out.length + n) ∧ u + sgl l ≤ lt.size
              · rw [if_pos c8, if_pos ⟨ho2.2 c8.1, c8.2⟩]
              · rw [if_neg c8, if_neg (fun h => c8 ⟨ho2.1 h.1, h.2⟩)]
theorem refRead_ev (l : List S63) (hl : l.length ≤ 1000) (lt : ByteArray) (hlt : lt.size ≤ 1000) : Evt (fun k => numnahref09_Read.f k l lt) (reaR lt l [] 0) := rea_l0 l hl lt hlt l 0 0 [] rfl (by simp) (by omega)
end Go.Proofs.YtpeeflkodpnbpaaDoor.Pr

/- Two lists of factors compared. -/
namespace Go.Proofs.YtpeeflkodpnbpaaDoor.Pr
open Go.RowKit Go.Proofs.YtpeeflkodpnbpaaDoorW.PrintWords Go.Proofs.YtpeeflkodpnbpaaDoorW.PrintLast Go.Proofs.YtpeeflkodpnbpaaDoorW.PrintMore
set_option linter.unusedVariables false
set_option linter.unusedSimpArgs false

def eqL : List S63 → List S63 → Bool
  | [], [] => true
  | x :: l, y :: m => decide (x.f0 = y.f0 ∧ x.f1 = y.f1) && eqL l m
  | _, _ => false
theorem eqL_iff : ∀ l m : List S63, eqL l m = true ↔ l = m
  | [], [] => by simp [eqL]
  | [], y :: m => by simp [eqL]
  | x :: l, [] => by simp [eqL]
  | x :: l, y :: m => by
    rw [eqL, Bool.and_eq_true, decide_eq_true_iff, eqL_iff l m]
    constructor
    · rintro ⟨⟨h1, h2⟩, h3⟩
      cases x; cases y
      simp at h1 h2
      rw [h1, h2, h3]
    · intro h
      injection h with h1 h2
      exact ⟨by rw [h1]; exact ⟨rfl, rfl⟩, h2⟩
theorem rd63_at (l : List S63) (i : Nat) (h : i < l.length) : rd_T63 l (i : Int) = l[i] := by simp [rd_T63, h]
theorem ne_bool (x y : S63) : (!((x.f0) == (y.f0)) || (!((x.f1) == (y.f1)))) = !decide (x.f0 = y.f0 ∧ x.f1 = y.f1) := by
  by_cases c1 : x.f0 = y.f0 <;> by_cases c2 : x.f1 = y.f1 <;> simp [c1, c2]
theorem sameL_ev (l m : List S63) (hl : l.length ≤ 1000000) : Evt (fun k => numnahref09_Same.f k l m) (eqL l m) := by
  have go : l.length = m.length → ∀ (q i : Nat), i + q = l.length → Evt (fun k => numnahref09_Same.l0 k l m (i : Int)) (eqL (l.drop i) (m.drop i)) := by
    intro he q
    induction q with
    | zero =>
      intro i hi
      rw [List.drop_eq_nil_of_le (by omega), List.drop_eq_nil_of_le (by omega)]
      refine Evt.now fun k => ?_
      rw [numnahref09_Same.l0, if_neg (by omega)]; rfl
    | succ q ih =>
      intro i hi
      have h1 : i < l.length := by omega
      have h2 : i < m.length := by omega
      have w1 : Aside0 (wrap64 ((i : Int) + 1) = ((i + 1 : Nat) : Int)) := ⟨(wr (by omega) (by omega)).trans (by omega)⟩
      rw [List.drop_eq_getElem_cons h1, List.drop_eq_getElem_cons h2, eqL]
      by_cases c : l[i].f0 = m[i].f0 ∧ l[i].f1 = m[i].f1
      · rw [decide_eq_true c, Bool.true_and]
        refine Evt.step (fun k => ?_) (ih (i + 1) (by omega))
        rw [numnahref09_Same.l0, if_pos (by omega), if_pos (by omega), if_pos (by omega), rd63_at l i h1, rd63_at m i h2, ne_bool, decide_eq_true c, if_neg (by decide), w1.out]
      · rw [decide_eq_false c, Bool.false_and]
        refine Evt.now fun k => ?_
        rw [numnahref09_Same.l0, if_pos (by omega), if_pos (by omega), if_pos (by omega), rd63_at l i h1, rd63_at m i h2, ne_bool, decide_eq_false c, if_pos (show (!false) = true from rfl)]
  unfold numnahref09_Same.f
  by_cases he : l.length = m.length
  · refine Evt.pos (by omega) ?_
    have := go he l.length 0 (by omega)
    rwa [List.drop_zero, List.drop_zero] at this
  · refine Evt.neg (by omega) (Evt.all (fun _ => ?_))
    cases hb : eqL l m with
    | false => rfl
    | true => exact absurd (congrArg List.length ((eqL_iff l m).1 hb)) he
theorem equalL_ev (l m : List S63) (hl : l.length ≤ 1000000) : Evt (fun k => api_Factor_81.f k l m) (eqL l m) := by
  have go : l.length = m.length → ∀ (q i : Nat), i + q = l.length → Evt (fun k => api_Factor_81.l0 k l m (l.length : Int) (i : Int)) (eqL (l.drop i) (m.drop i)) := by
    intro he q
    induction q with
    | zero =>
      intro i hi
      rw [List.drop_eq_nil_of_le (by omega), List.drop_eq_nil_of_le (by omega)]
      refine Evt.now fun k => ?_
      rw [api_Factor_81.l0, if_neg (by omega)]; rfl
    | succ q ih =>
      intro i hi
      have h1 : i < l.length := by omega
      have h2 : i < m.length := by omega
      have w1 : Aside0 (wrap64 ((i : Int) + 1) = ((i + 1 : Nat) : Int)) := ⟨(wr (by omega) (by omega)).trans (by omega)⟩
      rw [List.drop_eq_getElem_cons h1, List.drop_eq_getElem_cons h2, eqL]
      by_cases c : l[i].f0 = m[i].f0 ∧ l[i].f1 = m[i].f1
      · rw [decide_eq_true c, Bool.true_and]
        refine Evt.step (fun k => ?_) (ih (i + 1) (by omega))
        rw [api_Factor_81.l0, if_pos (by omega), if_pos (by omega), if_pos (by omega), if_pos (by omega), rd63_at l i h1, rd63_at m i h2, ne_bool, decide_eq_true c, if_neg (by decide), w1.out]
      · rw [decide_eq_false c, Bool.false_and]
        refine Evt.now fun k => ?_
        rw [api_Factor_81.l0, if_pos (by omega), if_pos (by omega), if_pos (by omega), if_pos (by omega), rd63_at l i h1, rd63_at m i h2, ne_bool, decide_eq_false c, if_pos (show (!false) = true from rfl)]
  unfold api_Factor_81.f
  by_cases he : l.length = m.length
  · refine Evt.pos (by omega) ?_
    have := go he l.length 0 (by omega)
    rwa [List.drop_zero, List.drop_zero] at this
  · refine Evt.neg (by omega) (Evt.all (fun _ => ?_))
    cases hb : eqL l m with
    | false => rfl
    | true => exact absurd (congrArg List.length ((eqL_iff l m).1 hb)) he
end Go.Proofs.YtpeeflkodpnbpaaDoor.Pr

/- The reference's test of a word, plainly; two small facts. -/
namespace Go.Proofs.YtpeeflkodpnbpaaDoor.Pr
open Go.RowKit Go.Proofs.YtpeeflkodpnbpaaDoorW.PrintWords Go.Proofs.YtpeeflkodpnbpaaDoorW.PrintLast Go.Proofs.YtpeeflkodpnbpaaDoorW.PrintMore
set_option linter.unusedVariables false
set_option linter.unusedSimpArgs false

theorem bt_get (s : ByteArray) (i : Nat) (h : i < s.size) : bt s (i : Int) = ((s.get! i).toNat : Int) := by
  unfold bt
  rw [dif_pos (by simpa using h)]
  have : s.get! i = s[i] := by
    cases s with
    | mk a =>
      have h' : i < a.size := h
      simp [ByteArray.get!, h']
      rfl
  rw [this]
  simp
theorem word_good (s : ByteArray) (hs : s.size ≤ 1000) : ∀ (m i : Nat), i + m = s.size → (∀ j, i ≤ j → j < s.size → okAt s j) → Evt (fun k => numnahref09_Word.l0 k s (i : Int)) (decide ((s.size : Int) ≤ 160))
  | 0, i, hi, _ => by
    refine Evt.now fun k => ?_
    rw [numnahref09_Word.l0, if_neg (by omega)]
  | m + 1, i, hi, h => by
    have ih := word_good s hs m (i + 1) (by omega) (fun j h1 h2 => h j (by omega) h2)
    have ok := h i (Nat.le_refl _) (by omega)
    have hb := bt_get s i (by omega)
    refine Evt.step (g' := fun k => numnahref09_Word.l0 k s ((i + 1 : Nat) : Int)) (fun k => ?_) ih
    rw [numnahref09_Word.l0, if_pos (by omega), if_pos (by omega), if_neg (by rw [hb]; have := ok.1; omega), if_neg (by rw [hb]; have := ok.2; omega), wr (by omega) (by omega)]
    rfl
theorem word_bad (s : ByteArray) (hs : s.size ≤ 1000) : ∀ (m i : Nat), i + m = s.size → (∃ j, i ≤ j ∧ j < s.size ∧ ¬ okAt s j) → Evt (fun k => numnahref09_Word.l0 k s (i : Int)) false
  | 0, i, hi, ⟨j, h1, h2, _⟩ => by omega
  | m + 1, i, hi, h => by
    have hb := bt_get s i (by omega)
    by_cases c1 : bt s (i : Int) < 97
    · refine Evt.now fun k => ?_
      rw [numnahref09_Word.l0, if_pos (by omega), if_pos (by omega), if_pos c1]
    · by_cases c2 : bt s (i : Int) > 100
      · refine Evt.now fun k => ?_
        rw [numnahref09_Word.l0, if_pos (by omega), if_pos (by omega), if_neg c1, if_pos c2]
      · obtain ⟨j, h1, h2, h3⟩ := h
        have hne : j ≠ i := fun e => h3 (by rw [e]; unfold okAt; rw [hb] at c1 c2; omega)
        refine Evt.step (g' := fun k => numnahref09_Word.l0 k s ((i + 1 : Nat) : Int)) (fun k => ?_) (word_bad s hs m (i + 1) (by omega) ⟨j, by omega, h2, h3⟩)
        rw [numnahref09_Word.l0, if_pos (by omega), if_pos (by omega), if_neg c1, if_neg c2, wr (by omega) (by omega)]
        rfl
theorem word_ev (s : ByteArray) (hs : s.size ≤ 1000) : Evt (fun k => numnahref09_Word.f k s) (isWordC s) := by
  by_cases h : ∀ j, j < s.size → okAt s j
  · have := word_good s hs s.size 0 (by omega) (fun j _ hj => h j hj)
    refine Evt.val this ?_
    cases hc : isWordC s with
    | true => exact decide_eq_true (by have := ((isWordC_iff s).1 hc).1; omega)
    | false => exact decide_eq_false (fun hh => by
        have : isWordC s = true := (isWordC_iff s).2 ⟨by omega, h⟩
        rw [hc] at this; cases this)
  · have ⟨j, hj, hn⟩ : ∃ j, j < s.size ∧ ¬ okAt s j := by
      apply Classical.byContradiction
      intro hc
      exact h fun j hj => Classical.byContradiction fun hk => hc ⟨j, hj, hk⟩
    refine Evt.val (word_bad s hs s.size 0 (by omega) ⟨j, by omega, hj, hn⟩) ?_
    cases hc : isWordC s with
    | false => rfl
    | true => exact absurd (((isWordC_iff s).1 hc).2 j hj) hn
theorem toList_eq_iff (a b : ByteArray) : a.toList = b.toList ↔ a = b := by
  rw [ByteArray.toList_eq, ByteArray.toList_eq]
  constructor
  · intro h
    cases a; cases b
    simp at h
    rw [h]
  · intro h; rw [h]
theorem sub_eq (s : ByteArray) (i n : Nat) (a b : Int) (ha : a = (i : Int)) (hb : b = ((i + n : Nat) : Int)) : s.extract a.toNat b.toNat = subAt s n i := by
  subst ha; subst hb
  rw [Int.toNat_natCast, Int.toNat_natCast]; rfl
end Go.Proofs.YtpeeflkodpnbpaaDoor.Pr

/- The references of Word, Same, Copying and Learning, plainly. -/
namespace Go.Proofs.YtpeeflkodpnbpaaDoor.Pr
open Go.RowKit Go.Proofs.YtpeeflkodpnbpaaDoorW.PrintWords Go.Proofs.YtpeeflkodpnbpaaDoorW.PrintLast Go.Proofs.YtpeeflkodpnbpaaDoorW.PrintMore
set_option linter.unusedVariables false
set_option linter.unusedSimpArgs false

/-! ### Copying -/
theorem copy_l2 (s : ByteArray) (hs : s.size ≤ 160) (out : List S63) (i j : Nat) (hj : j < i) (found bf bl : Int) (r : List S63) : ∀ (q n : Nat), i + n ≤ s.size → s.size ≤ i + n + q →
    Evt (fun k => if (ext s j i q n : Int) > found then numnahref09_Copying.l1 k s out i (ext s j i q n) ((j + 1 : Nat) : Int) j (ext s j i q n) else numnahref09_Copying.l1 k s out i found ((j + 1 : Nat) : Int) bf bl) r →
    Evt (fun k => numnahref09_Copying.l2 k s out i found j n bf bl) r
  | 0, n, h1, h2, h => by
    refine Evt.step (fun k => ?_) h
    rw [numnahref09_Copying.l2, wr (by omega) (by omega), if_neg (by omega), wr (x := (j : Int) + 1) (by omega) (by omega)]
    rfl
  | q + 1, n, h1, h2, h => by
    by_cases c : i + n < s.size
    · by_cases e : bt s ((j + n : Nat) : Int) = bt s ((i + n : Nat) : Int)
      · rw [ext, if_pos c, if_pos e] at h
        refine Evt.step (g' := fun k => numnahref09_Copying.l2 k s out i found j ((n + 1 : Nat) : Int) bf bl) (fun k => ?_) (copy_l2 s hs out i j hj found bf bl r q (n + 1) (by omega) (by omega) h)
        rw [numnahref09_Copying.l2, wr (x := (i : Int) + n) (by omega) (by omega), wr (x := (j : Int) + n) (by omega) (by omega), if_pos (by omega), if_pos (by omega), if_pos (by omega), if_pos (by omega), if_pos (by
          rw [show (j : Int) + n = ((j + n : Nat) : Int) by omega, show (i : Int) + n = ((i + n : Nat) : Int) by omega]; exact e), wr (by omega) (by omega)]
        rfl
      · rw [ext, if_pos c, if_neg e] at h
        refine Evt.step (fun k => ?_) h
        rw [numnahref09_Copying.l2, wr (x := (i : Int) + n) (by omega) (by omega), wr (x := (j : Int) + n) (by omega) (by omega), if_pos (by omega), if_pos (by omega), if_pos (by omega), if_pos (by omega), if_neg (by
          rw [show (j : Int) + n = ((j + n : Nat) : Int) by omega, show (i : Int) + n = ((i + n : Nat) : Int) by omega]; exact e), wr (x := (j : Int) + 1) (by omega) (by omega)]
        rfl
    · rw [ext, if_neg c] at h
      refine Evt.step (fun k => ?_) h
      rw [numnahref09_Copying.l2, wr (by omega) (by omega), if_neg (by omega), wr (x := (j : Int) + 1) (by omega) (by omega)]
      rfl
theorem copy_l1 (s : ByteArray) (hs : s.size ≤ 160) (out : List S63) (hout : out.length ≤ 160) (i : Nat) (hi : i < s.size) (r : List S63) : ∀ (m j : Nat) (found bf bl : Int), j + m = i → ((bf = -1 ∧ bl = 1 ∧ found = 0) ∨ (0 ≤ bf ∧ 1 ≤ bl ∧ found = bl)) →
    Evt (fun k => numnahref09_Copying.l0 k s (out ++ [(⟨(earlF s i m j (bf, bl)).1, (earlF s i m j (bf, bl)).2⟩ : S63)]) (wrap64 ((i : Int) + (earlF s i m j (bf, bl)).2))) r →
    Evt (fun k => numnahref09_Copying.l1 k s out i found j bf bl) r
  | 0, j, found, bf, bl, hj, hf, h => by
    refine Evt.step (fun k => ?_) h
    rw [numnahref09_Copying.l1, if_neg (by omega), if_pos (by omega)]
    rfl
  | m + 1, j, found, bf, bl, hj, hf, h => by
    refine Evt.step (g' := fun k => numnahref09_Copying.l2 k s out i found j ((0 : Nat) : Int) bf bl) (fun k => by rw [numnahref09_Copying.l1, if_pos (by omega)]; rfl) ?_
    refine copy_l2 s hs out i j (by omega) found bf bl r s.size 0 (by omega) (by omega) ?_
    rw [earlF] at h
    have key : (0 < ext s j i s.size 0 ∧ ((bf, bl) = ((-1 : Int), (1 : Int)) ∨ (bf, bl).2 < (ext s j i s.size 0 : Int))) ↔ (ext s j i s.size 0 : Int) > found := by
      rcases hf with ⟨rfl, rfl, rfl⟩ | ⟨h1, h2, rfl⟩
      · constructor
        · rintro ⟨h1, _⟩; omega
        · intro h1; exact ⟨by omega, .inl rfl⟩
      · constructor
        · rintro ⟨h3, h4⟩
          rcases h4 with h4 | h4
          · have := congrArg Prod.fst h4
            have : bf = -1 := this
            omega
          · exact h4
        · intro h3; exact ⟨by omega, .inr h3⟩
    by_cases c : (ext s j i s.size 0 : Int) > found
    · refine Evt.pos c ?_
      rw [pick9, if_pos (key.2 c)] at h
      exact copy_l1 s hs out hout i hi r m (j + 1) _ _ _ (by omega) (.inr ⟨by omega, by rcases hf with ⟨_, _, h3⟩ | ⟨_, h2, h3⟩ <;> omega, rfl⟩) h
    · refine Evt.neg c ?_
      rw [pick9, if_neg (fun hh => c (key.1 hh))] at h
      exact copy_l1 s hs out hout i hi r m (j + 1) _ _ _ (by omega) hf h
theorem copy_l0 (s : ByteArray) (hs : s.size ≤ 160) : ∀ (q i : Nat) (out : List S63), i ≤ s.size → s.size ≤ i + q → out.length ≤ i → Evt (fun k => numnahref09_Copying.l0 k s out (i : Int)) (out ++ copF s q i)
  | 0, i, out, hi, hq, ho => by
    refine Evt.now fun k => ?_
    rw [numnahref09_Copying.l0, if_neg (by omega), copF, List.append_nil]
  | q + 1, i, out, hi, hq, ho => by
    by_cases c : i < s.size
    · have ok := earl_ok s i c
      rw [copF, if_pos c]
      refine Evt.step (g' := fun k => numnahref09_Copying.l1 k s out i 0 ((0 : Nat) : Int) (-1) 1) (fun k => by rw [numnahref09_Copying.l0, if_pos (by omega)]; rfl) ?_
      refine copy_l1 s hs out (by omega) i c _ i 0 0 (-1) 1 (by omega) (.inl ⟨rfl, rfl, rfl⟩) ?_
      have h2 : (factS s i).f1 = (earlF s i i 0 (-1, 1)).2 := rfl
      have h1 := ok.1
      have h3 := ok.2.1
      rw [wr (by omega) (by omega), show (i : Int) + (earlF s i i 0 (-1, 1)).2 = ((i + (factS s i).f1.toNat : Nat) : Int) by rw [h2]; omega]
      have := copy_l0 s hs q (i + (factS s i).f1.toNat) (out ++ [factS s i]) (by rw [h2]; omega) (by rw [h2]; omega) (by rw [List.length_append, List.length_singleton, h2]; omega)
      rw [List.append_assoc] at this
      exact this
    · refine Evt.now fun k => ?_
      rw [numnahref09_Copying.l0, if_neg (by omega), copF, if_neg c, List.append_nil]
/-! ### Learning -/
theorem number_ev (t : ByteArray) (l : List ByteArray) (hl : l.length ≤ 1000) : Evt (fun k => numnahref09_number.f k l t) (numK t l 0) := by
  have : ∀ (m i : Nat), i + m = l.length → Evt (fun k => numnahref09_number.l0 k l t (i : Int)) (numK t (l.drop i) i) := by
    intro m
    induction m with
    | zero =>
      intro i hi
      refine Evt.now fun k => ?_
      rw [numnahref09_number.l0, if_neg (by omega), List.drop_eq_nil_of_le (by omega), numK]
    | succ m ih =>
      intro i hi
      have hlt : i < l.length := by omega
      have e : rdOf ByteArray.empty l (i : Int) = l[i] := by simp [rdOf, hlt]
      rw [List.drop_eq_getElem_cons hlt, numK]
      by_cases c : l[i] = t
      · rw [if_pos c]
        refine Evt.now fun k => ?_
        rw [numnahref09_number.l0, if_pos (by omega), if_pos (by omega), e, if_pos ((toList_eq_iff _ _).2 c), wr (by omega) (by omega)]
        rfl
      · rw [if_neg c]
        refine Evt.step (g' := fun k => numnahref09_number.l0 k l t ((i + 1 : Nat) : Int)) (fun k => ?_) (ih (i + 1) (by omega))
        rw [numnahref09_number.l0, if_pos (by omega), if_pos (by omega), e, if_neg (fun h => c ((toList_eq_iff _ _).1 h)), wr (by omega) (by omega)]
        rfl
  exact this l.length 0 (by omega)
theorem lear_j2 (s : ByteArray) (hs : s.size ≤ 160) (out : List S63) (known : List ByteArray) (i : Nat) (ho : out.length ≤ 160) (hk : known.length ≤ 160) (r : List S63) : ∀ (q n : Nat), i + n < s.size → s.size ≤ i + n + q →
    Evt (fun k => numnahref09_Learning.l0 k s (out ++ [(⟨numK (subAt s (extL s known i q (n + 1) - 1) i) known 0, extL s known i q (n + 1)⟩ : S63)]) (known ++ [subAt s (extL s known i q (n + 1)) i]) ((i + extL s known i q (n + 1) : Nat) : Int)) r →
    Evt (fun k => numnahref09_Learning.j2 k s out known i n true) r
  | 0, n, h1, h2, h => by omega
  | q + 1, n, h1, h2, h => by
    have w1 : wrap64 ((n : Int) + 1) = ((n + 1 : Nat) : Int) := (wr (by omega) (by omega)).trans (by omega)
    have w2 : wrap64 ((i : Int) + ((n + 1 : Nat) : Int)) = ((i + (n + 1) : Nat) : Int) := (wr (by omega) (by omega)).trans (by omega)
    have w3 : wrap64 (((i + (n + 1) : Nat) : Int) - 1) = ((i + n : Nat) : Int) := (wr (by omega) (by omega)).trans (by omega)
    have e1 : s.extract (i : Int).toNat ((i + (n + 1) : Nat) : Int).toNat = subAt s (n + 1) i := sub_eq s i (n + 1) _ _ rfl rfl
    have e2 : s.extract (i : Int).toNat ((i + n : Nat) : Int).toNat = subAt s n i := sub_eq s i n _ _ rfl rfl
    refine Evt.step (g' := fun k => (numnahref09_number.f k known (subAt s (n + 1) i)).bind fun t280 => (if t280 = 0 then (if (i : Int) ≤ ((i + n : Nat) : Int) then (if ((i + n : Nat) : Int) ≤ (s.size : Int) then ((numnahref09_number.f k known (subAt s n i)).bind fun t281 => (if out.length < 8796093022208 then (if known.length < 8796093022208 then (numnahref09_Learning.l0 k s (out ++ [(⟨t281, ((n + 1 : Nat) : Int)⟩ : S63)]) (known ++ [subAt s (n + 1) i]) ((i + (n + 1) : Nat) : Int)) else (none)) else (none))) else (none)) else (none)) else (numnahref09_Learning.l1 k s out known i ((n + 1 : Nat) : Int) t280))) (fun k => ?_) ?_
    · rw [numnahref09_Learning.j2, if_pos rfl, w1, w2, w3, e1, e2, if_pos (by omega), if_pos (by omega), if_pos (by omega)]
    · refine Evt.bind (number_ev _ _ (by omega)) ?_
      by_cases c : memB (subAt s (n + 1) i) known = true
      · have hpos := numK_pos (m := 0) (memB_iff.1 c)
        refine Evt.neg (by omega) ?_
        by_cases c2 : i + (n + 1) < s.size
        · rw [extL, if_pos ⟨c2, c⟩] at h
          refine Evt.step (g' := fun k => numnahref09_Learning.j2 k s out known i ((n + 1 : Nat) : Int) true) (fun k => ?_) (lear_j2 s hs out known i ho hk r q (n + 1) c2 (by omega) h)
          rw [numnahref09_Learning.l1, if_neg (by omega), if_pos (by omega), w2, decide_eq_true (by omega)]
        · rw [extL, if_neg (fun hh => c2 hh.1)] at h
          refine Evt.step (g' := fun k => numnahref09_Learning.j2 k s out known i ((n + 1 : Nat) : Int) false) (fun k => ?_) ?_
          · rw [numnahref09_Learning.l1, if_neg (by omega), if_pos (by omega), w2, decide_eq_false (by omega)]
          · refine Evt.step (g' := fun k => (numnahref09_number.f k known (subAt s n i)).bind fun t288 => (if out.length < 8796093022208 then (if (i : Int) ≤ ((i + (n + 1) : Nat) : Int) then (if ((i + (n + 1) : Nat) : Int) ≤ (s.size : Int) then (if known.length < 8796093022208 then (numnahref09_Learning.l0 k s (out ++ [(⟨t288, ((n + 1 : Nat) : Int)⟩ : S63)]) (known ++ [subAt s (n + 1) i]) ((i + (n + 1) : Nat) : Int)) else (none)) else (none)) else (none)) else (none))) (fun k => ?_) ?_
            · rw [numnahref09_Learning.j2, if_neg (by decide), w2, w3, e1, e2, if_pos (by omega), if_pos (by omega), if_pos (by omega)]
            · refine Evt.bind (number_ev _ _ (by omega)) ?_
              exact Evt.pos (by omega) (Evt.pos (by omega) (Evt.pos (by omega) (Evt.pos (by omega) h)))
      · rw [extL, if_neg (fun hh => c hh.2)] at h
        have h0 : numK (subAt s (n + 1) i) known 0 = 0 := numK_mem (fun hh => c (memB_iff.2 hh))
        refine Evt.pos h0 (Evt.pos (by omega) (Evt.pos (by omega) (Evt.bind (number_ev _ _ (by omega)) ?_)))
        exact Evt.pos (by omega) (Evt.pos (by omega) h)
theorem lear_l0 (s : ByteArray) (hs : s.size ≤ 160) : ∀ (q i : Nat) (out : List S63) (known : List ByteArray), i ≤ s.size → s.size ≤ i + q → out.length ≤ i → known.length ≤ i → Evt (fun k => numnahref09_Learning.l0 k s out known (i : Int)) (learnF s q i known out)
  | 0, i, out, known, hi, hq, ho, hk => by
    refine Evt.now fun k => ?_
    rw [numnahref09_Learning.l0, if_neg (by omega), learnF]
  | q + 1, i, out, known, hi, hq, ho, hk => by
    by_cases c : i < s.size
    · rw [learnF, if_pos c]
      have h1 := extL_ge s known i s.size 1
      have h2 := extL_le s known i s.size 1 (by omega)
      refine Evt.step (g' := fun k => numnahref09_Learning.l1 k s out known i 0 0) (fun k => by rw [numnahref09_Learning.l0, if_pos (by omega)]) ?_
      refine Evt.step (g' := fun k => numnahref09_Learning.j2 k s out known i ((0 : Nat) : Int) true) (fun k => by rw [numnahref09_Learning.l1, if_pos rfl]; rfl) ?_
      refine lear_j2 s hs out known i (by omega) (by omega) _ s.size 0 (by omega) (by omega) ?_
      exact lear_l0 s hs q _ _ _ (by simpa using h2) (by simp only [Nat.zero_add]; omega) (by rw [List.length_append, List.length_singleton]; simp only [Nat.zero_add]; omega) (by rw [List.length_append, List.length_singleton]; simp only [Nat.zero_add]; omega)
    · refine Evt.now fun k => ?_
      rw [numnahref09_Learning.l0, if_neg (by omega), learnF_stop c]
theorem refLearning_ev (s : ByteArray) (hs : s.size ≤ 160) : Evt (fun k => numnahref09_Learning.f k s) (learnF s s.size 0 [] []) := lear_l0 s hs s.size 0 [] [] (by omega) (by omega) (by simp) (by simp)
theorem copF_len (s : ByteArray) : ∀ q i, (copF s q i).length ≤ q
  | 0, i => by simp [copF]
  | q + 1, i => by
    rw [copF]
    split
    · have := copF_len s q (i + (factS s i).f1.toNat)
      simp only [List.length_cons]; omega
    · simp
theorem learnF_len (s : ByteArray) : ∀ q i known out, (learnF s q i known out).length ≤ out.length + q
  | 0, i, known, out => by simp [learnF]
  | q + 1, i, known, out => by
    rw [learnF]
    split
    · refine Nat.le_trans (learnF_len s q _ _ _) ?_
      rw [List.length_append, List.length_singleton]; omega
    · omega
end Go.Proofs.YtpeeflkodpnbpaaDoor.Pr

/- The numbers of substrings, plainly. -/
namespace Go.Proofs.YtpeeflkodpnbpaaDoor.Pr
open Go.RowKit Go.WideMaps Go.Maps Go.Proofs.YtpeeflkodpnbpaaDoorW Go.Proofs.YtpeeflkodpnbpaaDoorW.PrintWords Go.Proofs.YtpeeflkodpnbpaaDoorW.PrintLast Go.Proofs.YtpeeflkodpnbpaaDoorW.PrintMore
set_option linter.unusedVariables false
set_option linter.unusedSimpArgs false

theorem insD_old {x : ByteArray} : ∀ {l : List ByteArray}, l.Pairwise ltS → x ∈ l → (insD x l).length = l.length
  | y :: l, h, hm => by
    have hy := List.pairwise_cons.1 h
    rw [insD]
    split
    · rename_i hlt
      have : x ∈ l := by
        rcases List.mem_cons.1 hm with rfl | hm
        · exact absurd rfl ((ltS_iff _ _).1 hlt).2
        · exact hm
      rw [List.length_cons, insD_old hy.2 this, List.length_cons]
    · split
      · rfl
      · rename_i hlt hne
        exfalso
        rcases List.mem_cons.1 hm with rfl | hm
        · exact hne rfl
        · exact hlt (hy.1 x hm)
theorem insD_new {x : ByteArray} : ∀ {l : List ByteArray}, x ∉ l → (insD x l).length = l.length + 1
  | [], _ => rfl
  | y :: l, hm => by
    rw [insD]
    split
    · rw [List.length_cons, insD_new (fun h => hm (List.mem_cons_of_mem _ h)), List.length_cons]
    · split
      · rename_i _ e
        exact absurd (e ▸ List.mem_cons_self) hm
      · rfl
theorem subG_tidy {H : Type} (s : ByteArray) (n : Nat) : ∀ k, Tidy (subG (H := H) s n k)
  | 0 => tidy_empty
  | k + 1 => (subG_tidy s n k).put (keyLit _) _
theorem size_up {H : Type} (s : ByteArray) (n : Nat) : ∀ k, Maps.size (subG (H := H) s n k) = (partsUp s n k).length
  | 0 => rfl
  | k + 1 => by
    rw [subG, size_put (subG_tidy s n k), partsUp, size_up s n k]
    by_cases h : Maps.has (subG (H := H) s n k) (keyS (subAt s n k)) = true
    · rw [if_pos h, insD_old (partsUp_sorted s n k) (mem_partsUp.2 ((subG_has s n _ k).1 h))]
    · rw [if_neg h, insD_new (fun hm => h ((subG_has s n _ k).2 (mem_partsUp.1 hm)))]
theorem subsF_eq (s : ByteArray) : ∀ m n l, subsF s m n l = l ++ (List.range m).map (fun i => (cntS s (n + i) : Int))
  | 0, n, l => by simp [subsF]
  | m + 1, n, l => by
    rw [subsF, subsF_eq s m (n + 1), List.range_succ_eq_map, List.map_cons, List.map_map, List.append_assoc]
    congr 1
    rw [List.singleton_append]
    congr 1
    apply List.map_congr_left
    intro a _
    show (cntS s (n + 1 + a) : Int) = cntS s (n + (a + 1))
    rw [show n + 1 + a = n + (a + 1) by omega]
/-! ### counting -/
theorem nodup_le {α : Type} : ∀ {l m : List α}, l.Nodup → (∀ x, x ∈ l → x ∈ m) → l.length ≤ m.length
  | [], _, _, _ => by simp
  | x :: l, m, hn, h => by
    obtain ⟨a, b, rfl⟩ := List.append_of_mem (h x List.mem_cons_self)
    have hn2 := List.nodup_cons.1 hn
    have := nodup_le (l := l) (m := a ++ b) hn2.2 (fun y hy => by
      have h1 := h y (List.mem_cons_of_mem _ hy)
      rcases List.mem_append.1 h1 with h1 | h1
      · exact List.mem_append_left _ h1
      · rcases List.mem_cons.1 h1 with e | h1
        · exact absurd (e ▸ hy) hn2.1
        · exact List.mem_append_right _ h1)
    simp only [List.length_append, List.length_cons] at this ⊢
    omega
/-! ### strings as lists of bytes -/
def bl (s : ByteArray) : List UInt8 := s.data.toList
theorem bl_inj {a b : ByteArray} (h : bl a = bl b) : a = b := Go.WideShapes.bytes_inj h
theorem bl_len (s : ByteArray) : (bl s).length = s.size := Array.length_toList
theorem bl_append (a b : ByteArray) : bl (a ++ b) = bl a ++ bl b := by unfold bl; rw [ByteArray.data_append, Array.toList_append]
theorem bl_extract (s : ByteArray) (i j : Nat) : bl (s.extract i j) = ((bl s).drop i).take (j - i) := by
  unfold bl; rw [ByteArray.data_extract, Array.toList_extract, List.extract_eq_take_drop]
theorem bl_get (s : ByteArray) (i : Nat) (h : i < s.size) : (bl s)[i]'(by rw [bl_len]; exact h) = s.get! i := by
  cases s with
  | mk a =>
    have h' : i < a.size := h
    simp [bl, ByteArray.get!, h']
theorem ok_mem (s : ByteArray) (hw : isWordC s = true) : ∀ c, c ∈ bl s → c = 97 ∨ c = 98 ∨ c = 99 ∨ c = 100 := by
  intro c hc
  obtain ⟨i, hi, rfl⟩ := List.mem_iff_getElem.1 hc
  have hi2 : i < s.size := by rw [bl_len] at hi; exact hi
  have ok := ((isWordC_iff s).1 hw).2 i hi2
  rw [bl_get s i hi2]
  have h1 := ok.1
  have h2 := ok.2
  have : (s.get! i).toNat = 97 ∨ (s.get! i).toNat = 98 ∨ (s.get! i).toNat = 99 ∨ (s.get! i).toNat = 100 := by omega
  rcases this with h | h | h | h
  · exact .inl (UInt8.toNat_inj.1 h)
  · exact .inr (.inl (UInt8.toNat_inj.1 h))
  · exact .inr (.inr (.inl (UInt8.toNat_inj.1 h)))
  · exact .inr (.inr (.inr (UInt8.toNat_inj.1 h)))
theorem word_of_mem (s : ByteArray) (hs : s.size ≤ 160) (h : ∀ c, c ∈ bl s → c = 97 ∨ c = 98 ∨ c = 99 ∨ c = 100) : isWordC s = true := by
  refine (isWordC_iff s).2 ⟨hs, fun i hi => ?_⟩
  have := h _ (List.getElem_mem (show i < (bl s).length by rw [bl_len]; exact hi))
  rw [bl_get s i hi] at this
  unfold okAt
  rcases this with h | h | h | h <;> rw [h] <;> decide
/-! ### one more letter; one more place -/
def ext4 : List ByteArray → List ByteArray
  | [] => []
  | t :: l => t.push 97 :: t.push 98 :: t.push 99 :: t.push 100 :: ext4 l
theorem ext4_len : ∀ l, (ext4 l).length = 4 * l.length
  | [] => rfl
  | t :: l => by simp only [ext4, List.length_cons, ext4_len l]; omega
theorem mem_ext4 {t : ByteArray} {c : UInt8} (hc : c = 97 ∨ c = 98 ∨ c = 99 ∨ c = 100) : ∀ {l : List ByteArray}, t ∈ l → t.push c ∈ ext4 l
  | x :: l, h => by
    rw [ext4]
    rcases List.mem_cons.1 h with rfl | h
    · rcases hc with rfl | rfl | rfl | rfl <;> simp
    · have := mem_ext4 hc h
      simp [this]
end Go.Proofs.YtpeeflkodpnbpaaDoor.Pr

/- Unlearn and its reference, plainly: they tell the same. -/
namespace Go.Proofs.YtpeeflkodpnbpaaDoor.Pr
open Go.RowKit Go.Proofs.YtpeeflkodpnbpaaDoorW.PrintWords Go.Proofs.YtpeeflkodpnbpaaDoorW.PrintLast Go.Proofs.YtpeeflkodpnbpaaDoorW.PrintMore
set_option linter.unusedVariables false
set_option linter.unusedSimpArgs false

/-- the factor's string -/
def unS (lt : ByteArray) (K : List ByteArray) (x : S63) (i : Nat) : ByteArray := (if 0 < x.f0 then rdOf ByteArray.empty K (x.f0 - 1) else ⟨#[]⟩) ++ lt.extract i (i + 1)
/-- the word, if there is one -/
def unl (lt : ByteArray) : List S63 → Nat → List ByteArray → ByteArray → Option ByteArray
  | [], _, _, out => some out
  | x :: l, i, K, out => if 0 ≤ x.f0 ∧ x.f0 ≤ i then (if 160 < (out ++ unS lt K x i).size then none else unl lt l (i + 1) (K ++ [unS lt K x i]) (out ++ unS lt K x i)) else none
theorem emp_appU (a : ByteArray) : (⟨#[]⟩ : ByteArray) ++ a = a := by
  apply bl_inj
  rw [bl_append]; simp [bl]
theorem unS_ok (lt : ByteArray) (K : List ByteArray) (x : S63) (i : Nat) (hlt : ∀ c, c ∈ bl lt → c = 97 ∨ c = 98 ∨ c = 99 ∨ c = 100) (hK : ∀ t, t ∈ K → (∀ c, c ∈ bl t → c = 97 ∨ c = 98 ∨ c = 99 ∨ c = 100) ∧ t.size ≤ 160) (hx : x.f0 ≤ K.length) : (∀ c, c ∈ bl (unS lt K x i) → c = 97 ∨ c = 98 ∨ c = 99 ∨ c = 100) ∧ (unS lt K x i).size ≤ 161 := by
  have h2 : ∀ c, c ∈ bl (lt.extract i (i + 1)) → c = 97 ∨ c = 98 ∨ c = 99 ∨ c = 100 := fun c hc => hlt c (by rw [bl_extract] at hc; exact List.mem_of_mem_drop (List.mem_of_mem_take hc))
  have h3 : (lt.extract i (i + 1)).size ≤ 1 := by rw [ByteArray.size_extract]; omega
  unfold unS
  by_cases c : 0 < x.f0
  · rw [if_pos c]
    have hlt2 : (x.f0 - 1).toNat < K.length := by omega
    have e : rdOf ByteArray.empty K (x.f0 - 1) = K[(x.f0 - 1).toNat] := by
      unfold rdOf
      rw [List.getD_eq_getElem?_getD, List.getElem?_eq_getElem hlt2]; rfl
    obtain ⟨g1, g2⟩ := hK _ (List.getElem_mem hlt2)
    rw [e]
    refine ⟨fun c hc => ?_, by rw [ByteArray.size_append]; omega⟩
    rw [bl_append, List.mem_append] at hc
    rcases hc with hc | hc
    · exact g1 c hc
    · exact h2 c hc
  · rw [if_neg c, emp_appU]
    exact ⟨h2, by omega⟩
def letOk (t : ByteArray) : Prop := ∀ c, c ∈ bl t → c = 97 ∨ c = 98 ∨ c = 99 ∨ c = 100
/-- the program's loop -/
theorem unl_prog (all : List S63) (lt : ByteArray) (hall : all.length ≤ 161) (hz : lt.size = all.length) (hlt : letOk lt) : ∀ (l : List S63) (i : Nat) (K : List ByteArray) (out : ByteArray), all.drop i = l → K.length = i → (∀ t, t ∈ K → letOk t ∧ t.size ≤ 160) → letOk out → out.size ≤ 160 →
    Evt (fun k => parse_Unlearn.l0 k all lt ((⟨#[]⟩ : ByteArray) :: K) out all (all.length : Int) (i : Int)) (match unl lt l i K out with | some o => if eqL (learnF o o.size 0 [] []) all = true then (o, 0) else ((⟨#[]⟩ : ByteArray), 2) | none => ((⟨#[]⟩ : ByteArray), 2))
  | [], i, K, out, hi, hKl, hK, ho, hos => by
    have : all.length ≤ i := List.drop_eq_nil_iff.1 hi
    have hw : isWordC out = true := word_of_mem out hos ho
    rw [unl]
    refine Evt.step (g' := fun k => (api_Factor_81.f k (learnF out out.size 0 [] []) all).bind fun t695 => (if t695 = true then (some (out, 0)) else (some ((⟨#[]⟩ : ByteArray), 2)))) (fun k => ?_) (Evt.bind (equalL_ev _ _ ?_) ?_)
    · rw [parse_Unlearn.l0, if_neg (by omega), parse_isWord.f, hw, Option.bind_some, if_pos rfl, parse_learn.f, if_pos hos]; rfl
    · have hll : ∀ (q i : Nat) known (o : List S63), (learnF out q i known o).length ≤ o.length + q := by
        intro q
        induction q with
        | zero => intro i known o; simp [learnF]
        | succ q ih =>
          intro i known o
          rw [learnF]
          split
          · refine Nat.le_trans (ih _ _ _) ?_
            rw [List.length_append, List.length_singleton]; omega
          · omega
      have := hll out.size 0 [] []
      simp only [List.length_nil] at this
      omega
    · show Evt (fun k => if eqL (learnF out out.size 0 [] []) all = true then some (out, (0 : Int)) else some ((⟨#[]⟩ : ByteArray), (2 : Int))) (if eqL (learnF out out.size 0 [] []) all = true then (out, (0 : Int)) else ((⟨#[]⟩ : ByteArray), (2 : Int)))
      exact Evt.if_ (fun _ => Evt.all (fun _ => rfl)) (fun _ => Evt.all (fun _ => rfl))
  | x :: l, i, K, out, hi, hKl, hK, ho, hos => by
    have hli : i < all.length := by
      apply Decidable.byContradiction
      intro hn
      rw [List.drop_eq_nil_of_le (by omega)] at hi
      cases hi
    have hd := List.drop_eq_getElem_cons hli
    rw [hi] at hd
    injection hd with h1 h2
    have e : rd_T63 all (i : Int) = x := by rw [h1]; exact rd63_at all i hli
    have w1 : Aside0 (wrap64 ((i : Int) + 1) = ((i + 1 : Nat) : Int)) := ⟨(wr (by omega) (by omega)).trans (by omega)⟩
    have hx : lt.extract (i : Int).toNat ((i + 1 : Nat) : Int).toNat = lt.extract i (i + 1) := by rw [Int.toNat_natCast, Int.toNat_natCast]
    rw [unl]
    by_cases c : 0 ≤ x.f0 ∧ x.f0 ≤ (i : Int)
    · rw [if_pos c]
      obtain ⟨s1, s2⟩ := unS_ok lt K x i hlt hK (by omega)
      have b1 : parse_within.f x.f0 0 (i : Int) = some true := by rw [parse_within.f, if_pos c.1, decide_eq_true c.2]
      have e3 : rdOf ByteArray.empty ((⟨#[]⟩ : ByteArray) :: K) x.f0 ++ lt.extract i (i + 1) = unS lt K x i := by
        unfold unS
        congr 1
        by_cases c2 : 0 < x.f0
        · rw [if_pos c2]
          unfold rdOf
          obtain ⟨f, hf⟩ : ∃ f : Nat, x.f0 = ((f + 1 : Nat) : Int) := ⟨x.f0.toNat - 1, by omega⟩
          rw [hf, Int.toNat_natCast, show (((f + 1 : Nat) : Int) - 1).toNat = f by omega]
          rfl
        · rw [if_neg c2, show x.f0 = 0 by omega]
          rfl
      have hKz : ((⟨#[]⟩ : ByteArray) :: K).length = i + 1 := by rw [List.length_cons, hKl]
      have sz1 : (rdOf ByteArray.empty ((⟨#[]⟩ : ByteArray) :: K) x.f0).size + (lt.extract i (i + 1)).size ≤ 9223372036854775807 := by
        have := congrArg ByteArray.size e3
        rw [ByteArray.size_append] at this
        omega
      have one : ∀ k, parse_Unlearn.l0 (k + 1) all lt ((⟨#[]⟩ : ByteArray) :: K) out all (all.length : Int) (i : Int) = parse_Unlearn.l0 k all lt ((⟨#[]⟩ : ByteArray) :: (K ++ [unS lt K x i])) (out ++ unS lt K x i) all (all.length : Int) ((i + 1 : Nat) : Int) := by
        intro k
        rw [parse_Unlearn.l0, if_pos (by omega), if_pos (by omega), if_pos (by omega), e, b1, Option.bind_some, if_pos rfl, if_neg (by omega), if_pos c.1, if_pos (by omega), w1.out, if_pos (by omega), if_pos (by omega), hx, if_pos sz1, if_pos (by omega), e3, if_pos (by omega)]
        rfl
      by_cases c2 : 160 < (out ++ unS lt K x i).size
      · rw [if_pos c2]
        refine Evt.step one ?_
        -- one round later: the sum is too long
        by_cases c3 : i + 1 < all.length
        · have e4 := rd63_at all (i + 1) c3
          refine Evt.now fun k => ?_
          rw [parse_Unlearn.l0, if_pos (by omega), if_pos (by omega), if_pos (by omega), parse_within.f]
          by_cases c4 : (rd_T63 all ((i + 1 : Nat) : Int)).f0 ≥ 0
          · rw [if_pos c4, Option.bind_some]
            by_cases c5 : (rd_T63 all ((i + 1 : Nat) : Int)).f0 ≤ ((i + 1 : Nat) : Int)
            · rw [decide_eq_true c5, if_pos rfl, if_pos (by omega)]
            · rw [decide_eq_false c5, if_neg (by decide)]
          · rw [if_neg c4, Option.bind_some, if_neg (by decide)]
        · have hw : isWordC (out ++ unS lt K x i) = false := by
            cases hh : isWordC (out ++ unS lt K x i) with
            | false => rfl
            | true => have := ((isWordC_iff _).1 hh).1; omega
          refine Evt.now fun k => ?_
          rw [parse_Unlearn.l0, if_neg (by omega), parse_isWord.f, hw, Option.bind_some, if_neg (by decide)]
      · rw [if_neg c2]
        have s3 := ByteArray.size_append (a := out) (b := unS lt K x i)
        refine Evt.step one (unl_prog all lt hall hz hlt l (i + 1) (K ++ [unS lt K x i]) (out ++ unS lt K x i) h2.symm (by rw [List.length_append, List.length_singleton, hKl]) (fun t ht => ?_) (fun c hc => ?_) (by omega))
        · rcases List.mem_append.1 ht with ht | ht
          · exact hK t ht
          · rw [List.mem_singleton] at ht
            subst ht
            exact ⟨s1, by omega⟩
        · rw [bl_append, List.mem_append] at hc
          rcases hc with hc | hc
          · exact ho c hc
          · exact s1 c hc
    · rw [if_neg c]
      have b1 : parse_within.f x.f0 0 (i : Int) = some false := by
        rw [parse_within.f]
        by_cases c1 : x.f0 ≥ 0
        · rw [if_pos c1, decide_eq_false (fun h => c ⟨c1, h⟩)]
        · rw [if_neg c1]
      refine Evt.now fun k => ?_
      rw [parse_Unlearn.l0, if_pos (by omega), if_pos (by omega), if_pos (by omega), e, b1, Option.bind_some, if_neg (by decide)]
theorem unS_size (lt : ByteArray) (K : List ByteArray) (x : S63) (i : Nat) (hK : ∀ t, t ∈ K → t.size ≤ 160) (hx : x.f0 ≤ K.length) : (unS lt K x i).size ≤ 161 := by
  have h3 : (lt.extract i (i + 1)).size ≤ 1 := by rw [ByteArray.size_extract]; omega
  unfold unS
  by_cases c : 0 < x.f0
  · rw [if_pos c]
    have hlt2 : (x.f0 - 1).toNat < K.length := by omega
    have e : rdOf ByteArray.empty K (x.f0 - 1) = K[(x.f0 - 1).toNat] := by
      unfold rdOf
      rw [List.getD_eq_getElem?_getD, List.getElem?_eq_getElem hlt2]; rfl
    have := hK _ (List.getElem_mem hlt2)
    rw [e, ByteArray.size_append]; omega
  · rw [if_neg c, emp_appU]; omega
/-- the reference's loop -/
theorem unl_ref (all : List S63) (lt : ByteArray) (hall : all.length ≤ 161) (hz : lt.size = all.length) : ∀ (l : List S63) (i : Nat) (K : List ByteArray) (out : ByteArray), all.drop i = l → K.length = i → (∀ t, t ∈ K → t.size ≤ 160) → out.size ≤ 160 →
    Evt (fun k => numnahref09_Unlearn.l0 k all lt out K (i : Int)) (match unl lt l i K out with | some o => (o, eqL (learnF o o.size 0 [] []) all) | none => ((⟨#[]⟩ : ByteArray), false))
  | [], i, K, out, hi, hKl, hK, hos => by
    have : all.length ≤ i := List.drop_eq_nil_iff.1 hi
    rw [unl]
    have hll : ∀ (q i : Nat) known (o : List S63), (learnF out q i known o).length ≤ o.length + q := by
      intro q
      induction q with
      | zero => intro i known o; simp [learnF]
      | succ q ih =>
        intro i known o
        rw [learnF]
        split
        · refine Nat.le_trans (ih _ _ _) ?_
          rw [List.length_append, List.length_singleton]; omega
        · omega
    have hl2 := hll out.size 0 [] []
    simp only [List.length_nil] at hl2
    refine Evt.step (g' := fun k => (numnahref09_Learning.f k out).bind fun t862 => ((numnahref09_Same.f k t862 all).bind fun t865 => (some (out, t865)))) (fun k => ?_) (Evt.bind (refLearning_ev out hos) (Evt.bind (sameL_ev _ _ (by omega)) (Evt.all (fun _ => rfl))))
    rw [numnahref09_Unlearn.l0, if_neg (by omega)]
  | x :: l, i, K, out, hi, hKl, hK, hos => by
    have hli : i < all.length := by
      apply Decidable.byContradiction
      intro hn
      rw [List.drop_eq_nil_of_le (by omega)] at hi
      cases hi
    have hd := List.drop_eq_getElem_cons hli
    rw [hi] at hd
    injection hd with h1 h2
    have e : rd_T63 all (i : Int) = x := by rw [h1]; exact rd63_at all i hli
    have w1 : Aside0 (wrap64 ((i : Int) + 1) = ((i + 1 : Nat) : Int)) := ⟨(wr (by omega) (by omega)).trans (by omega)⟩
    have hx : lt.extract (i : Int).toNat ((i + 1 : Nat) : Int).toNat = lt.extract i (i + 1) := by rw [Int.toNat_natCast, Int.toNat_natCast]
    rw [unl]
    have bad : Evt (fun k => numnahref09_Unlearn.j1 k all lt out K (i : Int) true) ((⟨#[]⟩ : ByteArray), false) := by
      refine Evt.now fun k => ?_
      rw [numnahref09_Unlearn.j1, if_pos rfl]
    by_cases c : 0 ≤ x.f0 ∧ x.f0 ≤ (i : Int)
    · rw [if_pos c]
      have s2 := unS_size lt K x i hK (by omega)
      have s3 := ByteArray.size_append (a := out) (b := unS lt K x i)
      refine Evt.step (g' := fun k => numnahref09_Unlearn.j1 k all lt out K (i : Int) false) (fun k => by rw [numnahref09_Unlearn.l0, if_pos (by omega), if_pos (by omega), e, if_neg (by omega), decide_eq_false (by omega)]) ?_
      have one : ∀ k, numnahref09_Unlearn.j1 (k + 1) all lt out K (i : Int) false = (if ((out ++ unS lt K x i).size : Int) > 160 then (some ((⟨#[]⟩ : ByteArray), false)) else (numnahref09_Unlearn.l0 k all lt (out ++ unS lt K x i) (K ++ [unS lt K x i]) ((i + 1 : Nat) : Int))) := by
        intro k
        by_cases c2 : x.f0 > 0
        · have w2 : Aside0 (wrap64 (x.f0 - 1) = x.f0 - 1) := ⟨wr (by omega) (by omega)⟩
          have e3 : rdOf ByteArray.empty K (x.f0 - 1) ++ lt.extract i (i + 1) = unS lt K x i := by unfold unS; rw [if_pos c2]
          have sz1 : (rdOf ByteArray.empty K (x.f0 - 1)).size + (lt.extract i (i + 1)).size ≤ 9223372036854775807 := by
            have := congrArg ByteArray.size e3
            rw [ByteArray.size_append] at this
            omega
          rw [numnahref09_Unlearn.j1, if_neg (by decide), if_pos (by omega), w1.out, if_pos (by omega), if_pos (by omega), if_pos (by omega), e, if_pos c2, w2.out, if_pos (by omega), if_pos (by omega), hx, if_pos sz1, if_pos (by omega), e3, if_pos (by omega)]
        · have e3 : lt.extract i (i + 1) = unS lt K x i := by unfold unS; rw [if_neg c2, emp_appU]
          rw [numnahref09_Unlearn.j1, if_neg (by decide), if_pos (by omega), w1.out, if_pos (by omega), if_pos (by omega), if_pos (by omega), e, if_neg c2, hx, e3, if_pos (by omega), if_pos (by omega)]
      by_cases c2 : 160 < (out ++ unS lt K x i).size
      · rw [if_pos c2]
        refine Evt.now fun k => ?_
        rw [one, if_pos (by omega)]
      · rw [if_neg c2]
        refine Evt.step (fun k => by rw [one, if_neg (by omega)]) (unl_ref all lt hall hz l (i + 1) (K ++ [unS lt K x i]) (out ++ unS lt K x i) h2.symm (by rw [List.length_append, List.length_singleton, hKl]) (fun t ht => ?_) (by omega))
        rcases List.mem_append.1 ht with ht | ht
        · exact hK t ht
        · rw [List.mem_singleton] at ht
          subst ht
          omega
    · rw [if_neg c]
      by_cases c2 : x.f0 < 0
      · refine Evt.step (fun k => ?_) bad
        rw [numnahref09_Unlearn.l0, if_pos (by omega), if_pos (by omega), e, if_pos c2]
      · refine Evt.step (fun k => ?_) bad
        rw [numnahref09_Unlearn.l0, if_pos (by omega), if_pos (by omega), e, if_neg c2, decide_eq_true (by omega)]
/-- what both tell -/
def unlR (l : List S63) (lt : ByteArray) : Option ByteArray := if lt.size = l.length then (match unl lt l 0 [] ⟨#[]⟩ with | some o => if eqL (learnF o o.size 0 [] []) l = true then some o else none | none => none) else none
theorem unlearn_ev (l : List S63) (lt : ByteArray) (hl : l.length ≤ 161) (hw : isWordC lt = true) : Evt (fun k => parse_Unlearn.f k l lt) (match unlR l lt with | some o => (o, 0) | none => ((⟨#[]⟩ : ByteArray), 2)) := by
  unfold parse_Unlearn.f unlR
  refine Evt.bind (Evt.all (fun _ => show parse_isWord.f lt = some (isWordC lt) from rfl)) (Evt.pos hw ?_)
  by_cases c : lt.size = l.length
  · rw [if_pos c, show ((l.length : Int) != (lt.size : Int)) = false from bne_eq_false_iff_eq.2 (by omega)]
    refine Evt.step (g' := fun k => parse_Unlearn.l0 k l lt ([(⟨#[]⟩ : ByteArray)]) (⟨#[]⟩ : ByteArray) l (l.length : Int) ((0 : Nat) : Int)) (fun k => by rw [parse_Unlearn.j0, if_neg (by decide)]; rfl) ?_
    refine Evt.val (unl_prog l lt hl c (ok_mem lt hw) l 0 [] ⟨#[]⟩ rfl rfl (fun t ht => by simp at ht) (fun c hc => by simp [bl] at hc) (by simp [ByteArray.size])) ?_
    cases unl lt l 0 [] ⟨#[]⟩ with
    | none => rfl
    | some o =>
      dsimp only
      cases eqL (learnF o o.size 0 [] []) l <;> rfl
  · rw [if_neg c, show ((l.length : Int) != (lt.size : Int)) = true from bne_iff_ne.2 (by omega)]
    refine Evt.now fun k => ?_
    rw [parse_Unlearn.j0, if_pos rfl]
theorem unlearn_no (l : List S63) (lt : ByteArray) (hw : isWordC lt = false) : Evt (fun k => parse_Unlearn.f k l lt) ((⟨#[]⟩ : ByteArray), 2) := by
  unfold parse_Unlearn.f
  refine Evt.bind (Evt.all (fun _ => show parse_isWord.f lt = some (isWordC lt) from rfl)) (Evt.neg (by rw [hw]; decide) ?_)
  refine Evt.now fun k => ?_
  rw [parse_Unlearn.j0, if_pos rfl]
theorem refUnlearn_ev (l : List S63) (lt : ByteArray) (hl : l.length ≤ 161) : ∃ r : ByteArray × Bool, Evt (fun k => numnahref09_Unlearn.f k l lt) r ∧ (match unlR l lt with | some o => r = (o, true) | none => r.2 = false) := by
  unfold numnahref09_Unlearn.f unlR
  by_cases c : lt.size = l.length
  · rw [if_pos c]
    refine ⟨_, Evt.pos (by omega) (unl_ref l lt hl c l 0 [] ⟨#[]⟩ rfl rfl (fun t ht => by simp at ht) (by simp [ByteArray.size])), ?_⟩
    cases unl lt l 0 [] ⟨#[]⟩ with
    | none => rfl
    | some o =>
      dsimp only
      cases he : eqL (learnF o o.size 0 [] []) l
      · rw [if_neg (by decide)]
      · rw [if_pos rfl]
  · rw [if_neg c]
    exact ⟨_, Evt.neg (by omega) (Evt.all (fun _ => rfl)), rfl⟩
end Go.Proofs.YtpeeflkodpnbpaaDoor.Pr

/- awake() answers true. -/
namespace Go.Proofs.YtpeeflkodpnbpaaDoor.Pr
open Go.RowKit Go.Proofs.YtpeeflkodpnbpaaDoorW.PrintWords Go.Proofs.YtpeeflkodpnbpaaDoorW.PrintLast Go.Proofs.YtpeeflkodpnbpaaDoorW.PrintMore
set_option linter.unusedVariables false
set_option maxRecDepth 1000000 in
theorem awake_run : numnahlaw09_awake.f 200 = some true := by kernel_rfl
theorem awake_ev : Evt (fun k => numnahlaw09_awake.f k) true := ⟨200, fun k hk => at_rounds (fun k => numnahlaw09_awake.mono k) hk awake_run⟩
theorem awake_bind : Evt (fun k => (numnahlaw09_awake.f k).bind fun t => some t) true := Evt.congr awake_ev (fun k => by cases numnahlaw09_awake.f k <;> rfl)
/-- short(s): at most 161 bytes -/
def shortS (s : ByteArray) : ByteArray := s.extract 0 (min s.size 161)
theorem shortS_size (s : ByteArray) : (shortS s).size ≤ 161 := by unfold shortS; rw [ByteArray.size_extract]; omega
theorem short_some (s : ByteArray) : numnahlaw09_short.f s = some (shortS s) := by
  unfold numnahlaw09_short.f mn
  by_cases h : (161 : Int) < (s.size : Int)
  · rw [if_pos h, if_pos (by omega), if_pos (by omega)]
    congr 1
    unfold shortS
    congr 1
    omega
  · rw [if_neg h, if_pos (by omega), if_pos (by omega)]
    congr 1
    unfold shortS
    congr 1
    omega
end Go.Proofs.YtpeeflkodpnbpaaDoor.Pr

namespace Go.Proofs.YtpeeflkodpnbpaaDoor.Pure
open Go.RowKit Go.Proofs.YtpeeflkodpnbpaaDoor.Pr Go.Proofs.YtpeeflkodpnbpaaDoorW.PrintWords Go.Proofs.YtpeeflkodpnbpaaDoorW.PrintLast
set_option linter.unusedVariables false
set_option linter.unusedSimpArgs false

theorem plan_some (l : List S63) : numnahlaw09_plan.f l = some (l.take 161) := by
  have e : (mn (l.length : Int) 161).toNat = min l.length 161 := by unfold mn; split <;> omega
  have e0 : 0 ≤ mn (l.length : Int) 161 := by unfold mn; split <;> omega
  have e1 : mn (l.length : Int) 161 ≤ (l.length : Int) := by unfold mn; split <;> omega
  rw [numnahlaw09_plan.f, if_pos e0, if_pos e1, e, Option.bind_some, if_pos (by rw [List.length_take]; simp; omega), List.nil_append]
  congr 1
  exact List.take_eq_take_iff.2 (by omega)
theorem emp_l : (⟨#[]⟩ : ByteArray).toList = [] := ByteArray.toList_eq _
/-- the end: Unlearn's answer -/
theorem rd_j2 (u : ByteArray) (f : Int) (o : ByteArray) (is : Bool) (h : (is = true ∧ u = o ∧ f = 0) ∨ (is = false ∧ u = ⟨#[]⟩ ∧ f = 2)) : Evt (fun k => numnahlaw09_ParseReads.j2 k u f o is false) true := by
  refine Evt.step (fun k => ?_) awake_bind
  rcases h with ⟨rfl, rfl, rfl⟩ | ⟨rfl, rfl, rfl⟩
  · rw [numnahlaw09_ParseReads.j2, if_neg (by decide), if_pos rfl, if_pos rfl, if_pos rfl]
  · rw [numnahlaw09_ParseReads.j2, if_neg (by decide), if_neg (by decide), if_pos emp_l, if_pos rfl]
theorem ParseReads : numnahlaw09_ParseReads.Pure := by
  intro l0 a1
  intros
  apply Evt.ex
  have hsz := shortS_size a1
  have hw := word_ev (shortS a1) (by omega)
  show Evt (fun k => numnahlaw09_ParseReads.f k l0 a1) true
  unfold numnahlaw09_ParseReads.f
  refine Evt.bind (Evt.all (fun _ => plan_some l0)) (Evt.bind (Evt.all (fun _ => short_some a1)) ?_)
  generalize shortS a1 = s at *
  have hl : (l0.take 161).length ≤ 161 := by rw [List.length_take]; omega
  generalize l0.take 161 = l at *
  have e1 : parse_Read.f l s = some (readF l s) := by rw [parse_Read.f, if_pos (by omega)]
  have hrr := refRead_ev l (by omega) s (by omega)
  obtain ⟨ru, hru, hru2⟩ := refUnlearn_ev l s hl
  -- what Unlearn tells, and what the law says of it
  obtain ⟨uu, huu, hu3⟩ : ∃ uu : ByteArray × Int, Evt (fun k => parse_Unlearn.f k l s) uu ∧ ((ru.2 = true ∧ isWordC s = true → uu = (ru.1, 0)) ∧ (¬ (ru.2 = true ∧ isWordC s = true) → uu = (⟨#[]⟩, 2))) := by
    cases hc : isWordC s with
    | false => exact ⟨_, unlearn_no l s hc, fun h => by simp at h, fun _ => rfl⟩
    | true =>
      have := unlearn_ev l s hl hc
      cases hR : unlR l s with
      | none =>
        rw [hR] at this hru2
        have hru2 : ru.2 = false := hru2
        exact ⟨_, this, fun h => by rw [hru2] at h; simp at h, fun _ => rfl⟩
      | some o =>
        rw [hR] at this hru2
        have hru2 : ru = (o, true) := hru2
        exact ⟨_, this, fun _ => by rw [hru2], fun h => absurd ⟨by rw [hru2], rfl⟩ h⟩
  have hrd : (reaR s l [] 0).2 = true ∧ isWordC s = true → readF l s = ((reaR s l [] 0).1, 0) := by
    rintro ⟨h1, h2⟩
    unfold reaR at h1 ⊢
    by_cases c : okP l ([] : List Int).length ∧ 0 + sgl l ≤ s.size
    · rw [if_pos c] at h1 ⊢
      have h3 : 0 + sgl l = s.size := of_decide_eq_true h1
      unfold readF
      rw [if_pos ⟨h2, c.1, by omega⟩]
    · rw [if_neg c] at h1
      cases h1
  have hrd2 : ¬ ((reaR s l [] 0).2 = true ∧ isWordC s = true) → readF l s = (⟨#[]⟩, 2) := by
    intro h
    unfold readF
    rw [if_neg]
    rintro ⟨g1, g2, g3⟩
    apply h
    refine ⟨?_, g1⟩
    unfold reaR
    rw [if_pos ⟨g2, by omega⟩]
    exact decide_eq_true (by omega)
  generalize reaR s l [] 0 = rr at *
  refine Evt.bind (Evt.all (fun _ => e1)) (Evt.bind huu (Evt.bind hrr (Evt.bind hru ?_)))
  have hw2 := hw
  -- the two flags
  have fin : ∀ ok is : Bool, ok = (rr.2 && isWordC s) → is = (ru.2 && isWordC s) → Evt (fun k => numnahlaw09_ParseReads.j1 k (readF l s).1 (readF l s).2 uu.1 uu.2 rr.1 ok ru.1 is) true := by
    intro ok is h1 h2
    have hj2 : Evt (fun k => numnahlaw09_ParseReads.j2 k uu.1 uu.2 ru.1 is false) true := by
      apply rd_j2
      cases hi : is with
      | true =>
        rw [hi] at h2
        have := hu3.1 (by rw [← Bool.and_eq_true]; exact h2.symm)
        exact .inl ⟨rfl, by rw [this], by rw [this]⟩
      | false =>
        rw [hi] at h2
        have := hu3.2 (by rw [← Bool.and_eq_true, ← h2]; decide)
        exact .inr ⟨rfl, by rw [this], by rw [this]⟩
    refine Evt.step (fun k => ?_) hj2
    cases ho : ok with
    | true =>
      rw [ho] at h1
      have := hrd (by rw [← Bool.and_eq_true]; exact h1.symm)
      rw [numnahlaw09_ParseReads.j1, if_pos rfl, this, if_pos rfl]
      rfl
    | false =>
      rw [ho] at h1
      have := hrd2 (by rw [← Bool.and_eq_true, ← h1]; decide)
      rw [numnahlaw09_ParseReads.j1, if_neg (by decide), this, if_pos emp_l, if_pos rfl]
  have mid : ∀ ok : Bool, ok = (rr.2 && isWordC s) → Evt (fun k => numnahlaw09_ParseReads.j0 k s (readF l s).1 (readF l s).2 uu.1 uu.2 rr.1 ok ru.1 ru.2) true := by
    intro ok h1
    cases hi : ru.2 with
    | true =>
      refine Evt.step (g' := fun k => (numnahref09_Word.f k s).bind fun t890 => (numnahlaw09_ParseReads.j1 k (readF l s).1 (readF l s).2 uu.1 uu.2 rr.1 ok ru.1 t890)) (fun k => by rw [numnahlaw09_ParseReads.j0, if_pos rfl]) (Evt.bind hw ?_)
      exact fin ok _ h1 (by rw [hi]; simp)
    | false =>
      refine Evt.step (fun k => ?_) (fin ok false h1 (by rw [hi]; rfl))
      rw [numnahlaw09_ParseReads.j0, if_neg (by decide)]
  cases ho : rr.2 with
  | true =>
    refine Evt.pos rfl (Evt.bind hw ?_)
    exact mid _ (by rw [ho]; simp)
  | false =>
    refine Evt.neg (by decide) ?_
    exact mid _ (by rw [ho]; rfl)
end Go.Proofs.YtpeeflkodpnbpaaDoor.Pure
