/- the reference's End always answers; Size; Term. -/
import Derived.Test.YtaafeallcaiooaaGreatHEv
import Derived.Test.YtaafeallcaiooaaGreatHPt
import Derived.Test.YtaafeallcaiooaaGreatPrA3
/- the reference's End, Size, Term: what they answer. -/
namespace Go.Proofs.YtaafeallcaiooaaGreat.Pr
open Go.RowKit Go.Proofs.YtaafeallcaiooaaGreatW.PrintWords Go.Proofs.YtaafeallcaiooaaGreatW.PrintLast Go.Proofs.YtaafeallcaiooaaGreatW.PrintMore
set_option linter.unusedVariables false
set_option linter.unusedSimpArgs false
/-- how many parts a character has; -1: no letter -/
def prt (c : Int) : Int := if c = 97 ∨ c = 98 ∨ (120 ≤ c ∧ c ≤ 122) then 0 else if c = 99 ∨ c = 100 then 1 else if c = 101 ∨ c = 102 then 2 else -1
theorem partsE (c : Int) : Evt (fun k => numnahref08_Parts.f k c) (prt c) := by
 have h0 : ∀ x, Evt (fun k => numnahref08_Parts.j0 k x true) 0 := fun x => Evt.now fun k => by rw [numnahref08_Parts.j0, if_pos rfl]
 by_cases h97 : c = 97
 ·subst h97
  exact (h0 97).congr fun k => by unfold numnahref08_Parts.f; rw [if_pos rfl]
 ·by_cases h98 : c = 98
  ·subst h98
   exact (h0 98).congr fun k => by unfold numnahref08_Parts.f; rw [if_neg (by decide), if_pos rfl]
  ·by_cases hv : 120 ≤ c ∧ c ≤ 122
   ·have e : prt c = 0 := by unfold prt; rw [if_pos (.inr (.inr hv))]
    rw [e]
    refine (h0 c).congr fun k => ?_
    unfold numnahref08_Parts.f numnahref08_Variable.f
    rw [if_neg h97, if_neg h98, if_pos hv.1, Option.bind_some, decide_eq_true hv.2]
   ·have hf : ∀ k, numnahref08_Parts.f k c = numnahref08_Parts.j0 k c false := fun k => by
     unfold numnahref08_Parts.f numnahref08_Variable.f
     rw [if_neg h97, if_neg h98]
     by_cases h1 : c ≥ 120
     ·rw [if_pos h1, Option.bind_some, decide_eq_false (fun h2 => hv ⟨h1, h2⟩)]
     ·rw [if_neg h1, Option.bind_some]
    refine Evt.congr ?_ hf
    have e : prt c = if c = 99 ∨ c = 100 then 1 else if c = 101 ∨ c = 102 then 2 else -1 := by
     unfold prt
     rw [if_neg (fun h => h.elim h97 (fun h => h.elim h98 hv))]
    rw [e]
    have h1 : ∀ x, Evt (fun k => numnahref08_Parts.j1 k x true) 1 := fun x => Evt.now fun k => by rw [numnahref08_Parts.j1, if_pos rfl]
    by_cases h99 : c = 99
    ·rw [if_pos (.inl h99)]
     exact Evt.step (g' := fun k => numnahref08_Parts.j1 k c true) (fun k => by rw [numnahref08_Parts.j0, if_neg (by simp), if_pos h99]) (h1 c)
    ·by_cases h100 : c = 100
     ·rw [if_pos (.inr h100)]
      exact Evt.step (g' := fun k => numnahref08_Parts.j1 k c true) (fun k => by rw [numnahref08_Parts.j0, if_neg (by simp), if_neg h99, h100]; rfl) (h1 c)
     ·rw [if_neg (fun h => h.elim h99 h100)]
      refine Evt.step (g' := fun k => numnahref08_Parts.j1 k c false) (fun k => by rw [numnahref08_Parts.j0, if_neg (by simp), if_neg h99, beq_eq_false_iff_ne.2 h100]) (Evt.now fun k => ?_)
      rw [numnahref08_Parts.j1, if_neg (by simp)]
      by_cases h101 : c = 101
      ·rw [if_pos h101, if_pos (.inl h101)]
      ·by_cases h102 : c = 102
       ·rw [if_neg h101, if_pos h102, if_pos (.inr h102)]
       ·rw [if_neg h101, if_neg h102, if_neg (fun h => h.elim h101 h102)]
def ltrB (c : Int) : Bool := decide (prt c ≥ 0)
theorem letterE (c : Int) : Evt (fun k => numnahref08_letter.f k c) (ltrB c) := Evt.bind (partsE c) (Evt.all fun _ => rfl)
theorem prt_sym {s : Int} (h : 97 ≤ s ∧ s ≤ 102) : prt s = nParts s := by
 have : s = 97 ∨ s = 98 ∨ s = 99 ∨ s = 100 ∨ s = 101 ∨ s = 102 := by omega
 rcases this with rfl | rfl | rfl | rfl | rfl | rfl <;> decide
theorem prt_var {s : Int} (h : 120 ≤ s ∧ s ≤ 122) : prt s = 0 := by unfold prt; rw [if_pos (.inr (.inr h))]
theorem prt_inv {c : Int} (h : prt c ≥ 0) : (97 ≤ c ∧ c ≤ 102) ∨ (120 ≤ c ∧ c ≤ 122) := by
 unfold prt at h
 split at h
 ·omega
 ·split at h
  ·omega
  ·split at h
   ·omega
   ·omega
/-! ### End -/
theorem at_cons {s : ByteArray} {i : Nat} {c : UInt8} {r : List UInt8} (h : s.data.toList.drop i = c :: r) : i < s.size ∧ bt s (i : Int) = (c.toNat : Int) ∧ s.data.toList.drop (i + 1) = r := by
 have hl : i < s.data.toList.length := by
  rcases Nat.lt_or_ge i s.data.toList.length with h1 | h1
  ·exact h1
  ·rw [List.drop_eq_nil_of_le h1] at h; cases h
 have hi : i < s.size := by simpa using hl
 rw [List.drop_eq_getElem_cons hl] at h
 injection h with h1 h2
 refine ⟨hi, ?_, h2⟩
 have e : bt s (i : Int) = ((s[i]'hi).toNat : Int) := by simp [bt, hi]
 rw [e, ← h1]
 simp
 rfl
def EndOk (s : ByteArray) (t : Tm) : Prop := ∀ (i : Nat) (r : List UInt8), s.data.toList.drop i = t.tx ++ r → Evt (fun k => numnahref08_End.f k s (i : Int)) ((i : Int) + t.tx.length)
theorem wrN {i : Nat} (s : ByteArray) (hs : s.size ≤ 140737488351232) (h : i ≤ s.size) : wrap64 ((i : Int) + 1) = ((i + 1 : Nat) : Int) := (wr (by omega) (by omega)).trans (by omega)
theorem drop_app {l : List UInt8} {i : Nat} {a r : List UInt8} (h : l.drop i = a ++ r) : l.drop (i + a.length) = r := by
 rw [← List.drop_drop, h, List.drop_left]
theorem end_l0 (s : ByteArray) (hs : s.size ≤ 140737488351232) (n : Nat) (hn : 0 < n) (hn2 : n ≤ 2) : ∀ (l : List Tm) (j p : Nat) (r : List UInt8), (∀ x, x ∈ l → EndOk s x) → j + l.length = n → s.data.toList.drop p = txM j l ++ 41 :: r →
  Evt (fun k => numnahref08_End.l0 k s (p : Int) (n : Int) (j : Int)) ((p : Int) + (txM j l).length + 1)
 | [], j, p, r, hx, hj, h => by
  rw [txM, List.nil_append] at h
  obtain ⟨h1, h2, h3⟩ := at_cons h
  have hj2 : j = n := by simpa using hj
  refine Evt.now fun k => ?_
  rw [numnahref08_End.l0, if_neg (by omega), if_pos (by omega), if_neg (by omega), if_pos (by omega), if_pos (by omega), h2, if_pos (by decide), wrN s hs (by omega), txM]
  congr 1
 | x :: l, j, p, r, hx, hj, h => by
  rw [txM, List.cons_append, List.append_assoc] at h
  obtain ⟨h1, h2, h3⟩ := at_cons h
  have hlen : j < n := by rw [List.length_cons] at hj; omega
  have hsz : p + 1 + x.tx.length ≤ s.size := by
   have h4 := congrArg List.length h3
   rw [List.length_drop, List.length_append] at h4
   have : s.data.toList.length = s.size := by simp
   omega
  have hE := hx x (by simp) (p + 1) _ h3
  have hrest := end_l0 s hs n hn hn2 l (j + 1) (p + 1 + x.tx.length) r (fun y hy => hx y (by simp [hy])) (by rw [List.length_cons] at hj; omega) (drop_app h3)
  have hw := wrN s hs (i := p) (by omega)
  have hwj : wrap64 ((j : Int) + 1) = ((j + 1 : Nat) : Int) := (wr (by omega) (by omega)).trans (by omega)
  have hj2 : Evt (fun k => numnahref08_End.j2 k s (p : Int) (n : Int) (j : Int) false) ((p : Int) + (txM j (x :: l)).length + 1) := by
   refine Evt.step (g' := fun k => (numnahref08_End.f k s (wrap64 ((p : Int) + 1))).bind fun t175 => (if t175 < 0 then (some (-1)) else (numnahref08_End.l0 k s t175 (n : Int) (wrap64 ((j : Int) + 1))))) (fun k => by rw [numnahref08_End.j2, if_neg (by simp)]) ?_
   rw [hw, hwj]
   refine Evt.bind hE ?_
   refine Evt.neg (by omega) ?_
   have e : ((p + 1 : Nat) : Int) + x.tx.length = ((p + 1 + x.tx.length : Nat) : Int) := by omega
   rw [e]
   refine hrest.val ?_
   rw [txM, List.length_cons, List.length_append]
   omega
  refine Evt.step (g' := fun k => numnahref08_End.j2 k s (p : Int) (n : Int) (j : Int) false) (fun k => ?_) hj2
  rw [numnahref08_End.l0, if_pos (by omega), if_neg (by omega)]
  have hm : bt s (p : Int) = mark j := by rw [h2, mark_nat]
  by_cases hj0 : j = 0
  ·subst hj0
   rw [if_pos (by rfl), if_pos (by omega), if_pos (by omega), hm, if_pos (by rfl), if_neg (by decide)]
  ·rw [if_neg (by omega), if_pos (by omega), if_pos (by omega), if_pos (by omega), hm]
   unfold mark
   rw [if_neg hj0]
   rfl
theorem rEndE (s : ByteArray) (hs : s.size ≤ 140737488351232) : ∀ t : Tm, t.good → EndOk s t := by
 have hstart : ∀ (i : Nat) (c : UInt8) (r : List UInt8), s.data.toList.drop i = c :: r → prt (c.toNat : Int) ≥ 0 → ∀ e, Evt (fun k => numnahref08_End.l0 k s ((i + 1 : Nat) : Int) (prt (c.toNat : Int)) 0) e → Evt (fun k => numnahref08_End.f k s (i : Int)) e := by
  intro i c r h hp e hE
  obtain ⟨h1, h2, h3⟩ := at_cons h
  refine Evt.step (g' := fun k => (numnahref08_letter.f k (bt s (i : Int))).bind fun t173 => numnahref08_End.j0 k s (i : Int) (!t173)) (fun k => by rw [numnahref08_End.f, if_neg (by omega), if_pos (by omega), if_pos (by omega)]) ?_
  rw [h2]
  refine Evt.bind (letterE _) ?_
  unfold ltrB
  rw [decide_eq_true hp]
  refine Evt.step (g' := fun k => (numnahref08_Parts.f k (bt s (i : Int))).bind fun t174 => numnahref08_End.l0 k s (wrap64 ((i : Int) + 1)) t174 0) (fun k => by show numnahref08_End.j0 (k + 1) s (i : Int) false = _; rw [numnahref08_End.j0, if_neg (by simp), if_pos (by omega), if_pos (by omega)]) ?_
  rw [h2, wrN s hs (by omega)]
  exact Evt.bind (partsE _) hE
 refine Tm.ind (fun c hg i r h => ?_) (fun sy l ih hg i r h => ?_)
 ·rw [Tm.good] at hg
  rw [Tm.tx, List.cons_append] at h
  have hc := ch_toNat (c := c) (by omega)
  refine hstart i (ch c) _ h (by rw [hc, prt_var hg]; omega) _ ?_
  rw [hc, prt_var hg, Tm.tx]
  refine Evt.now fun k => ?_
  rw [numnahref08_End.l0, if_neg (by decide), if_neg (by decide)]
  rfl
 ·have hl2 := good_len hg
  rw [Tm.good] at hg
  rw [tx_app2 sy l hl2, List.cons_append] at h
  have hc := ch_toNat (c := sy) (by omega)
  have hp := prt_sym hg.1
  refine hstart i (ch sy) _ h (by rw [hc, hp, ← hg.2.1]; omega) _ ?_
  obtain ⟨h1, h2, h3⟩ := at_cons h
  rw [hc, hp, ← hg.2.1, tx_app2 sy l hl2]
  by_cases h0 : l.length = 0
  ·rw [h0, if_pos rfl]
   refine Evt.now fun k => ?_
   rw [numnahref08_End.l0, if_neg (by decide), if_neg (by decide)]
   rfl
  ·rw [if_neg h0] at h3 ⊢
   rw [List.append_assoc] at h3
   refine (end_l0 s hs l.length (by omega) hl2 l 0 (i + 1) r (fun x hx => ih x hx (goods_mem hg.2.2 hx)) (by omega) h3).val ?_
   rw [List.length_cons, List.length_append]
   simp
   omega
end Go.Proofs.YtaafeallcaiooaaGreat.Pr
-- indented by one
namespace Go.Proofs.YtaafeallcaiooaaGreat.Pr
open Go.RowKit Go.Proofs.YtaafeallcaiooaaGreatW.PrintWords Go.Proofs.YtaafeallcaiooaaGreatW.PrintLast Go.Proofs.YtaafeallcaiooaaGreatW.PrintMore
set_option linter.unusedVariables false
set_option linter.unusedSimpArgs false
theorem at_get (s : ByteArray) (i : Nat) (h : i < s.size) : ∃ c : UInt8, s.data.toList.drop i = c :: s.data.toList.drop (i + 1) ∧ bt s (i : Int) = (c.toNat : Int) := by
 have hl : i < s.data.toList.length := by simpa using h
 have e := List.drop_eq_getElem_cons hl
 exact ⟨_, e, (at_cons e).2.1⟩
theorem Evt.uniq {α : Type} {g : Nat → Option α} {a b : α} (h : Evt g a) (h' : Evt g b) : a = b := by
 obtain ⟨K, h1⟩ := h
 obtain ⟨K', h2⟩ := h'
 have e1 := h1 (max K K') (by omega)
 have e2 := h2 (max K K') (by omega)
 rw [e1] at e2
 injection e2
def TotE (s : ByteArray) (i : Nat) : Prop := ∃ e, Evt (fun k => numnahref08_End.f k s (i : Int)) e ∧ (e = -1 ∨ ∃ (t : Tm) (r : List UInt8), t.good ∧ s.data.toList.drop i = t.tx ++ r ∧ e = (i : Int) + t.tx.length)
theorem j2_true (s : ByteArray) (p n j : Int) : Evt (fun k => numnahref08_End.j2 k s p n j true) (-1) := Evt.now fun k => by rw [numnahref08_End.j2, if_pos rfl]
theorem mark_ne (j : Nat) (hj : j ≠ 0) : mark j = 44 := by unfold mark; rw [if_neg hj]
theorem tot_l0 (s : ByteArray) (hs : s.size ≤ 140737488351232) (n : Nat) (hn2 : n ≤ 2) (i : Nat) (ih : ∀ p, i < p → p ≤ s.size → TotE s p) : ∀ (m j p : Nat), j + m = n → i < p → p ≤ s.size →
  ∃ e, Evt (fun k => numnahref08_End.l0 k s (p : Int) (n : Int) (j : Int)) e ∧ (e = -1 ∨ ∃ l r, Tm.goods l ∧ l.length = m ∧ s.data.toList.drop p = txM j l ++ (if n = 0 then r else 41 :: r) ∧ e = (p : Int) + (txM j l).length + (if n = 0 then 0 else 1))
 | 0, j, p, hj, hip, hps => by
  have hjn : j = n := by omega
  by_cases h0 : n = 0
  ·refine ⟨(p : Int), Evt.now fun k => ?_, .inr ⟨[], s.data.toList.drop p, by rw [Tm.goods]; trivial, rfl, by rw [if_pos h0]; rfl, by rw [if_pos h0]; simp [txM]⟩⟩
   rw [numnahref08_End.l0, if_neg (by omega), if_neg (by omega)]
  ·by_cases hp : p < s.size
   ·obtain ⟨c, hc, hb⟩ := at_get s p hp
    by_cases h41 : (c.toNat : Int) = 41
    ·have hcc : c = 41 := UInt8.toNat_inj.1 (by have : (41 : UInt8).toNat = 41 := rfl; omega)
     refine ⟨((p + 1 : Nat) : Int), Evt.now fun k => ?_, .inr ⟨[], s.data.toList.drop (p + 1), by rw [Tm.goods]; trivial, rfl, by rw [if_neg h0, hc, hcc]; rfl, by rw [if_neg h0]; simp [txM]⟩⟩
     rw [numnahref08_End.l0, if_neg (by omega), if_pos (by omega), if_neg (by omega), if_pos (by omega), if_pos (by omega), hb, if_pos h41, wrN s hs (by omega)]
    ·refine ⟨-1, Evt.now fun k => ?_, .inl rfl⟩
     rw [numnahref08_End.l0, if_neg (by omega), if_pos (by omega), if_neg (by omega), if_pos (by omega), if_pos (by omega), hb, if_neg h41]
   ·refine ⟨-1, Evt.now fun k => ?_, .inl rfl⟩
    rw [numnahref08_End.l0, if_neg (by omega), if_pos (by omega), if_pos (by omega)]
 | m + 1, j, p, hj, hip, hps => by
  have h0 : ¬ n = 0 := by omega
  by_cases hp : p < s.size
  ·obtain ⟨c, hc, hb⟩ := at_get s p hp
   have hstep : ∀ b : Bool, (b = false ↔ (c.toNat : Int) = mark j) → ∀ k, numnahref08_End.l0 (k + 1) s (p : Int) (n : Int) (j : Int) = numnahref08_End.j2 k s (p : Int) (n : Int) (j : Int) b := by
    intro b hbm k
    rw [numnahref08_End.l0, if_pos (by omega), if_neg (by omega)]
    by_cases hj0 : j = 0
    ·subst hj0
     rw [if_pos (by rfl), if_pos (by omega), if_pos (by omega), hb]
     have hm : mark 0 = 40 := rfl
     rw [hm] at hbm
     by_cases h40 : (c.toNat : Int) = 40
     ·rw [if_pos h40, if_neg (by decide), hbm.2 h40]
     ·rw [if_neg h40]
      cases b with
      | true => rfl
      | false => exact absurd (hbm.1 rfl) h40
    ·rw [if_neg (by omega), if_pos (by omega), if_pos (by omega), if_pos (by omega), hb]
     rw [mark_ne j hj0] at hbm
     congr 1
     by_cases h44 : (c.toNat : Int) = 44
     ·rw [hbm.2 h44, h44]; rfl
     ·cases b with
      | true => exact bne_iff_ne.2 h44
      | false => exact absurd (hbm.1 rfl) h44
   by_cases hm : (c.toNat : Int) = mark j
   ·obtain ⟨e1, hE1, hor⟩ := ih (p + 1) (by omega) (by omega)
    have hw := wrN s hs (i := p) (by omega)
    have hwj : wrap64 ((j : Int) + 1) = ((j + 1 : Nat) : Int) := (wr (by omega) (by omega)).trans (by omega)
    have hj2 : ∀ e, Evt (fun k => if e1 < 0 then some (-1) else numnahref08_End.l0 k s e1 (n : Int) ((j + 1 : Nat) : Int)) e → Evt (fun k => numnahref08_End.l0 k s (p : Int) (n : Int) (j : Int)) e := fun e hE => by
     refine Evt.step (g' := fun k => numnahref08_End.j2 k s (p : Int) (n : Int) (j : Int) false) (hstep false ⟨fun _ => hm, fun _ => rfl⟩) ?_
     refine Evt.step (g' := fun k => (numnahref08_End.f k s (wrap64 ((p : Int) + 1))).bind fun t175 => (if t175 < 0 then (some (-1)) else (numnahref08_End.l0 k s t175 (n : Int) (wrap64 ((j : Int) + 1))))) (fun k => by rw [numnahref08_End.j2, if_neg (by simp)]) ?_
     rw [hw, hwj]
     exact Evt.bind hE1 hE
    rcases hor with rfl | ⟨t, r, hg, hd, rfl⟩
    ·exact ⟨-1, hj2 _ (Evt.pos (by omega) (Evt.all fun _ => rfl)), .inl rfl⟩
    ·have hsz : p + 1 + t.tx.length ≤ s.size := by
      have h4 := congrArg List.length hd
      rw [List.length_drop, List.length_append] at h4
      have : s.data.toList.length = s.size := by simp
      omega
     have e : ((p + 1 : Nat) : Int) + t.tx.length = ((p + 1 + t.tx.length : Nat) : Int) := by omega
     obtain ⟨e2, hE2, hor2⟩ := tot_l0 s hs n hn2 i ih m (j + 1) (p + 1 + t.tx.length) (by omega) (by omega) hsz
     refine ⟨e2, hj2 _ (Evt.neg (by omega) (by rw [e]; exact hE2)), ?_⟩
     rcases hor2 with rfl | ⟨l, r', hgl, hll, hd2, rfl⟩
     ·exact .inl rfl
     ·refine .inr ⟨t :: l, r', by rw [Tm.goods]; exact ⟨hg, hgl⟩, by rw [List.length_cons, hll], ?_, ?_⟩
      ·have hr : r = s.data.toList.drop (p + 1 + t.tx.length) := (drop_app hd).symm
       have hcm : c = UInt8.ofNat (mark j).toNat := mark_of hm
       rw [hc, hd, hr, hd2, txM, hcm]
       simp
      ·rw [txM, List.length_cons, List.length_append]
       omega
   ·exact ⟨-1, Evt.step (hstep true ⟨fun h => (by cases h), fun h => absurd h hm⟩) (j2_true _ _ _ _), .inl rfl⟩
  ·refine ⟨-1, Evt.step (g' := fun k => numnahref08_End.j2 k s (p : Int) (n : Int) (j : Int) true) (fun k => ?_) (j2_true _ _ _ _), .inl rfl⟩
   rw [numnahref08_End.l0, if_pos (by omega), if_pos (by omega)]
theorem end_tot (s : ByteArray) (hs : s.size ≤ 140737488351232) : ∀ (n i : Nat), s.size - i ≤ n → i ≤ s.size → TotE s i := by
 intro n
 induction n with
 | zero =>
  intro i h1 h2
  refine ⟨-1, Evt.step (g' := fun k => numnahref08_End.j0 k s (i : Int) true) (fun k => ?_) (Evt.now fun k => ?_), .inl rfl⟩
  ·rw [numnahref08_End.f, if_pos (by omega)]
  ·rw [numnahref08_End.j0, if_pos rfl]
 | succ n ih =>
  intro i h1 h2
  by_cases hi : i < s.size
  ·obtain ⟨c, hc, hb⟩ := at_get s i hi
   have hf : ∀ e, Evt (fun k => numnahref08_End.j0 k s (i : Int) (!ltrB (c.toNat : Int))) e → Evt (fun k => numnahref08_End.f k s (i : Int)) e := fun e hE => by
    refine Evt.step (g' := fun k => (numnahref08_letter.f k (bt s (i : Int))).bind fun t173 => numnahref08_End.j0 k s (i : Int) (!t173)) (fun k => by rw [numnahref08_End.f, if_neg (by omega), if_pos (by omega), if_pos (by omega)]) ?_
    rw [hb]
    exact Evt.bind (letterE _) hE
   by_cases hp : prt (c.toNat : Int) ≥ 0
   ·have hl : ltrB (c.toNat : Int) = true := decide_eq_true hp
    have hpn : ∃ m : Nat, prt (c.toNat : Int) = (m : Int) ∧ m ≤ 2 := by
     refine ⟨(prt (c.toNat : Int)).toNat, by omega, ?_⟩
     unfold prt
     split
     ·decide
     ·split
      ·decide
      ·split <;> decide
    obtain ⟨m, hm, hm2⟩ := hpn
    obtain ⟨e, hE, hor⟩ := tot_l0 s hs m hm2 i (fun p h3 h4 => ih p (by omega) h4) m 0 (i + 1) (by omega) (by omega) (by omega)
    refine ⟨e, hf e ?_, ?_⟩
    ·rw [hl]
     refine Evt.step (g' := fun k => (numnahref08_Parts.f k (bt s (i : Int))).bind fun t174 => numnahref08_End.l0 k s (wrap64 ((i : Int) + 1)) t174 0) (fun k => by show numnahref08_End.j0 (k + 1) s (i : Int) false = _; rw [numnahref08_End.j0, if_neg (by simp), if_pos (by omega), if_pos (by omega)]) ?_
     rw [hb, wrN s hs (by omega)]
     refine Evt.bind (partsE _) ?_
     rw [hm]
     exact hE
    ·rcases hor with rfl | ⟨l, r, hgl, hll, hd, rfl⟩
     ·exact .inl rfl
     ·rcases prt_inv hp with h97 | h120
      ·have hpm := prt_sym h97
       have hg : (Tm.app (c.toNat : Int) l).good := by
        rw [Tm.good]
        exact ⟨h97, by omega, hgl⟩
       refine .inr ⟨.app (c.toNat : Int) l, r, hg, ?_, ?_⟩
       ·rw [hc, hd, tx_app2 _ _ (good_len hg), ch_of]
        by_cases h0 : m = 0
        ·have h00 : l.length = 0 := by omega
         rw [if_pos h0, if_pos h00, List.length_eq_zero_iff.1 h00]
         rfl
        ·rw [if_neg h0, if_neg (by omega)]
         simp
       ·rw [tx_app2 _ _ (good_len hg), List.length_cons]
        by_cases h0 : m = 0
        ·have h00 : l.length = 0 := by omega
         rw [if_pos h0, if_pos h00, List.length_eq_zero_iff.1 h00]
         simp [txM]
        ·rw [if_neg h0, if_neg (by omega), List.length_append]
         simp
         omega
      ·have hp0 := prt_var h120
       have hm0 : m = 0 := by omega
       have hl0 : l = [] := List.length_eq_zero_iff.1 (by omega)
       subst hl0
       rw [if_pos hm0] at hd ⊢
       refine .inr ⟨.var (c.toNat : Int), r, by rw [Tm.good]; exact h120, ?_, ?_⟩
       ·rw [hc, hd, Tm.tx, ch_of]; rfl
       ·rw [Tm.tx]; simp [txM]
   ·have hl : ltrB (c.toNat : Int) = false := decide_eq_false hp
    refine ⟨-1, hf _ ?_, .inl rfl⟩
    rw [hl]
    exact Evt.now fun k => by show numnahref08_End.j0 (k + 1) s (i : Int) true = _; rw [numnahref08_End.j0, if_pos rfl]
  ·exact ih i (by omega) h2
/-! ### Size -/
def cnt : List UInt8 → Nat
 | [] => 0
 | c :: l => (if ltrB (c.toNat : Int) = true then 1 else 0) + cnt l
theorem cnt_app : ∀ a b : List UInt8, cnt (a ++ b) = cnt a + cnt b
 | [], b => by simp [cnt]
 | c :: a, b => by rw [List.cons_append, cnt, cnt, cnt_app a b]; omega
theorem cnt_le : ∀ l : List UInt8, cnt l ≤ l.length
 | [] => Nat.le_refl _
 | c :: l => by rw [cnt, List.length_cons]; have := cnt_le l; split <;> omega
theorem sizeL (s : ByteArray) (hs : s.size ≤ 140737488351232) : ∀ (n i a : Nat), s.size - i ≤ n → i ≤ s.size → a ≤ i → Evt (fun k => numnahref08_Size.l0 k s (a : Int) (i : Int)) ((a + cnt (s.data.toList.drop i) : Nat) : Int) := by
 intro n
 induction n with
 | zero =>
  intro i a h1 h2 h3
  refine Evt.now fun k => ?_
  rw [numnahref08_Size.l0, if_neg (by omega), List.drop_eq_nil_of_le (by simp; omega)]
  rfl
 | succ n ih =>
  intro i a h1 h2 h3
  by_cases hi : i < s.size
  ·obtain ⟨c, hc, hb⟩ := at_get s i hi
   refine Evt.step (g' := fun k => (numnahref08_letter.f k (bt s (i : Int))).bind fun t172 => (if t172 = true then (numnahref08_Size.l0 k s (wrap64 ((a : Int) + 1)) (wrap64 ((i : Int) + 1))) else (numnahref08_Size.l0 k s (a : Int) (wrap64 ((i : Int) + 1))))) (fun k => by rw [numnahref08_Size.l0, if_pos (by omega), if_pos (by omega)]) ?_
   rw [hb]
   refine Evt.bind (letterE _) ?_
   have hw := wrN s hs (i := i) (by omega)
   have hwa := wrN s hs (i := a) (by omega)
   rw [hw, hwa, hc, cnt]
   cases hl : ltrB (c.toNat : Int) with
   | true =>
    refine Evt.pos rfl ((ih (i + 1) (a + 1) (by omega) (by omega) (by omega)).val ?_)
    rw [if_pos rfl]
    omega
   | false =>
    refine Evt.neg (by simp) ((ih (i + 1) a (by omega) (by omega) (by omega)).val ?_)
    rw [if_neg (by simp)]
    omega
  ·exact ih i a (by omega) h2 h3
theorem sizeE' (s : ByteArray) (hs : s.size ≤ 140737488351232) : Evt (fun k => numnahref08_Size.f k s) (cnt s.data.toList : Int) := by
 have := sizeL s hs s.size 0 0 (by omega) (by omega) (by omega)
 rw [List.drop_zero, Nat.zero_add] at this
 exact this
theorem cnt_tx : ∀ t : Tm, t.good → (cnt t.tx : Int) = t.size := by
 have hM : ∀ (l : List Tm) (i : Nat), (∀ x, x ∈ l → (cnt x.tx : Int) = x.size) → (cnt (txM i l) : Int) = Tm.sizes l := by
  intro l
  induction l with
  | nil => intro i _; rw [txM, Tm.sizes]; rfl
  | cons x l ih =>
   intro i h
   have hm : ltrB (((UInt8.ofNat (mark i).toNat).toNat : Nat) : Int) = false := by
    rw [mark_nat]
    unfold mark
    split <;> decide
   rw [txM, cnt, hm, if_neg (by simp), cnt_app, Tm.sizes]
   have h1 := h x (by simp)
   have h2 := ih (i + 1) (fun y hy => h y (by simp [hy]))
   omega
 refine Tm.ind (fun c hg => ?_) (fun s l ih hg => ?_)
 ·rw [Tm.good] at hg
  have hc := ch_toNat (c := c) (by omega)
  have hl : ltrB c = true := by unfold ltrB; rw [prt_var hg]; decide
  rw [Tm.tx, cnt, hc, hl, if_pos rfl, Tm.size]
  rfl
 ·have hl2 := good_len hg
  rw [Tm.good] at hg
  have hc := ch_toNat (c := s) (by omega)
  have hl : ltrB s = true := by unfold ltrB; rw [prt_sym hg.1]; exact decide_eq_true (by omega)
  rw [tx_app2 s l hl2, cnt, hc, hl, if_pos rfl, Tm.size]
  by_cases h0 : l.length = 0
  ·rw [if_pos h0, List.length_eq_zero_iff.1 h0, Tm.sizes]; rfl
  ·rw [if_neg h0, cnt_app]
   have h1 := hM l 0 (fun x hx => ih x hx (goods_mem hg.2.2 hx))
   have h2 : cnt [41] = 0 := rfl
   omega
/-! ### Term -/
theorem termRE (s : ByteArray) (hs : s.size ≤ 140737488351232) : Evt (fun k => numnahref08_Term.f k s) (readT s).isSome := by
 obtain ⟨e, hE, hor⟩ := end_tot s hs s.size 0 (by omega) (by omega)
 refine Evt.bind hE ?_
 by_cases he : e = (s.size : Int)
 ·refine Evt.pos he (Evt.bind (sizeE' s hs) (Evt.all fun k => ?_))
  rcases hor with h | ⟨t, r, hg, hd, h⟩
  ·omega
  ·have hr : r = [] := by
    have h4 := congrArg List.length hd
    rw [List.length_drop, List.length_append] at h4
    have h5 : s.data.toList.length = s.size := by simp
    exact List.length_eq_zero_iff.1 (by omega)
   rw [hr, List.append_nil, List.drop_zero] at hd
   have hst : s = t.text := by rw [← B8_of s, hd]; rfl
   have hc := cnt_tx t hg
   rw [hd]
   by_cases h60 : t.size ≤ 60
   ·rw [hst, readT_back hg h60, decide_eq_true (by omega)]; rfl
   ·rw [decide_eq_false (by omega)]
    cases hR : readT s with
    | none => rfl
    | some u =>
     have h6 := readT_iff.1 hR
     have : u = t := text_inj h6.1 hg (h6.2.2.symm.trans hst)
     subst this
     exact absurd h6.2.1 h60
 ·refine Evt.neg he (Evt.all fun k => ?_)
  cases hR : readT s with
  | none => rfl
  | some u =>
   exfalso
   have h6 := readT_iff.1 hR
   have hd : s.data.toList.drop 0 = u.tx ++ [] := by
    rw [List.drop_zero, List.append_nil, h6.2.2]
    exact B8_list _
   have h7 := hE.uniq (rEndE s hs u h6.1 0 [] hd)
   refine he (h7.trans ?_)
   rw [h6.2.2, show u.text.size = u.tx.length from B8_size _]
   simp
end Go.Proofs.YtaafeallcaiooaaGreat.Pr
-- indented by one
