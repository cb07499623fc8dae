/- the reference's End, Size, Term: what they answer. -/
import Derived.Test.YtaafeallcaiooaaGreatHEv
import Derived.Test.YtaafeallcaiooaaGreatHPt
import Derived.Test.YtaafeallcaiooaaGreatPrA3
namespace Go.Proofs.YtaafeallcaiooaaGreat.Pr
open Go.RowKit Go.Proofs.YtaafeallcaiooaaGreatW.PrintWords Go.Proofs.YtaafeallcaiooaaGreatW.PrintLast Go.Proofs.YtaafeallcaiooaaGreatW.PrintMore
set_option linter.unusedVariables false
set_option linter.unusedSimpArgs false
/-- how many parts a character has; -1: no letter -/
def prt (c : Int) : Int := if c = 97 ∨ c = 98 ∨ (120 ≤ c ∧ c ≤ 122) then 0 else if c = 99 ∨ c = 100 then 1 else if c = 101 ∨ c = 102 then 2 else -1
theorem partsE (c : Int) : Evt (fun k => numnahref08_Parts.f k c) (prt c) := by
 have h0 : ∀ x, Evt (fun k => numnahref08_Parts.j0 k x true) 0 := fun x => Evt.now fun k => by rw [numnahref08_Parts.j0, if_pos rfl]
 by_cases h97 : c = 97
 ·subst h97
  exact (h0 97).congr fun k => by unfold numnahref08_Parts.f; rw [if_pos rfl]
 ·by_cases h98 : c = 98
  ·subst h98
   exact (h0 98).congr fun k => by unfold numnahref08_Parts.f; rw [if_neg (by decide), if_pos rfl]
  ·by_cases hv : 120 ≤ c ∧ c ≤ 122
   ·have e : prt c = 0 := by unfold prt; rw [if_pos (.inr (.inr hv))]
    rw [e]
    refine (h0 c).congr fun k => ?_
    unfold numnahref08_Parts.f numnahref08_Variable.f
    rw [if_neg h97, if_neg h98, if_pos hv.1, Option.bind_some, decide_eq_true hv.2]
   ·have hf : ∀ k, numnahref08_Parts.f k c = numnahref08_Parts.j0 k c false := fun k => by
     unfold numnahref08_Parts.f numnahref08_Variable.f
     rw [if_neg h97, if_neg h98]
     by_cases h1 : c ≥ 120
     ·rw [if_pos h1, Option.bind_some, decide_eq_false (fun h2 => hv ⟨h1, h2⟩)]
     ·rw [if_neg h1, Option.bind_some]
    refine Evt.congr ?_ hf
    have e : prt c = if c = 99 ∨ c = 100 then 1 else if c = 101 ∨ c = 102 then 2 else -1 := by
     unfold prt
     rw [if_neg (fun h => h.elim h97 (fun h => h.elim h98 hv))]
    rw [e]
    have h1 : ∀ x, Evt (fun k => numnahref08_Parts.j1 k x true) 1 := fun x => Evt.now fun k => by rw [numnahref08_Parts.j1, if_pos rfl]
    by_cases h99 : c = 99
    ·rw [if_pos (.inl h99)]
     exact Evt.step (g' := fun k => numnahref08_Parts.j1 k c true) (fun k => by rw [numnahref08_Parts.j0, if_neg (by simp), if_pos h99]) (h1 c)
    ·by_cases h100 : c = 100
     ·rw [if_pos (.inr h100)]
      exact Evt.step (g' := fun k => numnahref08_Parts.j1 k c true) (fun k => by rw [numnahref08_Parts.j0, if_neg (by simp), if_neg h99, h100]; rfl) (h1 c)
     ·rw [if_neg (fun h => h.elim h99 h100)]
      refine Evt.step (g' := fun k => numnahref08_Parts.j1 k c false) (fun k => by rw [numnahref08_Parts.j0, if_neg (by simp), if_neg h99, beq_eq_false_iff_ne.2 h100]) (Evt.now fun k => ?_)
      rw [numnahref08_Parts.j1, if_neg (by simp)]
      by_cases h101 : c = 101
      ·rw [if_pos h101, if_pos (.inl h101)]
      ·by_cases h102 : c = 102
       ·rw [if_neg h101, if_pos h102, if_pos (.inr h102)]
       ·rw [if_neg h101, if_neg h102, if_neg (fun h => h.elim h101 h102)]
def ltrB (c : Int) : Bool := decide (prt c ≥ 0)
theorem letterE (c : Int) : Evt (fun k => numnahref08_letter.f k c) (ltrB c) := Evt.bind (partsE c) (Evt.all fun _ => rfl)
theorem prt_sym {s : Int} (h : 97 ≤ s ∧ s ≤ 102) : prt s = nParts s := by
 have : s = 97 ∨ s = 98 ∨ s = 99 ∨ s = 100 ∨ s = 101 ∨ s = 102 := by omega
 rcases this with rfl | rfl | rfl | rfl | rfl | rfl <;> decide
theorem prt_var {s : Int} (h : 120 ≤ s ∧ s ≤ 122) : prt s = 0 := by unfold prt; rw [if_pos (.inr (.inr h))]
theorem prt_inv {c : Int} (h : prt c ≥ 0) : (97 ≤ c ∧ c ≤ 102) ∨ (120 ≤ c ∧ c ≤ 122) := by
 unfold prt at h
 split at h
 ·omega
 ·split at h
  ·omega
  ·split at h
   ·omega
   ·omega
/-! ### End -/
theorem at_cons {s : ByteArray} {i : Nat} {c : UInt8} {r : List UInt8} (h : s.data.toList.drop i = c :: r) : i < s.size ∧ bt s (i : Int) = (c.toNat : Int) ∧ s.data.toList.drop (i + 1) = r := by
 have hl : i < s.data.toList.length := by
  rcases Nat.lt_or_ge i s.data.toList.length with h1 | h1
  ·exact h1
  ·rw [List.drop_eq_nil_of_le h1] at h; cases h
 have hi : i < s.size := by simpa using hl
 rw [List.drop_eq_getElem_cons hl] at h
 injection h with h1 h2
 refine ⟨hi, ?_, h2⟩
 have e : bt s (i : Int) = ((s[i]'hi).toNat : Int) := by simp [bt, hi]
 rw [e, ← h1]
 simp
 rfl
def EndOk (s : ByteArray) (t : Tm) : Prop := ∀ (i : Nat) (r : List UInt8), s.data.toList.drop i = t.tx ++ r → Evt (fun k => numnahref08_End.f k s (i : Int)) ((i : Int) + t.tx.length)
theorem wrN {i : Nat} (s : ByteArray) (hs : s.size ≤ 140737488351232) (h : i ≤ s.size) : wrap64 ((i : Int) + 1) = ((i + 1 : Nat) : Int) := (wr (by omega) (by omega)).trans (by omega)
theorem drop_app {l : List UInt8} {i : Nat} {a r : List UInt8} (h : l.drop i = a ++ r) : l.drop (i + a.length) = r := by
 rw [← List.drop_drop, h, List.drop_left]
theorem end_l0 (s : ByteArray) (hs : s.size ≤ 140737488351232) (n : Nat) (hn : 0 < n) (hn2 : n ≤ 2) : ∀ (l : List Tm) (j p : Nat) (r : List UInt8), (∀ x, x ∈ l → EndOk s x) → j + l.length = n → s.data.toList.drop p = txM j l ++ 41 :: r →
  Evt (fun k => numnahref08_End.l0 k s (p : Int) (n : Int) (j : Int)) ((p : Int) + (txM j l).length + 1)
 | [], j, p, r, hx, hj, h => by
  rw [txM, List.nil_append] at h
  obtain ⟨h1, h2, h3⟩ := at_cons h
  have hj2 : j = n := by simpa using hj
  refine Evt.now fun k => ?_
  rw [numnahref08_End.l0, if_neg (by omega), if_pos (by omega), if_neg (by omega), if_pos (by omega), if_pos (by omega), h2, if_pos (by decide), wrN s hs (by omega), txM]
  congr 1
 | x :: l, j, p, r, hx, hj, h => by
  rw [txM, List.cons_append, List.append_assoc] at h
  obtain ⟨h1, h2, h3⟩ := at_cons h
  have hlen : j < n := by rw [List.length_cons] at hj; omega
  have hsz : p + 1 + x.tx.length ≤ s.size := by
   have h4 := congrArg List.length h3
   rw [List.length_drop, List.length_append] at h4
   have : s.data.toList.length = s.size := by simp
   omega
  have hE := hx x (by simp) (p + 1) _ h3
  have hrest := end_l0 s hs n hn hn2 l (j + 1) (p + 1 + x.tx.length) r (fun y hy => hx y (by simp [hy])) (by rw [List.length_cons] at hj; omega) (drop_app h3)
  have hw := wrN s hs (i := p) (by omega)
  have hwj : wrap64 ((j : Int) + 1) = ((j + 1 : Nat) : Int) := (wr (by omega) (by omega)).trans (by omega)
  have hj2 : Evt (fun k => numnahref08_End.j2 k s (p : Int) (n : Int) (j : Int) false) ((p : Int) + (txM j (x :: l)).length + 1) := by
   refine Evt.step (g' := fun k => (numnahref08_End.f k s (wrap64 ((p : Int) + 1))).bind fun t175 => (if t175 < 0 then (some (-1)) else (numnahref08_End.l0 k s t175 (n : Int) (wrap64 ((j : Int) + 1))))) (fun k => by rw [numnahref08_End.j2, if_neg (by simp)]) ?_
   rw [hw, hwj]
   refine Evt.bind hE ?_
   refine Evt.neg (by omega) ?_
   have e : ((p + 1 : Nat) : Int) + x.tx.length = ((p + 1 + x.tx.length : Nat) : Int) := by omega
   rw [e]
   refine hrest.val ?_
   rw [txM, List.length_cons, List.length_append]
   omega
  refine Evt.step (g' := fun k => numnahref08_End.j2 k s (p : Int) (n : Int) (j : Int) false) (fun k => ?_) hj2
  rw [numnahref08_End.l0, if_pos (by omega), if_neg (by omega)]
  have hm : bt s (p : Int) = mark j := by rw [h2, mark_nat]
  by_cases hj0 : j = 0
  ·subst hj0
   rw [if_pos (by rfl), if_pos (by omega), if_pos (by omega), hm, if_pos (by rfl), if_neg (by decide)]
  ·rw [if_neg (by omega), if_pos (by omega), if_pos (by omega), if_pos (by omega), hm]
   unfold mark
   rw [if_neg hj0]
   rfl
theorem rEndE (s : ByteArray) (hs : s.size ≤ 140737488351232) : ∀ t : Tm, t.good → EndOk s t := by
 have hstart : ∀ (i : Nat) (c : UInt8) (r : List UInt8), s.data.toList.drop i = c :: r → prt (c.toNat : Int) ≥ 0 → ∀ e, Evt (fun k => numnahref08_End.l0 k s ((i + 1 : Nat) : Int) (prt (c.toNat : Int)) 0) e → Evt (fun k => numnahref08_End.f k s (i : Int)) e := by
  intro i c r h hp e hE
  obtain ⟨h1, h2, h3⟩ := at_cons h
  refine Evt.step (g' := fun k => (numnahref08_letter.f k (bt s (i : Int))).bind fun t173 => numnahref08_End.j0 k s (i : Int) (!t173)) (fun k => by rw [numnahref08_End.f, if_neg (by omega), if_pos (by omega), if_pos (by omega)]) ?_
  rw [h2]
  refine Evt.bind (letterE _) ?_
  unfold ltrB
  rw [decide_eq_true hp]
  refine Evt.step (g' := fun k => (numnahref08_Parts.f k (bt s (i : Int))).bind fun t174 => numnahref08_End.l0 k s (wrap64 ((i : Int) + 1)) t174 0) (fun k => by show numnahref08_End.j0 (k + 1) s (i : Int) false = _; rw [numnahref08_End.j0, if_neg (by simp), if_pos (by omega), if_pos (by omega)]) ?_
  rw [h2, wrN s hs (by omega)]
  exact Evt.bind (partsE _) hE
 refine Tm.ind (fun c hg i r h => ?_) (fun sy l ih hg i r h => ?_)
 ·rw [Tm.good] at hg
  rw [Tm.tx, List.cons_append] at h
  have hc := ch_toNat (c := c) (by omega)
  refine hstart i (ch c) _ h (by rw [hc, prt_var hg]; omega) _ ?_
  rw [hc, prt_var hg, Tm.tx]
  refine Evt.now fun k => ?_
  rw [numnahref08_End.l0, if_neg (by decide), if_neg (by decide)]
  rfl
 ·have hl2 := good_len hg
  rw [Tm.good] at hg
  rw [tx_app2 sy l hl2, List.cons_append] at h
  have hc := ch_toNat (c := sy) (by omega)
  have hp := prt_sym hg.1
  refine hstart i (ch sy) _ h (by rw [hc, hp, ← hg.2.1]; omega) _ ?_
  obtain ⟨h1, h2, h3⟩ := at_cons h
  rw [hc, hp, ← hg.2.1, tx_app2 sy l hl2]
  by_cases h0 : l.length = 0
  ·rw [h0, if_pos rfl]
   refine Evt.now fun k => ?_
   rw [numnahref08_End.l0, if_neg (by decide), if_neg (by decide)]
   rfl
  ·rw [if_neg h0] at h3 ⊢
   rw [List.append_assoc] at h3
   refine (end_l0 s hs l.length (by omega) hl2 l 0 (i + 1) r (fun x hx => ih x hx (goods_mem hg.2.2 hx)) (by omega) h3).val ?_
   rw [List.length_cons, List.length_append]
   simp
   omega
end Go.Proofs.YtaafeallcaiooaaGreat.Pr
-- indented by one
