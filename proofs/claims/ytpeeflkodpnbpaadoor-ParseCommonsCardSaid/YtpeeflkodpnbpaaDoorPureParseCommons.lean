/- ParseCommons, plainly: Common returns the first one of the longest strings that occur in two words, or ErrArg. -/
import Derived.Test.YtpeeflkodpnbpaaDoorPrB6
import Derived.Test.YtpeeflkodpnbpaaDoorHAw
import Derived.Test.YtpeeflkodpnbpaaDoorHPar
namespace Go.Proofs.YtpeeflkodpnbpaaDoor.Pr
open Go.RowKit Go.Proofs.YtpeeflkodpnbpaaDoorW.PrintWords Go.Proofs.YtpeeflkodpnbpaaDoorW.PrintLast Go.Proofs.YtpeeflkodpnbpaaDoorW.PrintMore
set_option linter.unusedVariables false
set_option linter.unusedSimpArgs false

/-! ### the reference's list of different substrings -/
theorem insD_at (x : ByteArray) : ∀ (l : List ByteArray) (p : Nat), p ≤ l.length → (∀ y, y ∈ l.take p → Op.bytesLess y.toList x.toList = true) → insD x l = l.take p ++ insD x (l.drop p)
  | l, 0, _, _ => by simp
  | [], p + 1, h, _ => by simp at h
  | y :: l, p + 1, h, hl => by
    rw [List.take_succ_cons, List.drop_succ_cons, insD, if_pos (hl y (by simp)), List.cons_append, ← insD_at x l p (by simpa using h) (fun z hz => hl z (by simp [hz]))]
theorem part_l1 (s : ByteArray) (n : Nat) (hs : s.size ≤ 200) (l : List ByteArray) (hl : l.length ≤ 400) (i : Nat) (hi : i ≤ 400) (x : ByteArray) (r : List ByteArray) : ∀ (m p : Nat), p + m = l.length → (∀ y, y ∈ l.take p → Op.bytesLess y.toList x.toList = true) →
    Evt (fun k => numnahref09_parts.l0 k s (n : Int) (insD x l) ((i + 1 : Nat) : Int)) r → Evt (fun k => numnahref09_parts.l1 k s (n : Int) l (i : Int) x (p : Int)) r := by
  have w : Aside0 (wrap64 ((i : Int) + 1) = ((i + 1 : Nat) : Int)) := ⟨(wr (by omega) (by omega)).trans (by omega)⟩
  have fin : ∀ p, p ≤ l.length → ∀ k, ((some (l.take (p : Int).toNat : List ByteArray)).bind fun y384 => (if ([] : List ByteArray).length + y384.length < 8796093022208 then ((some (([] : List ByteArray) ++ y384 : List ByteArray)).bind fun y388 => (if y388.length < 8796093022208 then ((some (y388 ++ [x] : List ByteArray)).bind fun y391 => ((some (l.drop (p : Int).toNat : List ByteArray)).bind fun y394 => (if y391.length + y394.length < 8796093022208 then (numnahref09_parts.l0 k s (n : Int) (y391 ++ y394) (wrap64 ((i : Int) + 1))) else (none)))) else (none))) else (none))) = numnahref09_parts.l0 k s (n : Int) ((l.take p ++ [x]) ++ l.drop p) ((i + 1 : Nat) : Int) := by
    intro p hp k
    rw [Option.bind_some, if_pos (by simp; omega), Option.bind_some, if_pos (by simp; omega), Option.bind_some, Option.bind_some, if_pos (by simp; omega), w.out]
    rfl
  intro m
  induction m with
  | zero =>
    intro p hp hlt h
    have e : insD x l = (l.take p ++ [x]) ++ l.drop p := by
      rw [insD_at x l p (by omega) hlt, List.drop_eq_nil_of_le (by omega), insD, List.append_nil]
    refine Evt.step (fun k => ?_) h
    rw [numnahref09_parts.l1, if_neg (by omega), if_pos (by omega), if_pos (by omega), fin p (by omega), e]
  | succ m ih =>
    intro p hp hlt h
    have hpl : p < l.length := by omega
    have w2 : Aside0 (wrap64 ((p : Int) + 1) = ((p + 1 : Nat) : Int)) := ⟨(wr (by omega) (by omega)).trans (by omega)⟩
    have e : rdOf ByteArray.empty l (p : Int) = l[p] := by simp [rdOf, hpl]
    by_cases c : Op.bytesLess l[p].toList x.toList = true
    · refine Evt.step (g' := fun k => numnahref09_parts.l1 k s (n : Int) l (i : Int) x ((p + 1 : Nat) : Int)) (fun k => ?_) (ih (p + 1) (by omega) (fun y hy => ?_) h)
      · rw [numnahref09_parts.l1, if_pos (by omega), if_pos (by omega), e, if_pos c, w2.out]
      · rw [List.take_succ_eq_append_getElem hpl, List.mem_append, List.mem_singleton] at hy
        rcases hy with hy | rfl
        · exact hlt y hy
        · exact c
    · by_cases c2 : l[p] = x
      · have e2 : insD x l = l := by
          rw [insD_at x l p (by omega) hlt, List.drop_eq_getElem_cons hpl, insD, if_neg c, if_pos c2, ← List.drop_eq_getElem_cons hpl, List.take_append_drop]
        rw [e2] at h
        refine Evt.step (fun k => ?_) h
        rw [numnahref09_parts.l1, if_pos (by omega), if_pos (by omega), e, if_neg c, if_pos ((toList_eq_iff _ _).2 c2), w.out]
      · have e2 : insD x l = (l.take p ++ [x]) ++ l.drop p := by
          rw [insD_at x l p (by omega) hlt, List.drop_eq_getElem_cons hpl, insD, if_neg c, if_neg c2]
          simp
        refine Evt.step (fun k => ?_) h
        rw [numnahref09_parts.l1, if_pos (by omega), if_pos (by omega), e, if_neg c, if_neg (fun hh => c2 ((toList_eq_iff _ _).1 hh)), if_pos (by omega), fin p (by omega), e2]
theorem part_l0 (s : ByteArray) (n : Nat) (hs : s.size ≤ 200) (hn : n ≤ s.size) : ∀ (m i : Nat), i + m = s.size + 1 - n → Evt (fun k => numnahref09_parts.l0 k s (n : Int) (partsUp s n i) (i : Int)) (partsS s n)
  | 0, i, hi => by
    have w : Aside0 (wrap64 ((i : Int) + (n : Int)) = ((i + n : Nat) : Int)) := ⟨(wr (by omega) (by omega)).trans (by omega)⟩
    obtain rfl : i = s.size + 1 - n := by omega
    refine Evt.now fun k => ?_
    rw [numnahref09_parts.l0, w.out, if_neg (by omega)]
    rfl
  | m + 1, i, hi => by
    have w : Aside0 (wrap64 ((i : Int) + (n : Int)) = ((i + n : Nat) : Int)) := ⟨(wr (by omega) (by omega)).trans (by omega)⟩
    have hx : s.extract (i : Int).toNat ((i + n : Nat) : Int).toNat = subAt s n i := sub_eq s i n _ _ rfl rfl
    have hlen := partsUp_len s n i
    refine Evt.step (g' := fun k => numnahref09_parts.l1 k s (n : Int) (partsUp s n i) (i : Int) (subAt s n i) ((0 : Nat) : Int)) (fun k => ?_) (part_l1 s n hs (partsUp s n i) (by omega) i (by omega) (subAt s n i) _ (partsUp s n i).length 0 (by omega) (fun y hy => by simp at hy) (part_l0 s n hs hn m (i + 1) (by omega)))
    rw [numnahref09_parts.l0, w.out, if_pos (by omega), if_pos (by omega), if_pos (by omega), hx]
    rfl
theorem parts_ev (s : ByteArray) (n : Nat) (hs : s.size ≤ 200) (hn : n ≤ s.size) : Evt (fun k => numnahref09_parts.f k s (n : Int)) (partsS s n) := part_l0 s n hs hn (s.size + 1 - n) 0 (by omega)
theorem plac_l0 (s t : ByteArray) (n : Nat) (hs : s.size ≤ 200) (hn : n ≤ s.size) (ht : t.size = n) : ∀ (m i : Nat), i + m = s.size + 1 - n → Evt (fun k => numnahref09_places.l0 k s t (posUp s n t i) (i : Int)) (posS s n t)
  | 0, i, hi => by
    have w : Aside0 (wrap64 ((i : Int) + (t.size : Int)) = ((i + n : Nat) : Int)) := ⟨(wr (by omega) (by omega)).trans (by omega)⟩
    obtain rfl : i = s.size + 1 - n := by omega
    refine Evt.now fun k => ?_
    rw [numnahref09_places.l0, w.out, if_neg (by omega)]
    rfl
  | m + 1, i, hi => by
    have w : Aside0 (wrap64 ((i : Int) + (t.size : Int)) = ((i + n : Nat) : Int)) := ⟨(wr (by omega) (by omega)).trans (by omega)⟩
    have w2 : Aside0 (wrap64 ((i : Int) + 1) = ((i + 1 : Nat) : Int)) := ⟨(wr (by omega) (by omega)).trans (by omega)⟩
    have hx : s.extract (i : Int).toNat ((i + n : Nat) : Int).toNat = subAt s n i := sub_eq s i n _ _ rfl rfl
    have hlen := posUp_len s n t i
    refine Evt.step (fun k => ?_) (plac_l0 s t n hs hn ht m (i + 1) (by omega))
    rw [numnahref09_places.l0, w.out, if_pos (by omega), if_pos (by omega), if_pos (by omega), hx]
    by_cases c : subAt s n i = t
    · rw [if_pos ((toList_eq_iff _ _).2 c), if_pos (by omega), w2.out, posUp, if_pos c]
    · rw [if_neg (fun hh => c ((toList_eq_iff _ _).1 hh)), w2.out, posUp, if_neg c, List.append_nil]
theorem places_ev (s t : ByteArray) (n : Nat) (hs : s.size ≤ 200) (hn : n ≤ s.size) (ht : t.size = n) : Evt (fun k => numnahref09_places.f k s t) (posS s n t) := plac_l0 s t n hs hn ht (s.size + 1 - n) 0 (by omega)
theorem com_l1 (u x : ByteArray) (hu : u.size ≤ 200) (hx : x.size ≤ 200) (n : Nat) (hn : n ≤ x.size) (h1 : 1 ≤ n) (l : List ByteArray) (hll : l.length ≤ 400) (hl : ∀ t, t ∈ l → t.size = n) (r : ByteArray) : ∀ (m p : Nat), p + m = l.length →
    (findC x n (l.drop p) = none → Evt (fun k => numnahref09_Common.l0 k u x ((n - 1 : Nat) : Int)) r) → (∀ t, findC x n (l.drop p) = some t → t = r) → Evt (fun k => numnahref09_Common.l1 k u x (n : Int) l (p : Int)) r
  | 0, p, hp, h2, h3 => by
    have w : Aside0 (wrap64 ((n : Int) - 1) = ((n - 1 : Nat) : Int)) := ⟨(wr (by omega) (by omega)).trans (by omega)⟩
    refine Evt.step (fun k => ?_) (h2 (by rw [List.drop_eq_nil_of_le (by omega)]; rfl))
    rw [numnahref09_Common.l1, if_neg (by omega), w.out]
  | m + 1, p, hp, h2, h3 => by
    have hpl : p < l.length := by omega
    have w2 : Aside0 (wrap64 ((p : Int) + 1) = ((p + 1 : Nat) : Int)) := ⟨(wr (by omega) (by omega)).trans (by omega)⟩
    have e : rdOf ByteArray.empty l (p : Int) = l[p] := by simp [rdOf, hpl]
    have hpe := places_ev x l[p] n hx hn (hl _ (List.getElem_mem hpl))
    rw [List.drop_eq_getElem_cons hpl, findC] at h2 h3
    refine Evt.step (g' := fun k => (numnahref09_places.f k x l[p]).bind fun t529 => (if (t529.length : Int) > 0 then (some l[p]) else (numnahref09_Common.l1 k u x (n : Int) l ((p + 1 : Nat) : Int)))) (fun k => ?_) (Evt.bind hpe ?_)
    · rw [numnahref09_Common.l1, if_pos (by omega), if_pos (by omega), e, w2.out]
    · by_cases c : posS x n l[p] = []
      · rw [if_pos c] at h2 h3
        refine Evt.neg (by rw [c]; simp) (com_l1 u x hu hx n hn h1 l hll hl r m (p + 1) (by omega) h2 h3)
      · rw [if_neg c] at h3
        have := List.length_pos_iff.2 c
        refine Evt.pos (by omega) (Evt.all (fun _ => ?_))
        rw [h3 _ rfl]
theorem com_l0 (u x : ByteArray) (hu : u.size ≤ 200) (hx : x.size ≤ 200) : ∀ (n : Nat), n ≤ u.size → n ≤ x.size → Evt (fun k => numnahref09_Common.l0 k u x (n : Int)) (comF u x n)
  | 0, _, _ => by
    refine Evt.now fun k => ?_
    rw [numnahref09_Common.l0, if_neg (by omega)]; rfl
  | n + 1, h1, h2 => by
    have ih := com_l0 u x hu hx n (by omega) (by omega)
    have hlen := partsS_len u (n + 1)
    have hsz : ∀ t, t ∈ partsS u (n + 1) → t.size = n + 1 := by
      intro t ht
      obtain ⟨j, hj, rfl⟩ := mem_partsS.1 ht
      exact subAt_size u _ _ (by omega)
    refine Evt.step (g' := fun k => (numnahref09_parts.f k u ((n + 1 : Nat) : Int)).bind fun t525 => (numnahref09_Common.l1 k u x ((n + 1 : Nat) : Int) t525 ((0 : Nat) : Int))) (fun k => by rw [numnahref09_Common.l0, if_pos (by omega)]; rfl) (Evt.bind (parts_ev u (n + 1) hu h1) ?_)
    refine com_l1 u x hu hx (n + 1) h2 (by omega) _ (by omega) hsz _ (partsS u (n + 1)).length 0 (by omega) (fun h => ?_) (fun t h => ?_)
    · rw [List.drop_zero] at h
      rw [comF, h]; exact ih
    · rw [List.drop_zero] at h
      rw [comF, h]
theorem common_ev (u x : ByteArray) (hu : u.size ≤ 200) (hx : x.size ≤ 200) : Evt (fun k => numnahref09_Common.f k u x) (comF u x (minS u x)) := by
  have e : mn (u.size : Int) (x.size : Int) = (minS u x : Int) := by
    unfold mn minS
    split <;> split <;> omega
  have h1 : minS u x ≤ u.size := by unfold minS; split <;> omega
  have h2 : minS u x ≤ x.size := by unfold minS; split <;> omega
  unfold numnahref09_Common.f
  rw [e]
  exact com_l0 u x hu hx _ h1 h2
end Go.Proofs.YtpeeflkodpnbpaaDoor.Pr
namespace Go.Proofs.YtpeeflkodpnbpaaDoor.Pure
open Go.RowKit Go.Proofs.YtpeeflkodpnbpaaDoor.Pr Go.Proofs.YtpeeflkodpnbpaaDoorW.PrintWords Go.Proofs.YtpeeflkodpnbpaaDoorW.PrintLast
set_option linter.unusedVariables false

theorem com_j0 (a b z : ByteArray) (e : Int) (h1 : z = emptyB) (h2 : e = 2) : Evt (fun k => numnahlaw09_ParseCommons.j0 k a b z e true) true := by
  subst h1; subst h2
  refine Evt.step (g' := fun k => (numnahlaw09_awake.f k).bind fun t => some t) (fun k => ?_) awake_bind
  rw [numnahlaw09_ParseCommons.j0, if_pos rfl, if_pos (show emptyB.toList = [] from ByteArray.toList_eq _), if_pos rfl]
theorem ParseCommons : numnahlaw09_ParseCommons.Pure := by
  intro a0 a1 _ _
  apply Evt.ex
  have hs0 := shortS_size a0
  have hs1 := shortS_size a1
  have hw0 := word_ev (shortS a0) (by omega)
  have hw1 := word_ev (shortS a1) (by omega)
  show Evt (fun k => numnahlaw09_ParseCommons.f k a0 a1) true
  unfold numnahlaw09_ParseCommons.f
  refine Evt.bind (Evt.all (fun _ => short_some a0)) (Evt.bind (Evt.all (fun _ => short_some a1)) ?_)
  generalize shortS a0 = a at *
  generalize shortS a1 = b at *
  cases ha : isWordC a with
  | false =>
    rw [ha] at hw0
    have e : parse_Common.f a b = some (emptyB, 2) := by rw [parse_Common.f, ha]; rfl
    exact Evt.bind (Evt.all (fun _ => e)) (Evt.bind hw0 (Evt.neg (by decide) (com_j0 a b _ _ rfl rfl)))
  | true =>
    rw [ha] at hw0
    cases hb : isWordC b with
    | false =>
      rw [hb] at hw1
      have e : parse_Common.f a b = some (emptyB, 2) := by rw [parse_Common.f, ha, hb]; rfl
      exact Evt.bind (Evt.all (fun _ => e)) (Evt.bind hw0 (Evt.pos rfl (Evt.bind hw1 (com_j0 a b _ _ rfl rfl))))
    | true =>
      rw [hb] at hw1
      have e : parse_Common.f a b = some (comF a b (minS a b), 0) := by rw [parse_Common.f, ha, hb]; rfl
      refine Evt.bind (Evt.all (fun _ => e)) (Evt.bind hw0 (Evt.pos rfl (Evt.bind hw1 ?_)))
      refine Evt.step (g' := fun k => (numnahref09_Common.f k a b).bind fun t540 => (if (comF a b (minS a b)).toList = t540.toList then (if (0 : Int) = 0 then ((numnahlaw09_awake.f k).bind fun t541 => (some t541)) else (some false)) else (some false))) (fun k => ?_) ?_
      · rw [numnahlaw09_ParseCommons.j0, if_neg (by decide)]
      · exact Evt.bind (common_ev a b (by omega) (by omega)) (Evt.pos rfl (Evt.pos rfl awake_bind))
end Go.Proofs.YtpeeflkodpnbpaaDoor.Pure
