/- RulesNexts: Next and Normal answer as the reference says. -/
import Derived.Test.YtaafeallcaiooaaGreatHNp
import Derived.Test.YtaafeallcaiooaaGreatPrD6
import Derived.Test.YtaafeallcaiooaaGreatPr0
import Derived.Test.YtaafeallcaiooaaGreatPrA5
import Derived.Test.YtaafeallcaiooaaGreatPrD1
import Derived.Test.YtaafeallcaiooaaGreatHLp
import Derived.Test.YtaafeallcaiooaaGreatHNe
import Derived.Test.YtaafeallcaiooaaGreatHEn
import Derived.Test.YtaafeallcaiooaaGreatPrH1
import Derived.Test.YtaafeallcaiooaaGreatPrA2
import Derived.Test.YtaafeallcaiooaaGreatHRu
import Derived.Test.YtaafeallcaiooaaGreatDefRulesNexts
namespace Go.Proofs.YtaafeallcaiooaaGreat.Pr
open Go.RowKit Go.Proofs.Zw Go.Proofs.Zl Go.Proofs.Zm
set_option linter.unusedVariables false
set_option linter.unusedSimpArgs false
def redex (ls : List (Tm × Tm)) (u : Tm) : Bool := (rootT ls u).head?.isSome
mutual
theorem inner_none (ls : List (Tm × Tm)) : ∀ t : Tm, (innerT ls t).isSome = t.subs.any (redex ls)
  | .var c => by rw [innerT, Tm.subs, List.any_cons, List.any_nil, Bool.or_false]; rfl
  | .app s l => by
    rw [innerT, Tm.subs, List.any_cons, ← innerL_none ls s [] l]
    cases innerL ls s [] l with
    | some x => simp
    | none => simp [redex]
theorem innerL_none (ls : List (Tm × Tm)) (s : Int) : ∀ (p l : List Tm), (innerL ls s p l).isSome = (Tm.subsL l).any (redex ls)
  | p, [] => by rw [innerL, Tm.subsL]; rfl
  | p, u :: us => by
    rw [innerL, Tm.subsL, List.any_append, ← inner_none ls u, ← innerL_none ls s (p ++ [u]) us]
    cases innerT ls u with
    | some v => simp
    | none => simp
end
def fitI : List (Tm × Tm) → Tm → Nat → Int
  | [], _, _ => -1
  | l :: ls, u, i => if (matchT l.1 u noSub).isSome then (i : Int) else fitI ls u (i + 1)
theorem fit_cases (u : Tm) : ∀ (ls : List (Tm × Tm)) (i : Nat), (rootT ls u = [] ∧ fitI ls u i = -1) ∨ ∃ (k : Nat) (hk : k < ls.length) (σ : Sub), fitI ls u i = ((i + k : Nat) : Int) ∧ matchT ls[k].1 u noSub = some σ ∧ (rootT ls u).head? = some (ls[k].2.sub σ)
  | [], i => .inl ⟨rfl, rfl⟩
  | l :: ls, i => by
    rw [fitI]
    cases hm : matchT l.1 u noSub with
    | some σ =>
      refine .inr ⟨0, by simp, σ, rfl, hm, ?_⟩
      unfold rootT
      rw [List.filterMap_cons, hm]
      rfl
    | none =>
      have hr : rootT (l :: ls) u = rootT ls u := by
        unfold rootT
        rw [List.filterMap_cons, hm]
        rfl
      rw [hr]
      rcases fit_cases u ls (i + 1) with h | ⟨k, hk, σ, h1, h2, h3⟩
      · exact .inl h
      · refine .inr ⟨k + 1, by simpa using hk, σ, ?_, h2, h3⟩
        show fitI ls u (i + 1) = _
        rw [h1]
        omega
theorem fitsL (rs : List S94) (ls : List (Tm × Tm)) (hls : lawsT rs = some ls) (hn : rs.length ≤ 1000) (u : Tm) (hg : u.good) (hu : u.size ≤ 60) : ∀ (n i : Nat), i + n = rs.length → Evt (fun k => numnahref08_fits.l0 k rs u.text (i : Int)) (fitI (ls.drop i) u i)
  | 0, i, hi => by
    have hl := (lawsT_good hls).2
    rw [List.drop_of_length_le (by omega)]
    refine Evt.now fun k => ?_
    rw [numnahref08_fits.l0, if_neg (by omega)]
    rfl
  | n + 1, i, hi => by
    have hl := (lawsT_good hls).2
    have hlt : i < rs.length := by omega
    have hlt' : i < ls.length := by omega
    have hlaw := lawT_at (lawsT_at hls i hlt hlt')
    have hgd := (lawsT_good hls).1 _ (List.getElem_mem hlt')
    have hw : wrap64 ((i : Int) + 1) = ((i + 1 : Nat) : Int) := (wr (by omega) (by omega)).trans (by omega)
    have hM := refMatch_eval hgd.1 hg (by omega) (by omega)
    rw [List.drop_eq_getElem_cons hlt', fitI]
    have ih := fitsL rs ls hls hn u hg hu n (i + 1) (by omega)
    cases hm : matchT ls[i].1 u noSub with
    | some σ =>
      rw [hm] at hM
      refine Evt.now fun k => ?_
      rw [numnahref08_fits.l0, if_pos (by omega), if_pos (by omega), rd94_at rs i hlt, hlaw.1, hM, Option.bind_some, if_pos rfl]
      rfl
    | none =>
      rw [hm] at hM
      refine Evt.step (fun k => ?_) ih
      rw [numnahref08_fits.l0, if_pos (by omega), if_pos (by omega), rd94_at rs i hlt, hlaw.1, hM, Option.bind_some, if_neg (by simp), hw]
theorem fitsE (rs : List S94) (ls : List (Tm × Tm)) (hls : lawsT rs = some ls) (hn : rs.length ≤ 1000) (u : Tm) (hg : u.good) (hu : u.size ≤ 60) : Evt (fun k => numnahref08_fits.f k rs u.text) (fitI ls u 0) := fitsL rs ls hls hn u hg hu rs.length 0 (by omega)
section
variable {rs : List S94} {ls : List (Tm × Tm)} (hls : lawsT rs = some ls) (hn : rs.length ≤ 1000) {s : ByteArray} (hs : s.size ≤ 1000000)
theorem on_gone (i e j : Int) (b : ByteArray × Bool) (h : Evt (fun k => numnahref08_Once.l0 k rs s (wrap64 (i + 1))) b) : Evt (fun k => numnahref08_Once.l1 k rs s i e (-1) j) b := by
  have h2 : Evt (fun k => numnahref08_Once.j2 k rs s i e (-1) j false) b := Evt.step (fun k => by rw [numnahref08_Once.j2, if_neg (by simp), if_neg (by omega)]) h
  by_cases hj : j < e
  · exact Evt.step (fun k => by rw [numnahref08_Once.l1, if_pos hj, decide_eq_false (by omega)]) h2
  · exact Evt.step (fun k => by rw [numnahref08_Once.l1, if_neg hj]) h2
theorem letter_tm {u : Tm} {d : UInt8} (hg : u.good) (e2 : (d.toNat : Int) = (match u with | .var c => c | .app s _ => s)) : ltrB (d.toNat : Int) = true := by
  rw [e2]
  cases u with
  | var c => rw [Tm.good] at hg; show ltrB c = true; unfold ltrB; rw [prt_var hg]; decide
  | app sy l => rw [Tm.good] at hg; show ltrB sy = true; unfold ltrB; rw [prt_sym hg.1]; exact decide_eq_true (by omega)
include hs in
theorem sc_skip (i e : Int) (k0 : Nat) (pre r : List UInt8) (c : UInt8) (hc : ltrB (c.toNat : Int) = false) (hd : s.data.toList = pre ++ c :: r) (he : ((pre.length : Nat) : Int) < e) (b : ByteArray × Bool) (h : Evt (fun k => numnahref08_Once.l1 k rs s i e (k0 : Int) ((pre.length + 1 : Nat) : Int)) b) : Evt (fun k => numnahref08_Once.l1 k rs s i e (k0 : Int) (pre.length : Int)) b := by
  have h0 : s.data.toList.drop pre.length = c :: r := by rw [hd, List.drop_left]
  obtain ⟨h1, h2, _⟩ := at_cons h0
  have hw := wrN s (by omega) (i := pre.length) (by omega)
  refine Evt.step (g' := fun k => numnahref08_Once.j2 k rs s i e (k0 : Int) (pre.length : Int) true) (fun k => by rw [numnahref08_Once.l1, if_pos he, decide_eq_true (by omega)]) ?_
  refine Evt.step (g' := fun k => (numnahref08_letter.f k (c.toNat : Int)).bind fun t526 => (if t526 = true then ((numnahref08_End.f k s (pre.length : Int)).bind fun t527 => (if (pre.length : Int) ≤ t527 then (if t527 ≤ (s.size : Int) then ((numnahref08_fits.f k rs (s.extract ((pre.length : Int)).toNat (t527 : Int).toNat)).bind fun t528 => (if t528 ≥ 0 then (numnahref08_Once.l1 k rs s i e (-1) ((pre.length + 1 : Nat) : Int)) else (numnahref08_Once.l1 k rs s i e (k0 : Int) ((pre.length + 1 : Nat) : Int)))) else (none)) else (none))) else (numnahref08_Once.l1 k rs s i e (k0 : Int) ((pre.length + 1 : Nat) : Int)))) (fun k => by rw [numnahref08_Once.j2, if_pos rfl, if_pos (by omega), if_pos (by omega), h2, hw]) ?_
  refine Evt.bind (letterE _) ?_
  rw [hc]
  exact Evt.neg (by simp) h
include hls hn hs in
theorem sc_head (i e : Int) (k0 : Nat) (pre r : List UInt8) (u : Tm) (hd : s.data.toList = pre ++ u.tx ++ r) (hg : u.good) (hu : u.size ≤ 60) (he : ((pre.length : Nat) : Int) < e) (b : ByteArray × Bool) :
    (redex ls u = true → Evt (fun k => numnahref08_Once.l0 k rs s (wrap64 (i + 1))) b → Evt (fun k => numnahref08_Once.l1 k rs s i e (k0 : Int) (pre.length : Int)) b) ∧ (redex ls u = false → Evt (fun k => numnahref08_Once.l1 k rs s i e (k0 : Int) ((pre.length + 1 : Nat) : Int)) b → Evt (fun k => numnahref08_Once.l1 k rs s i e (k0 : Int) (pre.length : Int)) b) := by
  obtain ⟨d, l, e1, e2⟩ := tx_first u hg
  have h0 : s.data.toList.drop pre.length = u.tx ++ r := by rw [hd, List.append_assoc, List.drop_left]
  have h0' := h0
  rw [e1] at h0'
  obtain ⟨h1, h2, _⟩ := at_cons h0'
  have hw := wrN s (by omega) (i := pre.length) (by omega)
  have hE := rEndE s (by omega) u hg pre.length r h0
  have hsz := len_of hd
  rw [List.length_append, List.length_append] at hsz
  have hex : s.extract pre.length (pre.length + u.tx.length) = u.text := extract_tx (r := r) h0
  have hF := fitsE rs ls hls hn u hg hu
  have key : ∀ X : Nat → Option (ByteArray × Bool), X = (fun k => if fitI ls u 0 ≥ 0 then numnahref08_Once.l1 k rs s i e (-1) ((pre.length + 1 : Nat) : Int) else numnahref08_Once.l1 k rs s i e (k0 : Int) ((pre.length + 1 : Nat) : Int)) → Evt X b → Evt (fun k => numnahref08_Once.l1 k rs s i e (k0 : Int) (pre.length : Int)) b := fun X hX hb => by
    subst hX
    refine Evt.step (g' := fun k => numnahref08_Once.j2 k rs s i e (k0 : Int) (pre.length : Int) true) (fun k => by rw [numnahref08_Once.l1, if_pos he, decide_eq_true (by omega)]) ?_
    refine Evt.step (g' := fun k => (numnahref08_letter.f k (d.toNat : Int)).bind fun t526 => (if t526 = true then ((numnahref08_End.f k s (pre.length : Int)).bind fun t527 => (if (pre.length : Int) ≤ t527 then (if t527 ≤ (s.size : Int) then ((numnahref08_fits.f k rs (s.extract ((pre.length : Int)).toNat (t527 : Int).toNat)).bind fun t528 => (if t528 ≥ 0 then (numnahref08_Once.l1 k rs s i e (-1) ((pre.length + 1 : Nat) : Int)) else (numnahref08_Once.l1 k rs s i e (k0 : Int) ((pre.length + 1 : Nat) : Int)))) else (none)) else (none))) else (numnahref08_Once.l1 k rs s i e (k0 : Int) ((pre.length + 1 : Nat) : Int)))) (fun k => by rw [numnahref08_Once.j2, if_pos rfl, if_pos (by omega), if_pos (by omega), h2, hw]) ?_
    refine Evt.bind (letterE _) (Evt.pos (letter_tm hg e2) (Evt.bind hE ?_))
    rw [show ((pre.length : Int) + (u.tx.length : Int)) = ((pre.length + u.tx.length : Nat) : Int) by omega, Int.toNat_natCast, Int.toNat_natCast, hex]
    exact Evt.pos (by omega) (Evt.pos (by omega) (Evt.bind hF hb))
  constructor
  · intro hr h
    refine key _ rfl ?_
    have hp : fitI ls u 0 ≥ 0 := by
      rcases fit_cases u ls 0 with ⟨q, _⟩ | ⟨k, _, _, q, _⟩
      · unfold redex at hr; rw [q] at hr; cases hr
      · rw [q]; omega
    exact Evt.pos hp (on_gone i e _ b h)
  · intro hr h
    refine key _ rfl ?_
    have hp : ¬ fitI ls u 0 ≥ 0 := by
      rcases fit_cases u ls 0 with ⟨_, q⟩ | ⟨k, _, _, _, _, q⟩
      · rw [q]; omega
      · unfold redex at hr; rw [q] at hr; cases hr
    exact Evt.neg hp h
def ScAt (rs : List S94) (ls : List (Tm × Tm)) (s : ByteArray) (u : Tm) : Prop := ∀ (i e : Int) (k0 : Nat) (pre r : List UInt8) (b : ByteArray × Bool), s.data.toList = pre ++ u.tx ++ r → u.good → u.size ≤ 60 → ((pre.length + u.tx.length : Nat) : Int) ≤ e →
  (u.subs.any (redex ls) = true → Evt (fun k => numnahref08_Once.l0 k rs s (wrap64 (i + 1))) b → Evt (fun k => numnahref08_Once.l1 k rs s i e (k0 : Int) (pre.length : Int)) b) ∧ (u.subs.any (redex ls) = false → Evt (fun k => numnahref08_Once.l1 k rs s i e (k0 : Int) ((pre.length + u.tx.length : Nat) : Int)) b → Evt (fun k => numnahref08_Once.l1 k rs s i e (k0 : Int) (pre.length : Int)) b)
include hs in
theorem sc_list (i e : Int) (k0 : Nat) (b : ByteArray × Bool) : ∀ (l : List Tm) (j : Nat) (pre r : List UInt8), (∀ x, x ∈ l → ScAt rs ls s x) → s.data.toList = pre ++ txM j l ++ r → Tm.goods l → Tm.sizes l ≤ 60 → ((pre.length + (txM j l).length : Nat) : Int) ≤ e →
    ((Tm.subsL l).any (redex ls) = true → Evt (fun k => numnahref08_Once.l0 k rs s (wrap64 (i + 1))) b → Evt (fun k => numnahref08_Once.l1 k rs s i e (k0 : Int) (pre.length : Int)) b) ∧ ((Tm.subsL l).any (redex ls) = false → Evt (fun k => numnahref08_Once.l1 k rs s i e (k0 : Int) ((pre.length + (txM j l).length : Nat) : Int)) b → Evt (fun k => numnahref08_Once.l1 k rs s i e (k0 : Int) (pre.length : Int)) b)
  | [], j, pre, r, hx, hd, hg, hz, he => by
    rw [Tm.subsL, txM]
    exact ⟨fun h => (by cases h), fun _ h => h⟩
  | u :: l, j, pre, r, hx, hd, hg, hz, he => by
    rw [Tm.goods] at hg
    rw [Tm.sizes] at hz
    have sp := Tm.size_pos u
    have spl := Tm.sizes_nn l
    have hd1 : s.data.toList = pre ++ UInt8.ofNat (mark j).toNat :: (u.tx ++ (txM (j + 1) l ++ r)) := by rw [hd, txM]; simp
    have hd2 : s.data.toList = (pre ++ [UInt8.ofNat (mark j).toNat]) ++ u.tx ++ (txM (j + 1) l ++ r) := by rw [hd1]; simp
    have hpl : (pre ++ [UInt8.ofNat (mark j).toNat]).length = pre.length + 1 := by simp
    have hpl2 : (pre ++ [UInt8.ofNat (mark j).toNat]).length + u.tx.length = (pre ++ [UInt8.ofNat (mark j).toNat] ++ u.tx).length := by simp; omega
    have hlen : pre.length + (txM j (u :: l)).length = (pre ++ [UInt8.ofNat (mark j).toNat] ++ u.tx).length + (txM (j + 1) l).length := by rw [txM]; simp; omega
    have hlen2 : (pre ++ [UInt8.ofNat (mark j).toNat] ++ u.tx).length = pre.length + 1 + u.tx.length := by simp; omega
    have h1 := hx u (by simp) i e k0 (pre ++ [UInt8.ofNat (mark j).toNat]) (txM (j + 1) l ++ r) b hd2 hg.1 (by omega) (by rw [hpl2]; omega)
    have h2 := sc_list i e k0 b l (j + 1) (pre ++ [UInt8.ofNat (mark j).toNat] ++ u.tx) r (fun x hx' => hx x (by simp [hx'])) (by rw [hd2]; simp) hg.2 (by omega) (by omega)
    rw [hpl2] at h1
    have hskip := sc_skip (rs := rs) hs i e k0 pre _ _ (mark_no j) hd1 (by omega) b
    rw [← hpl] at hskip
    rw [Tm.subsL, List.any_append, hlen]
    cases hu : u.subs.any (redex ls) with
    | true => exact ⟨fun _ h => hskip (h1.1 hu h), fun h => (by cases h)⟩
    | false =>
      rw [Bool.false_or]
      exact ⟨fun hl h => hskip (h1.2 hu (h2.1 hl h)), fun hl h => hskip (h1.2 hu (h2.2 hl h))⟩
include hls hn hs in
theorem sc_all : ∀ u, ScAt rs ls s u := by
  refine Tm.ind (fun c i e k0 pre r b hd hg hu he => ?_) (fun sy l ih i e k0 pre r b hd hg hu he => ?_)
  · have hl1 : (Tm.var c).tx.length = 1 := by rw [Tm.tx]; rfl
    have h := sc_head hls hn hs i e k0 pre r (.var c) hd hg hu (by omega) b
    rw [Tm.subs, List.any_cons, List.any_nil, Bool.or_false, hl1]
    exact h
  · have hl2 := good_len hg
    have hgg := hg
    rw [Tm.good] at hgg
    have hss := hu
    rw [Tm.size] at hss
    have htx := tx_app2 sy l hl2
    have hlp : 0 < (Tm.app sy l).tx.length := by rw [htx]; simp
    have h := sc_head hls hn hs i e k0 pre r (.app sy l) hd hg hu (by omega) b
    rw [Tm.subs, List.any_cons]
    cases hr : redex ls (.app sy l) with
    | true => exact ⟨fun _ q => h.1 hr q, fun q => (by cases q)⟩
    | false =>
      rw [Bool.false_or]
      by_cases h0 : l.length = 0
      · obtain rfl := List.length_eq_zero_iff.1 h0
        rw [htx, if_pos h0, Tm.subsL]
        exact ⟨fun q => (by cases q), fun _ q => h.2 hr q⟩
      · rw [if_neg h0] at htx
        have hd1 : s.data.toList = (pre ++ [ch sy]) ++ txM 0 l ++ (41 :: r) := by rw [hd, htx]; simp
        have hd2 : s.data.toList = (pre ++ [ch sy] ++ txM 0 l) ++ 41 :: r := by rw [hd1]
        have hle : pre.length + 1 = (pre ++ [ch sy]).length := by simp
        have hle2 : (pre ++ [ch sy]).length + (txM 0 l).length = (pre ++ [ch sy] ++ txM 0 l).length := by simp; omega
        have hle3 : pre.length + (Tm.app sy l).tx.length = (pre ++ [ch sy] ++ txM 0 l).length + 1 := by rw [htx]; simp; omega
        have h2 := sc_list (rs := rs) (ls := ls) hs i e k0 b l 0 (pre ++ [ch sy]) (41 :: r) ih hd1 hgg.2.2 (by omega) (by omega)
        have hskip := sc_skip (rs := rs) hs i e k0 (pre ++ [ch sy] ++ txM 0 l) r 41 (by decide) hd2 (by omega) b
        rw [hle2, ← hle] at h2
        rw [hle3]
        exact ⟨fun q q2 => h.2 hr (h2.1 q q2), fun q q2 => h.2 hr (h2.2 q (hskip q2))⟩
include hs in
theorem on_skip (pre r : List UInt8) (c : UInt8) (hc : ltrB (c.toNat : Int) = false) (hd : s.data.toList = pre ++ c :: r) (b : ByteArray × Bool) (h : Evt (fun k => numnahref08_Once.l0 k rs s ((pre.length + 1 : Nat) : Int)) b) : Evt (fun k => numnahref08_Once.l0 k rs s (pre.length : Int)) b := by
  have h0 : s.data.toList.drop pre.length = c :: r := by rw [hd, List.drop_left]
  obtain ⟨h1, h2, _⟩ := at_cons h0
  have hw := wrN s (by omega) (i := pre.length) (by omega)
  refine Evt.step (g' := fun k => (numnahref08_letter.f k (c.toNat : Int)).bind fun t523 => (if t523 = true then ((numnahref08_End.f k s (pre.length : Int)).bind fun t524 => (if (pre.length : Int) ≤ t524 then (if t524 ≤ (s.size : Int) then ((numnahref08_fits.f k rs (s.extract ((pre.length : Int)).toNat (t524 : Int).toNat)).bind fun t525 => (numnahref08_Once.l1 k rs s (pre.length : Int) t524 t525 ((pre.length + 1 : Nat) : Int))) else (none)) else (none))) else (numnahref08_Once.l0 k rs s ((pre.length + 1 : Nat) : Int)))) (fun k => by rw [numnahref08_Once.l0, if_pos (by omega), if_pos (by omega), h2, hw]) ?_
  refine Evt.bind (letterE _) ?_
  rw [hc]
  exact Evt.neg (by simp) h
include hls hn hs in
theorem on_head (pre r : List UInt8) (u : Tm) (hd : s.data.toList = pre ++ u.tx ++ r) (hg : u.good) (hu : u.size ≤ 60) (b : ByteArray × Bool) (h : Evt (fun k => numnahref08_Once.l1 k rs s (pre.length : Int) ((pre.length + u.tx.length : Nat) : Int) (fitI ls u 0) ((pre.length + 1 : Nat) : Int)) b) : Evt (fun k => numnahref08_Once.l0 k rs s (pre.length : Int)) b := by
  obtain ⟨d, l, e1, e2⟩ := tx_first u hg
  have h0 : s.data.toList.drop pre.length = u.tx ++ r := by rw [hd, List.append_assoc, List.drop_left]
  have h0' := h0
  rw [e1] at h0'
  obtain ⟨h1, h2, _⟩ := at_cons h0'
  have hw := wrN s (by omega) (i := pre.length) (by omega)
  have hE := rEndE s (by omega) u hg pre.length r h0
  have hsz := len_of hd
  rw [List.length_append, List.length_append] at hsz
  have hex : s.extract pre.length (pre.length + u.tx.length) = u.text := extract_tx (r := r) h0
  have hF := fitsE rs ls hls hn u hg hu
  refine Evt.step (g' := fun k => (numnahref08_letter.f k (d.toNat : Int)).bind fun t523 => (if t523 = true then ((numnahref08_End.f k s (pre.length : Int)).bind fun t524 => (if (pre.length : Int) ≤ t524 then (if t524 ≤ (s.size : Int) then ((numnahref08_fits.f k rs (s.extract ((pre.length : Int)).toNat (t524 : Int).toNat)).bind fun t525 => (numnahref08_Once.l1 k rs s (pre.length : Int) t524 t525 ((pre.length + 1 : Nat) : Int))) else (none)) else (none))) else (numnahref08_Once.l0 k rs s ((pre.length + 1 : Nat) : Int)))) (fun k => by rw [numnahref08_Once.l0, if_pos (by omega), if_pos (by omega), h2, hw]) ?_
  refine Evt.bind (letterE _) (Evt.pos (letter_tm hg e2) (Evt.bind hE ?_))
  rw [show ((pre.length : Int) + (u.tx.length : Int)) = ((pre.length + u.tx.length : Nat) : Int) by omega, Int.toNat_natCast, Int.toNat_natCast, hex]
  exact Evt.pos (by omega) (Evt.pos (by omega) (Evt.bind hF h))
include hls hs in
theorem on_done (pre r : List UInt8) (u : Tm) (hd : s.data.toList = pre ++ u.tx ++ r) (hg : u.good) (hu : u.size ≤ 60) (k0 : Nat) (hk : k0 < ls.length) (σ : Sub) (hm : matchT ls[k0].1 u noSub = some σ) : Evt (fun k => numnahref08_Once.l1 k rs s (pre.length : Int) ((pre.length + u.tx.length : Nat) : Int) (k0 : Int) ((pre.length + u.tx.length : Nat) : Int)) (B8 (pre ++ (ls[k0].2.sub σ).tx ++ r), true) := by
  have hl := (lawsT_good hls).2
  have hlg := (lawsT_good hls).1
  have hlt : k0 < rs.length := by omega
  have hlaw := lawT_at (lawsT_at hls k0 hlt hk)
  have hgd := hlg _ (List.getElem_mem hk)
  have hsz := len_of hd
  rw [List.length_append, List.length_append] at hsz
  have h0 : s.data.toList.drop pre.length = u.tx ++ r := by rw [hd, List.append_assoc, List.drop_left]
  have hex : s.extract pre.length (pre.length + u.tx.length) = u.text := extract_tx (r := r) h0
  have hM := refMatch_eval hgd.1 hg (by omega) (by omega)
  rw [hm] at hM
  have hA := apply_rule hgd.1 hgd.2.1 ⟨hlaw.2.2.1, hlaw.2.2.2.1, hlaw.2.2.2.2⟩ hgd.2.2.2 hu hm
  have hsub : (ls[k0].2.sub σ).size ≤ 720 := rootT_size (ls := ls) (T := u) hlg hu (by
    unfold rootT
    rw [List.mem_filterMap]
    exact ⟨ls[k0], List.getElem_mem hk, by rw [hm]; rfl⟩)
  have hz := text_le (t := ls[k0].2.sub σ) (by omega)
  have ex2 : s.extract 0 pre.length = B8 pre := ext_pre (r := u.tx ++ r) (by rw [hd, List.append_assoc])
  have ex3 : s.extract (pre.length + u.tx.length) s.size = B8 r := by
    have := ext_post (s := s) (pre := pre ++ u.tx) (r := r) hd
    rwa [List.length_append] at this
  have e4 : B8 pre ++ (ls[k0].2.sub σ).text ++ B8 r = B8 (pre ++ (ls[k0].2.sub σ).tx ++ r) := by show B8 pre ++ B8 _ ++ B8 r = _; rw [B8_app', B8_app']
  have c1 : (B8 pre).size + (ls[k0].2.sub σ).text.size ≤ 9223372036854775807 := by rw [B8_size]; omega
  have c2 : (B8 pre ++ (ls[k0].2.sub σ).text).size + (B8 r).size ≤ 9223372036854775807 := by rw [ByteArray.size_append, B8_size, B8_size]; omega
  refine Evt.step (g' := fun k => numnahref08_Once.j2 k rs s (pre.length : Int) ((pre.length + u.tx.length : Nat) : Int) (k0 : Int) ((pre.length + u.tx.length : Nat) : Int) false) (fun k => by rw [numnahref08_Once.l1, if_neg (by omega)]) ?_
  refine Evt.now fun k => ?_
  rw [numnahref08_Once.j2, if_neg (by simp), if_pos (by omega), if_pos (by omega), if_pos (by omega), if_pos (by omega), if_pos (by omega), if_pos (by omega), rd94_at rs k0 hlt, hlaw.1, hlaw.2.1, Int.toNat_natCast, Int.toNat_natCast, hex, ex2, ex3, hM, Option.bind_some]
  dsimp only
  rw [if_pos (by omega), hA, Option.bind_some, if_pos c1, if_pos (by omega), if_pos c2, e4]
def OnAt (rs : List S94) (ls : List (Tm × Tm)) (s : ByteArray) (u : Tm) : Prop := ∀ (pre r : List UInt8) (b : ByteArray × Bool), s.data.toList = pre ++ u.tx ++ r → u.good → u.size ≤ 60 →
  (∀ v, innerT ls u = some v → Evt (fun k => numnahref08_Once.l0 k rs s (pre.length : Int)) (B8 (pre ++ v.tx ++ r), true)) ∧ (innerT ls u = none → Evt (fun k => numnahref08_Once.l0 k rs s ((pre.length + u.tx.length : Nat) : Int)) b → Evt (fun k => numnahref08_Once.l0 k rs s (pre.length : Int)) b)
include hs in
theorem on_list (sy : Int) (pre0 r0 : List UInt8) (b : ByteArray × Bool) : ∀ (l p : List Tm) (pre : List UInt8), (∀ x, x ∈ l → OnAt rs ls s x) → p.length + l.length ≤ 2 → pre = pre0 ++ ch sy :: txM 0 p → s.data.toList = pre ++ txM p.length l ++ 41 :: r0 → Tm.goods l → Tm.sizes l ≤ 60 →
    (∀ x, innerL ls sy p l = some x → Evt (fun k => numnahref08_Once.l0 k rs s (pre.length : Int)) (B8 (pre0 ++ x.tx ++ r0), true)) ∧ (innerL ls sy p l = none → Evt (fun k => numnahref08_Once.l0 k rs s ((pre.length + (txM p.length l).length : Nat) : Int)) b → Evt (fun k => numnahref08_Once.l0 k rs s (pre.length : Int)) b)
  | [], p, pre, hx, hp, he, hd, hg, hz => by
    rw [innerL, txM]
    exact ⟨fun x h => (by cases h), fun _ h => h⟩
  | u :: l, p, pre, hx, hp, he, hd, hg, hz => by
    rw [Tm.goods] at hg
    rw [Tm.sizes] at hz
    rw [List.length_cons] at hp
    have sp := Tm.size_pos u
    have spl := Tm.sizes_nn l
    have hd1 : s.data.toList = pre ++ UInt8.ofNat (mark p.length).toNat :: (u.tx ++ (txM (p.length + 1) l ++ 41 :: r0)) := by rw [hd, txM]; simp
    have hd2 : s.data.toList = (pre ++ [UInt8.ofNat (mark p.length).toNat]) ++ u.tx ++ (txM (p.length + 1) l ++ 41 :: r0) := by rw [hd1]; simp
    have hpl : (pre ++ [UInt8.ofNat (mark p.length).toNat]).length = pre.length + 1 := by simp
    have hpe : pre ++ [UInt8.ofNat (mark p.length).toNat] = pre0 ++ ch sy :: (txM 0 p ++ [UInt8.ofNat (mark p.length).toNat]) := by rw [he]; simp
    have hpe2 : pre ++ [UInt8.ofNat (mark p.length).toNat] ++ u.tx = pre0 ++ ch sy :: txM 0 (p ++ [u]) := by rw [he, txM_append, Nat.zero_add, txM, txM]; simp
    have hpl2 : (pre ++ [UInt8.ofNat (mark p.length).toNat]).length + u.tx.length = (pre ++ [UInt8.ofNat (mark p.length).toNat] ++ u.tx).length := by simp; omega
    have hpp1 : (p ++ [u]).length = p.length + 1 := by simp
    have hlen : pre.length + (txM p.length (u :: l)).length = (pre ++ [UInt8.ofNat (mark p.length).toNat] ++ u.tx).length + (txM (p.length + 1) l).length := by rw [txM]; simp; omega
    have h2 := on_list sy pre0 r0 b l (p ++ [u]) (pre ++ [UInt8.ofNat (mark p.length).toNat] ++ u.tx) (fun x hx' => hx x (by simp [hx'])) (by rw [hpp1]; omega) hpe2 (by rw [hd2, hpp1]; simp) hg.2 (by omega)
    rw [hpp1] at h2
    rw [innerL, hlen]
    have h1 := fun b => hx u (by simp) (pre ++ [UInt8.ofNat (mark p.length).toNat]) (txM (p.length + 1) l ++ 41 :: r0) b hd2 hg.1 (by omega)
    have hskip := fun b => on_skip (rs := rs) hs pre _ _ (mark_no p.length) hd1 b
    rw [← hpl] at hskip
    rw [hpl2] at h1
    cases hi : innerT ls u with
    | some v =>
      refine ⟨fun x hxx => ?_, fun h => (by cases h)⟩
      injection hxx with hxx
      subst hxx
      have h3 := hskip _ ((h1 b).1 v hi)
      have e5 : pre0 ++ (Tm.app sy (p ++ v :: l)).tx ++ r0 = pre ++ [UInt8.ofNat (mark p.length).toNat] ++ v.tx ++ (txM (p.length + 1) l ++ 41 :: r0) := by
        rw [hpe, tx_app2 sy (p ++ v :: l) (by simp; omega), if_neg (by simp), txM_append, Nat.zero_add, txM]
        simp
      rw [e5]
      exact h3
    | none =>
      exact ⟨fun x hxx => hskip _ ((h1 _).2 hi (h2.1 x hxx)), fun hl h => hskip _ ((h1 _).2 hi (h2.2 hl h))⟩
include hls hn hs in
theorem on_all : ∀ u, OnAt rs ls s u := by
  refine Tm.ind (fun c pre r b hd hg hu => ?_) (fun sy l ih pre r b hd hg hu => ?_)
  · have hl1 : (Tm.var c).tx.length = 1 := by rw [Tm.tx]; rfl
    have hhead := fun b => on_head hls hn hs pre r (.var c) hd hg hu b
    have hw := wrN s (by omega) (i := pre.length) (by have := len_of hd; rw [List.length_append, List.length_append, hl1] at this; omega)
    rw [innerT]
    rcases fit_cases (.var c) ls 0 with ⟨h1, h2⟩ | ⟨k, hk, σ, h1, h2, h3⟩
    · rw [h1]
      refine ⟨fun v h => (by cases h), fun _ h => hhead _ ?_⟩
      rw [h2]
      refine on_gone _ _ _ _ ?_
      rw [hw]
      rw [hl1] at h
      exact h
    · rw [h3]
      refine ⟨fun v h => ?_, fun h => (by cases h)⟩
      injection h with h
      subst h
      refine hhead _ ?_
      rw [h1, Nat.zero_add]
      have h4 := on_done hls hs pre r (.var c) hd hg hu k hk σ h2
      rw [hl1] at h4 ⊢
      exact h4
  · have hl2 := good_len hg
    have hgg := hg
    rw [Tm.good] at hgg
    have hss := hu
    rw [Tm.size] at hss
    have htx := tx_app2 sy l hl2
    have hhead := fun b => on_head hls hn hs pre r (.app sy l) hd hg hu b
    have hlp : 0 < (Tm.app sy l).tx.length := by rw [htx]; simp
    have hw := wrN s (by omega) (i := pre.length) (by have := len_of hd; rw [List.length_append, List.length_append] at this; omega)
    have hin := innerL_none ls sy [] l
    rw [innerT]
    by_cases h0 : l.length = 0
    · obtain rfl := List.length_eq_zero_iff.1 h0
      rw [innerL]
      dsimp only
      have hl1 : (Tm.app sy []).tx.length = 1 := by rw [htx]; rfl
      rcases fit_cases (.app sy []) ls 0 with ⟨h1, h2⟩ | ⟨k, hk, σ, h1, h2, h3⟩
      · rw [h1]
        refine ⟨fun v h => (by cases h), fun _ h => hhead _ ?_⟩
        rw [h2]
        refine on_gone _ _ _ _ ?_
        rw [hw]
        rw [hl1] at h
        exact h
      · rw [h3]
        refine ⟨fun v h => ?_, fun h => (by cases h)⟩
        injection h with h
        subst h
        refine hhead _ ?_
        rw [h1, Nat.zero_add]
        have h4 := on_done hls hs pre r (.app sy []) hd hg hu k hk σ h2
        rw [hl1] at h4 ⊢
        exact h4
    · rw [if_neg h0] at htx
      have hd1 : s.data.toList = (pre ++ [ch sy]) ++ txM 0 l ++ (41 :: r) := by rw [hd, htx]; simp
      have hd1' : s.data.toList = (pre ++ ch sy :: txM 0 []) ++ txM ([] : List Tm).length l ++ 41 :: r := by rw [hd1]; simp [txM]
      have hd2 : s.data.toList = (pre ++ [ch sy] ++ txM 0 l) ++ 41 :: r := by rw [hd1]
      have hle : pre.length + 1 = (pre ++ [ch sy]).length := by simp
      have hle' : pre.length + 1 = (pre ++ ch sy :: txM 0 []).length := by simp [txM]
      have hle2 : (pre ++ [ch sy]).length + (txM 0 l).length = (pre ++ [ch sy] ++ txM 0 l).length := by simp; omega
      have hle2' : pre.length + 1 + (txM ([] : List Tm).length l).length = (pre ++ [ch sy] ++ txM 0 l).length := by simp [txM]; omega
      have hle3 : pre.length + (Tm.app sy l).tx.length = (pre ++ [ch sy] ++ txM 0 l).length + 1 := by rw [htx]; simp; omega
      have hON := fun b => on_list (rs := rs) (ls := ls) hs sy pre r b l [] (pre ++ ch sy :: txM 0 []) ih (by simp; exact hl2) rfl hd1' hgg.2.2 (by omega)
      rw [← hle', hle2'] at hON
      have hSC := fun (k0 : Nat) b => sc_list (rs := rs) (ls := ls) hs (pre.length : Int) ((pre.length + (Tm.app sy l).tx.length : Nat) : Int) k0 b l 0 (pre ++ [ch sy]) (41 :: r) (fun x _ => sc_all hls hn hs x) hd1 hgg.2.2 (by omega) (by rw [hle2]; omega)
      rw [hle2, ← hle] at hSC
      cases hiL : innerL ls sy [] l with
      | some x =>
        rw [hiL] at hin
        dsimp only
        refine ⟨fun v h => ?_, fun h => (by cases h)⟩
        injection h with h
        subst h
        refine hhead _ ?_
        have h5 := (hON b).1 x hiL
        rcases fit_cases (.app sy l) ls 0 with ⟨h1, h2⟩ | ⟨k, hk, σ, h1, h2, h3⟩
        · rw [h2]
          refine on_gone _ _ _ _ ?_
          rw [hw]
          exact h5
        · rw [h1, Nat.zero_add]
          refine (hSC k _).1 hin.symm ?_
          rw [hw]
          exact h5
      | none =>
        rw [hiL] at hin
        dsimp only
        rcases fit_cases (.app sy l) ls 0 with ⟨h1, h2⟩ | ⟨k, hk, σ, h1, h2, h3⟩
        · rw [h1]
          refine ⟨fun v h => (by cases h), fun _ h => hhead _ ?_⟩
          rw [h2]
          refine on_gone _ _ _ _ ?_
          rw [hw]
          rw [hle3] at h
          exact (hON b).2 hiL (on_skip hs (pre ++ [ch sy] ++ txM 0 l) r 41 (by decide) hd2 b h)
        · rw [h3]
          refine ⟨fun v h => ?_, fun h => (by cases h)⟩
          injection h with h
          subst h
          refine hhead _ ?_
          rw [h1, Nat.zero_add]
          have h4 := on_done hls hs pre r (.app sy l) hd hg hu k hk σ h2
          refine (hSC k _).2 hin.symm ?_
          rw [hle3] at h4 ⊢
          exact sc_skip hs _ _ k (pre ++ [ch sy] ++ txM 0 l) r 41 (by decide) hd2 (by omega) _ h4
end
def onceR (o : Option Tm) : ByteArray × Bool := match o with
  | none => (⟨#[]⟩, false)
  | some v => (v.text, true)
theorem onceRE (rs : List S94) (ls : List (Tm × Tm)) (hls : lawsT rs = some ls) (hn : rs.length ≤ 1000) (t : Tm) (hg : t.good) (hs : t.size ≤ 60) : Evt (fun k => numnahref08_Once.f k rs t.text) (onceR (innerT ls t)) := by
  have hz := text_le (t := t) (by omega)
  have hzz : (t.text.size : Int) = t.tx.length := by rw [text_size]
  have h := on_all hls hn (s := t.text) (by omega) t [] [] (⟨#[]⟩, false) (by rw [text_data]; simp) hg hs
  cases hi : innerT ls t with
  | some v =>
    have h1 := h.1 v hi
    rw [List.nil_append, List.append_nil] at h1
    exact h1
  | none =>
    exact h.2 hi (Evt.now fun k => by rw [numnahref08_Once.l0, if_neg (by rw [List.length_nil]; omega)])
attribute [local go_sem] max2_int min2_int max_two min_two max_three min_three max_four min_four
set_option linter.unusedVariables false
set_option linter.unusedSimpArgs false
end Go.Proofs.YtaafeallcaiooaaGreat.Pr
namespace Go.Proofs.YtaafeallcaiooaaGreat.Pr
open Go.RowKit Go.Proofs.Zw Go.Proofs.Zl Go.Proofs.Zm
set_option linter.unusedVariables false
set_option linter.unusedSimpArgs false
theorem good_mk {s : Int} {p us : List Tm} {v : Tm} (hs : 97 ≤ s ∧ s ≤ 102) (hl : (p.length : Int) + 1 + us.length = nParts s) (hp : Tm.goods p) (hv : v.good) (hu : Tm.goods us) : (Tm.app s (p ++ v :: us)).good := by
  rw [Tm.good]
  refine ⟨hs, by rw [List.length_append, List.length_cons]; omega, ?_⟩
  rw [goods_app, Tm.goods]
  exact ⟨hp, hv, hu⟩
theorem nxS_len (ls : List (Tm × Tm)) (t : Tm) : (nxS ls t).length ≤ (nexA ls t).length := by
  have := putA_len [] [] (nexA ls t) []
  rw [List.length_nil] at this
  show (putA [] [] (nexA ls t) []).length ≤ _
  omega
theorem nexA_le (ls : List (Tm × Tm)) (hl : ls.length ≤ 1000) (t : Tm) (ht : t.size ≤ 60) : (nexA ls t).length ≤ 60000 := by
  have h1 := nexA_len ls t
  have hb : ls.length * t.size ≤ 1000 * 60 := Int.mul_le_mul (by omega) ht (by have := Tm.size_pos t; omega) (by omega)
  omega
mutual
theorem nexA_good (ls : List (Tm × Tm)) (hls : LawsGood ls) : ∀ (t : Tm), t.good → t.size ≤ 1000000 → ∀ v, v ∈ nexA ls t → v.good
  | .var c, hg, hs, v, hv => by rw [nexA] at hv; exact rootT_good hls hg hs hv
  | .app s l, hg, hs, v, hv => by
    rw [nexA, List.mem_append] at hv
    rcases hv with hv | hv
    · exact rootT_good hls hg hs hv
    · rw [Tm.good] at hg
      rw [Tm.size] at hs
      exact nexL_good ls hls s hg.1 l [] (by rw [Tm.goods]; trivial) hg.2.2 (by omega) (by simp; omega) v hv
theorem nexL_good (ls : List (Tm × Tm)) (hls : LawsGood ls) (s : Int) (hs : 97 ≤ s ∧ s ≤ 102) : ∀ (us p : List Tm), Tm.goods p → Tm.goods us → Tm.sizes us ≤ 1000000 → (p.length : Int) + us.length = nParts s → ∀ v, v ∈ nexL ls s p us → v.good
  | [], p, hp, hu, hz, hn, v, hv => by rw [nexL] at hv; cases hv
  | u :: us, p, hp, hu, hz, hn, v, hv => by
    rw [Tm.goods] at hu
    rw [Tm.sizes] at hz
    rw [List.length_cons] at hn
    have hsn := Tm.sizes_nn us
    have hsp := Tm.size_pos u
    rw [nexL, List.mem_append, List.mem_map] at hv
    rcases hv with ⟨x, hx, rfl⟩ | hv
    · exact good_mk hs (by omega) hp (nexA_good ls hls u hu.1 (by omega) x hx) hu.2
    · exact nexL_good ls hls s hs us (p ++ [u]) (by rw [goods_app, Tm.goods, Tm.goods]; exact ⟨hp, hu.1, trivial⟩) hu.2 (by omega) (by simp; omega) v hv
end
theorem chk_none {l : List Tm} (h : chk l = none) : ∃ t, t ∈ l ∧ ¬ t.size ≤ 60 := by
  unfold chk at h
  split at h
  · cases h
  · rename_i h1
    refine Classical.byContradiction fun hn => h1 (List.all_eq_true.2 fun t ht => ?_)
    exact decide_eq_true (Classical.byContradiction fun h2 => hn ⟨t, ht, h2⟩)
theorem mk_big (s : Int) (p us : List Tm) (v : Tm) : v.size ≤ (Tm.app s (p ++ v :: us)).size := by
  rw [Tm.size, sizes_app, Tm.sizes]
  have h1 := Tm.sizes_nn p
  have h2 := Tm.sizes_nn us
  omega
mutual
theorem nextT_nexA (ls : List (Tm × Tm)) : ∀ t : Tm, nextT ls t = chk (nexA ls t)
  | .var c => by rw [nextT, nexA]
  | .app s l => by
    rw [nextT, nexA]
    rcases nextL_nexL ls s [] l with h | ⟨h, x, hx, hb⟩
    · rw [h, Option.bind_some]
    · rw [h, Option.bind_none]
      exact (chk_no (List.mem_append_right _ hx) hb).symm
theorem nextL_nexL (ls : List (Tm × Tm)) (s : Int) : ∀ (pre l : List Tm), nextL ls s pre l = some (nexL ls s pre l) ∨ (nextL ls s pre l = none ∧ ∃ x, x ∈ nexL ls s pre l ∧ ¬ x.size ≤ 60)
  | pre, [] => .inl (by rw [nextL, nexL])
  | pre, u :: us => by
    rw [nextL, nexL, nextT_nexA ls u]
    cases hc : chk (nexA ls u) with
    | none =>
      obtain ⟨v, hv, hb⟩ := chk_none hc
      refine .inr ⟨rfl, .app s (pre ++ v :: us), List.mem_append_left _ (List.mem_map.2 ⟨v, hv, rfl⟩), ?_⟩
      have := mk_big s pre us v
      omega
    | some r =>
      obtain ⟨rfl, _⟩ := chk_some hc
      rw [Option.bind_some]
      rcases nextL_nexL ls s (pre ++ [u]) us with h | ⟨h, x, hx, hb⟩
      · rw [h]
        exact .inl rfl
      · rw [h]
        exact .inr ⟨rfl, x, List.mem_append_right _ hx, hb⟩
end
theorem ltS_irrefl (x : ByteArray) : ¬ ltS x x := fun h => ((ltS_iff x x).1 h).2 rfl
theorem sorted_ext : ∀ l m : List ByteArray, l.Pairwise ltS → m.Pairwise ltS → (∀ x, x ∈ l ↔ x ∈ m) → l = m
  | [], [], _, _, _ => rfl
  | [], b :: m, _, _, h => absurd ((h b).2 (by simp)) (by simp)
  | a :: l, [], _, _, h => absurd ((h a).1 (by simp)) (by simp)
  | a :: l, b :: m, h1, h2, h => by
    have ha := List.pairwise_cons.1 h1
    have hb := List.pairwise_cons.1 h2
    have e : a = b := by
      rcases List.mem_cons.1 ((h a).1 (by simp)) with e | e
      · exact e
      · rcases List.mem_cons.1 ((h b).2 (by simp)) with e2 | e2
        · exact e2.symm
        · exact absurd (ltS_trans (ha.1 b e2) (hb.1 a e)) (ltS_irrefl a)
    subst e
    rw [sorted_ext l m ha.2 hb.2 (fun x => ⟨fun hx => ?_, fun hx => ?_⟩)]
    · rcases List.mem_cons.1 ((h x).1 (List.mem_cons_of_mem _ hx)) with e | e
      · exact absurd (e ▸ ha.1 x hx) (ltS_irrefl _)
      · exact e
    · rcases List.mem_cons.1 ((h x).2 (List.mem_cons_of_mem _ hx)) with e | e
      · exact absurd (e ▸ hb.1 x hx) (ltS_irrefl _)
      · exact e
theorem mem_txs {x : ByteArray} : ∀ {l : List Tm}, x ∈ textsT l ↔ ∃ v ∈ l, x = v.text
  | [] => by simp [textsT]
  | t :: l => by
    rw [textsT, mem_insD, mem_txs]
    simp
theorem nxS_eq (ls : List (Tm × Tm)) (t : Tm) : nxS ls t = textsT (nexA ls t) := sorted_ext _ _ (nxS_sorted ls t) (textsT_sorted _) (fun x => by rw [mem_nxS, mem_txs])
mutual
theorem nexA_sz (ls : List (Tm × Tm)) (hls : LawsGood ls) : ∀ t : Tm, t.size ≤ 60 → ∀ v, v ∈ nexA ls t → v.size ≤ 720 + t.size
  | .var c, hs, v, hv => by
    rw [nexA] at hv
    have := rootT_size hls hs hv
    have := Tm.size_pos (.var c)
    omega
  | .app s l, hs, v, hv => by
    rw [nexA, List.mem_append] at hv
    rcases hv with hv | hv
    · have := rootT_size hls hs hv
      have := Tm.size_pos (.app s l)
      omega
    · rw [Tm.size] at hs ⊢
      have := nexL_sz ls hls s l [] (by omega) v hv
      rw [Tm.sizes] at this
      omega
theorem nexL_sz (ls : List (Tm × Tm)) (hls : LawsGood ls) (s : Int) : ∀ (l p : List Tm), Tm.sizes l ≤ 60 → ∀ v, v ∈ nexL ls s p l → v.size ≤ 720 + (1 + Tm.sizes p + Tm.sizes l)
  | [], p, hz, v, hv => by rw [nexL] at hv; cases hv
  | u :: us, p, hz, v, hv => by
    rw [Tm.sizes] at hz ⊢
    have h1 := Tm.sizes_nn us
    have h2 := Tm.size_pos u
    rw [nexL, List.mem_append, List.mem_map] at hv
    rcases hv with ⟨x, hx, rfl⟩ | hv
    · have := nexA_sz ls hls u (by omega) x hx
      rw [Tm.size, sizes_app, Tm.sizes]
      omega
    · have := nexL_sz ls hls s us (p ++ [u]) (by omega) v hv
      rw [sizes_app, Tm.sizes, Tm.sizes] at this
      omega
end
def bigS (x : ByteArray) : Bool := decide ((cnt x.data.toList : Int) > 60)
theorem largeL (l : List ByteArray) (hl : l.length ≤ 1000000) (hz : ∀ x, x ∈ l → x.size ≤ 1000000) : ∀ (n i : Nat), i + n = l.length → Evt (fun k => numnahref08_Large.l0 k l (i : Int)) ((l.drop i).any bigS)
  | 0, i, hi => by
    rw [List.drop_of_length_le (by omega)]
    refine Evt.now fun k => ?_
    rw [numnahref08_Large.l0, if_neg (by omega)]
    rfl
  | n + 1, i, hi => by
    have hil : i < l.length := by omega
    have hw : wrap64 ((i : Int) + 1) = ((i + 1 : Nat) : Int) := (wr (by omega) (by omega)).trans (by omega)
    have hzz := hz l[i] (List.getElem_mem hil)
    have ih := largeL l hl hz n (i + 1) (by omega)
    rw [List.drop_eq_getElem_cons hil, List.any_cons]
    refine Evt.step (g' := fun k => (numnahref08_Size.f k l[i]).bind fun t => (if t > 60 then (some true) else (numnahref08_Large.l0 k l ((i + 1 : Nat) : Int)))) (fun k => ?_) ?_
    · rw [numnahref08_Large.l0, if_pos (by omega), if_pos (by omega), rdOf_at l i hil, hw]
    · refine Evt.bind (sizeE' l[i] (by omega)) ?_
      unfold bigS
      by_cases h : (cnt l[i].data.toList : Int) > 60
      · rw [decide_eq_true h]
        exact Evt.pos h (Evt.all fun _ => rfl)
      · rw [decide_eq_false h]
        exact Evt.neg h ih
theorem largeRE (l : List ByteArray) (hl : l.length ≤ 1000000) (hz : ∀ x, x ∈ l → x.size ≤ 1000000) : Evt (fun k => numnahref08_Large.f k l) (l.any bigS) := largeL l hl hz l.length 0 (by omega)
theorem big_text {v : Tm} (hg : v.good) : bigS v.text = decide (¬ v.size ≤ 60) := by
  unfold bigS
  rw [text_data, cnt_tx v hg]
  by_cases h : v.size ≤ 60
  · rw [decide_eq_false (by omega), decide_eq_false (by simpa using h)]
  · rw [decide_eq_true (by omega), decide_eq_true h]
theorem next_ref {ls : List (Tm × Tm)} (hls : LawsGood ls) {t : Tm} (hg : t.good) (hs : t.size ≤ 60) : ((nxS ls t).any bigS = false ∧ nextT ls t = some (nexA ls t)) ∨ ((nxS ls t).any bigS = true ∧ nextT ls t = none) := by
  rw [nextT_nexA]
  have hgd := nexA_good ls hls t hg (by omega)
  cases hb : (nxS ls t).any bigS with
  | false =>
    refine .inl ⟨rfl, chk_ok fun v hv => Classical.byContradiction fun hn => ?_⟩
    have : (nxS ls t).any bigS = true := List.any_eq_true.2 ⟨v.text, mem_nxS.2 ⟨v, hv, rfl⟩, by rw [big_text (hgd v hv)]; exact decide_eq_true hn⟩
    rw [hb] at this
    cases this
  | true =>
    obtain ⟨x, hx, hbx⟩ := List.any_eq_true.1 hb
    obtain ⟨v, hv, rfl⟩ := mem_nxS.1 hx
    rw [big_text (hgd v hv), decide_eq_true_eq] at hbx
    exact .inr ⟨rfl, chk_no hv hbx⟩
theorem nxS_small {ls : List (Tm × Tm)} (hls : LawsGood ls) {t : Tm} (hs : t.size ≤ 60) : ∀ x, x ∈ nxS ls t → x.size ≤ 1000000 := fun x hx => by
  obtain ⟨v, hv, rfl⟩ := mem_nxS.1 hx
  have := nexA_sz ls hls t hs v hv
  have := text_le (t := v) (by omega)
  omega
def finN (n : Nat) : Option (Tm × Nat) → ByteArray × Int × Bool
  | none => (⟨#[]⟩, 0, false)
  | some r => (r.1.text, ((r.2 + n : Nat) : Int), true)
theorem normL (rs : List S94) (ls : List (Tm × Tm)) (hls : lawsT rs = some ls) (hn : rs.length ≤ 1000) (m : Nat) (hm : m ≤ 1000) : ∀ (d n : Nat) (t : Tm), n + d = m → t.good → t.size ≤ 60 → Evt (fun k => numnahref08_Normal.l0 k rs t.text (m : Int) (n : Int)) (finN n (normT ls d t))
  | d, n, t, hd, hg, hs => by
    have hO := onceRE rs ls hls hn t hg hs
    have hlg := (lawsT_good hls).1
    refine Evt.step (g' := fun k => (numnahref08_Once.f k rs t.text).bind fun bt537 => (if bt537.2 = true then (if (n : Int) = (m : Int) then (some ((⟨#[]⟩ : ByteArray), 0, false)) else ((numnahref08_Size.f k bt537.1).bind fun t539 => (if t539 > 60 then (some ((⟨#[]⟩ : ByteArray), 0, false)) else (numnahref08_Normal.l0 k rs bt537.1 (m : Int) (wrap64 ((n : Int) + 1)))))) else (some (t.text, (n : Int), true)))) (fun k => by rw [numnahref08_Normal.l0]) ?_
    refine Evt.bind hO ?_
    cases hi : innerT ls t with
    | none =>
      rw [normT_none hi]
      refine Evt.neg (by simp [onceR]) (Evt.all fun _ => ?_)
      simp [finN]
    | some u =>
      have hgu := innerT_good hlg t u hg hs hi
      have hsu := innerT_size hlg t u hs hi
      refine Evt.pos rfl ?_
      cases d with
      | zero =>
        rw [normT_zero hi]
        exact Evt.pos (by omega) (Evt.all fun _ => rfl)
      | succ d =>
        refine Evt.neg (by omega) ?_
        have hzu := text_le (t := u) (by omega)
        refine Evt.bind (sizeE' u.text (by omega)) ?_
        rw [text_data, cnt_tx u hgu]
        by_cases hb : u.size ≤ 60
        · rw [normT_succ hi hb]
          have hw : wrap64 ((n : Int) + 1) = ((n + 1 : Nat) : Int) := (wr (by omega) (by omega)).trans (by omega)
          rw [hw]
          refine Evt.neg (by omega) ((normL rs ls hls hn m hm d (n + 1) u (by omega) hgu hb).val ?_)
          cases normT ls d u with
          | none => rfl
          | some r => simp only [Option.map_some, finN]; rw [show r.2 + 1 + n = r.2 + (n + 1) by omega]
        · rw [normT_big hi hb]
          exact Evt.pos (by omega) (Evt.all fun _ => rfl)
theorem normalRE (rs : List S94) (ls : List (Tm × Tm)) (hls : lawsT rs = some ls) (hn : rs.length ≤ 1000) (m : Nat) (hm : m ≤ 1000) (t : Tm) (hg : t.good) (hs : t.size ≤ 60) : Evt (fun k => numnahref08_Normal.f k rs t.text (m : Int)) (finN 0 (normT ls m t)) := normL rs ls hls hn m hm m 0 t (by omega) hg hs
theorem textsL (a b : List ByteArray) (hl : a.length = b.length) (hz : a.length ≤ 1000000000) : ∀ (n i : Nat), i + n = a.length → Evt (fun k => numnahlaw08_texts.l0 k a b (i : Int)) (decide (a.drop i = b.drop i))
  | 0, i, hi => by
    rw [List.drop_of_length_le (by omega), List.drop_of_length_le (by omega)]
    refine Evt.now fun k => ?_
    rw [numnahlaw08_texts.l0, if_neg (by omega)]
    rfl
  | n + 1, i, hi => by
    have h1 : i < a.length := by omega
    have h2 : i < b.length := by omega
    have hw : wrap64 ((i : Int) + 1) = ((i + 1 : Nat) : Int) := (wr (by omega) (by omega)).trans (by omega)
    rw [List.drop_eq_getElem_cons h1, List.drop_eq_getElem_cons h2]
    by_cases he : a[i] = b[i]
    · refine Evt.step (g' := fun k => numnahlaw08_texts.l0 k a b ((i + 1 : Nat) : Int)) (fun k => ?_) ((textsL a b hl hz n (i + 1) (by omega)).val ?_)
      · rw [numnahlaw08_texts.l0, if_pos (by omega), if_pos (by omega), if_pos (by omega), rdOf_at a i h1, rdOf_at b i h2, if_pos (by rw [he]), hw]
      · rw [he]
        by_cases hd : a.drop (i + 1) = b.drop (i + 1)
        · rw [decide_eq_true hd, hd, decide_eq_true rfl]
        · rw [decide_eq_false hd, decide_eq_false (fun e => hd (by injection e))]
    · refine Evt.now fun k => ?_
      rw [numnahlaw08_texts.l0, if_pos (by omega), if_pos (by omega), if_pos (by omega), rdOf_at a i h1, rdOf_at b i h2, if_neg (fun e => he (toList_inj.1 e))]
      rw [decide_eq_false (fun e => he (by injection e))]
theorem textsE (a b : List ByteArray) (hz : a.length ≤ 1000000000) : Evt (fun k => numnahlaw08_texts.f k a b) (decide (a = b)) := by
  unfold numnahlaw08_texts.f
  by_cases hl : a.length = b.length
  · refine Evt.pos (by omega) ?_
    have h := textsL a b hl hz a.length 0 (by omega)
    rw [List.drop_zero, List.drop_zero] at h
    exact h
  · refine Evt.neg (by omega) (Evt.all fun _ => ?_)
    rw [decide_eq_false (fun e => hl (by rw [e]))]
theorem textsE_eq {a b : List ByteArray} (hz : a.length ≤ 1000000000) (h : a = b) : Evt (fun k => numnahlaw08_texts.f k a b) true := (textsE a b hz).val (decide_eq_true h)
theorem newLaws_ls {rs : List S94} {ls : List (Tm × Tm)} (h : newLawsT rs = some ls) : lawsT rs = some ls := by
  unfold newLawsT at h
  split at h
  · exact h
  · cases h
theorem emp_list : (⟨#[]⟩ : ByteArray).toList = ([] : List UInt8) := by rw [ByteArray.toList_eq]
theorem nexts_j1_arg (rs : List S94) (s : ByteArray) (most : Int) (x : ByteArray) (n e : Int) (hx : x = ⟨#[]⟩) (hn : n = 0) (he : e = 2) : Evt (fun k => numnahlaw08_RulesNexts.j1 k most rs s x n e true) true := by
  subst hx hn he
  exact Evt.step (fun k => by rw [numnahlaw08_RulesNexts.j1, if_pos rfl, if_pos emp_list, if_pos rfl, if_pos rfl]) awakeF
theorem nexts_j0 (rs : List S94) (ls : List (Tm × Tm)) (hN : newLawsT rs = some ls) (hn : rs.length ≤ 1000) (t : Tm) (hg : t.good) (hs : t.size ≤ 60) (most : Int) : Evt (fun k => numnahlaw08_RulesNexts.j0 k most rs t.text (normalT rs t.text most).2.1 (normalT rs t.text most).2.2 (normalT rs t.text most).1) true := by
  have hR := readT_back hg hs
  by_cases h : 0 ≤ most ∧ most ≤ 200
  · obtain ⟨m, rfl⟩ : ∃ m : Nat, most = (m : Int) := ⟨most.toNat, by omega⟩
    refine Evt.step (g' := fun k => numnahlaw08_RulesNexts.j1 k (m : Int) rs t.text (normalT rs t.text m).2.1 (normalT rs t.text m).2.2 (normalT rs t.text m).1 false) (fun k => by rw [numnahlaw08_RulesNexts.j0, if_neg (by omega), decide_eq_false (by omega)]) ?_
    have hE := normalRE rs ls (newLaws_ls hN) hn m (by omega) t hg hs
    have e : normalT rs t.text (m : Int) = match normT ls m t with
      | none => (5, ⟨#[]⟩, 0)
      | some r => (0, r.1.text, (r.2 : Int)) := by
      unfold normalT
      rw [hN]; dsimp only; rw [hR]; dsimp only; rw [if_pos h, Int.toNat_natCast]
      cases normT ls m t <;> rfl
    refine Evt.step (g' := fun k => (numnahref08_Normal.f k rs t.text (m : Int)).bind fun bt561 => (if bt561.2.2 = true then (if (normalT rs t.text m).2.1.toList = bt561.1.toList then (if (normalT rs t.text m).2.2 = bt561.2.1 then (if (normalT rs t.text m).1 = 0 then ((numnahlaw08_awake.f k).bind fun t564 => (some t564)) else (some false)) else (some false)) else (some false)) else (if (normalT rs t.text m).2.1.toList = ([] : List UInt8) then (if (normalT rs t.text m).2.2 = 0 then (if (normalT rs t.text m).1 = 5 then ((numnahlaw08_awake.f k).bind fun t565 => (some t565)) else (some false)) else (some false)) else (some false)))) (fun k => by rw [numnahlaw08_RulesNexts.j1, if_neg (by simp)]) ?_
    refine Evt.bind hE ?_
    rw [e]
    cases normT ls m t with
    | none => exact Evt.neg (by simp [finN]) (Evt.pos emp_list (Evt.pos rfl (Evt.pos rfl awakeF)))
    | some r => exact Evt.pos rfl (Evt.pos rfl (Evt.pos (by simp [finN]) (Evt.pos rfl awakeF)))
  · have e : normalT rs t.text most = (2, ⟨#[]⟩, 0) := by
      unfold normalT
      rw [hN]; dsimp only; rw [hR]; dsimp only; rw [if_neg h]
    rw [e]
    refine Evt.step (g' := fun k => numnahlaw08_RulesNexts.j1 k most rs t.text ⟨#[]⟩ 0 2 true) (fun k => ?_) (nexts_j1_arg rs t.text most _ _ _ rfl rfl rfl)
    rw [numnahlaw08_RulesNexts.j0]
    by_cases h0 : most < 0
    · rw [if_pos h0]
    · rw [if_neg h0, decide_eq_true (by omega)]
theorem nexts_all (l0 : List S94) (a1 : ByteArray) (a2 : Int) : Evt (fun k => numnahlaw08_RulesNexts.f k l0 a1 a2) true := by
  obtain ⟨rs, hrs, hE⟩ := lawsE l0
  obtain ⟨s, hp, hps⟩ := short_ev a1
  have hrl := hrs.1
  have hR := rulesRE rs (by omega) (fun y hy => by have := hrs.2 y hy; omega)
  have hO : rules_Next.f rs s = some ((nextsT rs s).2, (nextsT rs s).1) := rfl
  have hV : rules_Normal.f rs s a2 = some ((normalT rs s a2).2.1, (normalT rs s a2).2.2, (normalT rs s a2).1) := rfl
  unfold numnahlaw08_RulesNexts.f
  refine Evt.bind hE ?_
  simp only [hp, hO, hV, Option.bind_some]
  refine Evt.bind hR ?_
  cases hN : newLawsT rs with
  | none =>
    have eo : nextsT rs s = (2, []) := by unfold nextsT; rw [hN]
    have ev : normalT rs s a2 = (2, ⟨#[]⟩, 0) := by unfold normalT; rw [hN]
    rw [eo, ev]
    exact Evt.neg (by simp) (Evt.pos rfl (Evt.pos rfl (Evt.pos emp_list (Evt.pos rfl (Evt.pos rfl awakeF)))))
  | some ls =>
    have hlg := newLawsT_good hN
    refine Evt.pos rfl (Evt.bind (termRE s (by omega)) ?_)
    cases hT : readT s with
    | none =>
      have eo : nextsT rs s = (4, []) := by unfold nextsT; rw [hN]; dsimp only; rw [hT]
      have ev : normalT rs s a2 = (4, ⟨#[]⟩, 0) := by unfold normalT; rw [hN]; dsimp only; rw [hT]
      rw [eo, ev]
      exact Evt.neg (by simp) (Evt.pos rfl (Evt.pos rfl (Evt.pos emp_list (Evt.pos rfl (Evt.pos rfl awakeF)))))
    | some t =>
      have hgt := readT_good hT
      obtain rfl := readT_text hT
      have hj := nexts_j0 rs ls hN (by omega) t hgt.1 hgt.2 a2
      refine Evt.pos rfl (Evt.bind (nextRE rs ls (newLaws_ls hN) (by omega) t hgt.1 hgt.2) ?_)
      have hle := nexA_le ls (by omega) t hgt.2
      have hxl := nxS_len ls t
      refine Evt.bind (largeRE (nxS ls t) (by omega) (nxS_small hlg.1 hgt.2)) ?_
      rcases next_ref hlg.1 hgt.1 hgt.2 with ⟨h1, h2⟩ | ⟨h1, h2⟩
      · have eo : nextsT rs t.text = (0, textsT (nexA ls t)) := by unfold nextsT; rw [hN]; dsimp only; rw [hT]; dsimp only; rw [h2]
        rw [h1, eo]
        refine Evt.neg (by simp) (Evt.bind (textsE_eq (by rw [← nxS_eq]; dsimp only; omega) (nxS_eq ls t).symm) (Evt.pos rfl (Evt.pos rfl hj)))
      · have eo : nextsT rs t.text = (5, []) := by unfold nextsT; rw [hN]; dsimp only; rw [hT]; dsimp only; rw [h2]
        rw [h1, eo]
        exact Evt.pos rfl (Evt.pos rfl (Evt.pos rfl hj))
end Go.Proofs.YtaafeallcaiooaaGreat.Pr
namespace Go.Proofs.YtaafeallcaiooaaGreat.Pure
open Go.RowKit Go.Proofs.YtaafeallcaiooaaGreat.Pr Go.Proofs.Zw Go.Proofs.Zl
theorem RulesNexts : numnahlaw08_RulesNexts.Pure := by
  intro l a b _ _ _ _ _
  exact (nexts_all l a b).ex
end Go.Proofs.YtaafeallcaiooaaGreat.Pure
