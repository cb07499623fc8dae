import Derived.Test.YthngclneffngbaaPr0
import Derived.MapKept
namespace Go.Proofs.Ythngclneffngbaa.Pr
open Go.RowKit Go.Proofs.YthngclneffngbaaW.PrintWords Go.Proofs.YthngclneffngbaaW.PrintLast Go.Proofs.YthngclneffngbaaW.PrintMore
set_option linter.unusedVariables false
set_option linter.unusedSimpArgs false

/-! ### maps, as lists of pairs in the order in which their keys came -/
/-- Block m is a map that holds just these pairs. -/
def MapIs {α : Type} (enc : α → Value) (w : World) (m : Nat) (L : List (α × Value)) : Prop :=
  ∃ es clock, w.heap[m]? = some (.map es clock) ∧ es.toList.map (fun e => (e.key, e.val)) = L.map (fun p => (enc p.1, p.2))
def blockSet (w : World) (m : Nat) (o : Obj) : World := { w with heap := w.heap.setIfInBounds m o }
theorem MapIs.keys {α : Type} {enc : α → Value} {es : Array MapEntry} {L : List (α × Value)} (h : es.toList.map (fun e => (e.key, e.val)) = L.map (fun p => (enc p.1, p.2))) : es.toList.map (·.key) = (L.map (·.1)).map enc := by
  have := congrArg (List.map Prod.fst) h
  simpa [List.map_map, Function.comp_def] using this
theorem MapIs.val_at {α : Type} {enc : α → Value} {es : Array MapEntry} {L : List (α × Value)} (h : es.toList.map (fun e => (e.key, e.val)) = L.map (fun p => (enc p.1, p.2))) (i : Nat) : (es.toList[i]?).map (·.val) = (L[i]?).map (·.2) := by
  have := congrArg (fun l => (l[i]?).map Prod.snd) h
  simpa [List.getElem?_map, Option.map_map, Function.comp_def] using this
section
variable {α : Type} [DecidableEq α]
/-- Keys of type kt are values of α. -/
structure Keyd (P : Program) (kt : TypeId) (enc : α → Value) : Prop where
  check : ∀ (a : α) (em : Bool) (w : World), (Instr.checkKey em 10000 kt (enc a)).run P w = .ok () w
  find : ∀ (a : α) (es : List MapEntry) (ks : List α) (w : World), es.map (·.key) = ks.map enc → (Instr.findKey kt (enc a) es).run P w = .ok (match ks.findIdx? (· = a) with | some i => (es[i]?).map (fun e => (i, e.val)) | none => none) w
  same : ∀ a : α, Instr.sameBits 10000 (enc a) (enc a) = true
def getL (L : List (α × Value)) (a : α) : Option Value := (L.find? (fun p => p.1 = a)).map (·.2)
def putL : List (α × Value) → α → Value → List (α × Value)
  | [], a, v => [(a, v)]
  | p :: L, a, v => if p.1 = a then (a, v) :: L else p :: putL L a v
theorem find_of_eq {P : Program} {kt : TypeId} {enc : α → Value} (heq : ∀ (a b : α) (w : World), (Op.equal kt (enc a) (enc b)).run P w = .ok (decide (a = b)) w) (a : α) (w : World) : ∀ (es : List MapEntry) (ks : List α) (i : Nat), es.map (·.key) = ks.map enc →
    (Instr.findAsking kt (enc a) es i).run P w = .ok (match ks.findIdx? (· = a) with | some j => (es[j]?).map (fun e => (i + j, e.val)) | none => none) w := by
  intro es
  induction es with
  | nil =>
    intro ks i h
    cases ks with
    | nil => simp [Instr.findAsking]
    | cons k ks => simp at h
  | cons e es ih =>
    intro ks i h
    cases ks with
    | nil => simp at h
    | cons k ks =>
      simp only [List.map_cons, List.cons.injEq] at h
      obtain ⟨hk, h⟩ := h
      simp only [Instr.findAsking, Sem.run_bind, hk, heq, Result.andThen_ok]
      by_cases e1 : a = k
      · subst e1
        simp [List.findIdx?_cons]
      · have e2 : ¬ k = a := fun h => e1 h.symm
        simp only [e1, decide_false, Bool.false_eq_true, if_false, List.findIdx?_cons, e2]
        rw [ih ks (i + 1) h]
        cases hf : ks.findIdx? (· = a) with
        | none => simp
        | some j => simp [Nat.add_assoc, Nat.add_comm 1 j]
theorem keyd_of_asking {P : Program} {kt : TypeId} {d : TypeDesc} {enc : α → Value} (hd : P.underlying kt = some d) (hn : ∀ (a : α) (v : Value), Instr.sameNow d (enc a) v = none) (heq : ∀ (a b : α) (w : World), (Op.equal kt (enc a) (enc b)).run P w = .ok (decide (a = b)) w)
    (hc : ∀ (a : α) (em : Bool) (w : World), (Instr.checkKey em 10000 kt (enc a)).run P w = .ok () w) (hs : ∀ a : α, Instr.sameBits 10000 (enc a) (enc a) = true) : Keyd P kt enc := by
  refine ⟨hc, ?_, hs⟩
  intro a es ks w h
  simp only [Instr.findKey, Sem.run_bind, run_underlying hd, Result.andThen_ok]
  cases es with
  | nil =>
    cases ks with
    | nil => simp [Instr.findNow]
    | cons k ks => simp at h
  | cons e es =>
    cases ks with
    | nil => simp at h
    | cons k ks =>
      have : Instr.findNow d (enc a) (e :: es) 0 = none := by simp [Instr.findNow, hn]
      rw [this]
      dsimp only
      rw [find_of_eq heq a w (e :: es) (k :: ks) 0 h]
      simp
theorem find_now {d : TypeDesc} {enc : α → Value} (hn : ∀ a b : α, Instr.sameNow d (enc a) (enc b) = some (decide (a = b))) (a : α) : ∀ (es : List MapEntry) (ks : List α) (i : Nat), es.map (·.key) = ks.map enc →
    Instr.findNow d (enc a) es i = some (match ks.findIdx? (· = a) with | some j => (es[j]?).map (fun e => (i + j, e.val)) | none => none) := by
  intro es
  induction es with
  | nil =>
    intro ks i h
    cases ks with
    | nil => simp [Instr.findNow]
    | cons k ks => simp at h
  | cons e es ih =>
    intro ks i h
    cases ks with
    | nil => simp at h
    | cons k ks =>
      simp only [List.map_cons, List.cons.injEq] at h
      obtain ⟨hk, h⟩ := h
      simp only [Instr.findNow, hk, hn]
      by_cases e1 : a = k
      · subst e1
        simp [List.findIdx?_cons]
      · have e2 : ¬ k = a := fun h => e1 h.symm
        simp only [e1, decide_false, List.findIdx?_cons, e2, Bool.false_eq_true, if_false]
        rw [ih ks (i + 1) h]
        cases hf : ks.findIdx? (· = a) with
        | none => simp
        | some j => simp [Nat.add_assoc, Nat.add_comm 1 j]
theorem keyd_of_now {P : Program} {kt : TypeId} {d : TypeDesc} {enc : α → Value} (hd : P.underlying kt = some d) (hn : ∀ a b : α, Instr.sameNow d (enc a) (enc b) = some (decide (a = b)))
    (hc : ∀ (a : α) (em : Bool) (w : World), (Instr.checkKey em 10000 kt (enc a)).run P w = .ok () w) (hs : ∀ a : α, Instr.sameBits 10000 (enc a) (enc a) = true) : Keyd P kt enc := by
  refine ⟨hc, ?_, hs⟩
  intro a es ks w h
  simp only [Instr.findKey, Sem.run_bind, run_underlying hd, Result.andThen_ok]
  rw [find_now hn a es ks 0 h]
  simp
theorem getL_find (L : List (α × Value)) (a : α) : (match (L.map (·.1)).findIdx? (· = a) with | some i => (L[i]?).map (·.2) | none => none) = getL L a := by
  induction L with
  | nil => simp [getL]
  | cons p L ih =>
    unfold getL at ih ⊢
    simp only [List.map_cons, List.findIdx?_cons, List.find?_cons]
    by_cases e : p.1 = a
    · simp [e]
    · simp only [e, decide_false, Bool.false_eq_true, if_false]
      rw [← ih]
      cases (L.map (·.1)).findIdx? (· = a) with
      | none => simp
      | some j => simp
/-- a look-up -/
theorem MapIs.lookup {P : Program} {T kt et : TypeId} {enc : α → Value} (K : Keyd P kt enc) (hT : P.underlying T = some (.map kt et)) {z : Value} (hz : ∀ w, (zeroValue et).run P w = .ok z w) {w : World} {m : Nat} {L : List (α × Value)} (h : MapIs enc w m L) (a : α) (ok : Bool) :
    (Instr.lookup T (.map (some m)) (enc a) ok).run P w = .ok (if ok then .tuple #[(getL L a).getD z, .bool (getL L a).isSome] else (getL L a).getD z) w := by
  obtain ⟨es, clock, hb, he⟩ := h
  have hf := K.find a es.toList (L.map (·.1)) w (MapIs.keys he)
  have hg := getL_find L a
  simp only [Instr.lookup, Sem.run_bind, run_underlying hT, MapKept.run_getObj_map hb, K.check, hf, Result.andThen_ok, Sem.run_pure]
  cases hi : (L.map (·.1)).findIdx? (· = a) with
  | none =>
    rw [hi] at hg
    dsimp only at hg
    simp only [← hg, hz, Sem.run_bind, Result.andThen_ok, Sem.run_pure]
    cases ok <;> rfl
  | some i =>
    rw [hi] at hg
    dsimp only at hg ⊢
    have hlt : i < L.length := by
      have := List.findIdx?_eq_some_iff_findIdx_eq.1 hi
      simpa using this.1
    have hv := MapIs.val_at he i
    rw [List.getElem?_eq_getElem hlt] at hv hg
    cases hx : es.toList[i]? with
    | none => rw [hx] at hv; cases hv
    | some e =>
      rw [hx] at hv
      simp only [Option.map_some, Option.some.injEq] at hv hg
      simp only [Option.map_some, Sem.run_pure, Result.andThen_ok, ← hg, hv]
      cases ok <;> rfl
theorem putL_none {L : List (α × Value)} {a : α} (v : Value) (h : (L.map (·.1)).findIdx? (· = a) = none) : putL L a v = L ++ [(a, v)] := by
  induction L with
  | nil => rfl
  | cons p L ih =>
    simp only [List.map_cons, List.findIdx?_cons] at h
    by_cases e : p.1 = a
    · simp [e] at h
    · simp only [e, decide_false, Bool.false_eq_true, if_false, Option.map_eq_none_iff] at h
      simp only [putL, if_neg e, ih h, List.cons_append]
theorem putL_some {L : List (α × Value)} {a : α} (v : Value) : ∀ {i : Nat}, (L.map (·.1)).findIdx? (· = a) = some i → putL L a v = L.set i (a, v) := by
  induction L with
  | nil => intro i h; simp at h
  | cons p L ih =>
    intro i h
    simp only [List.map_cons, List.findIdx?_cons] at h
    by_cases e : p.1 = a
    · simp [e] at h
      subst h
      simp [putL, e]
    · simp only [e, decide_false, Bool.false_eq_true, if_false, Option.map_eq_some_iff] at h
      obtain ⟨j, hj, rfl⟩ := h
      simp only [putL, if_neg e, ih hj, List.set_cons_succ]
/-- a store into a map -/
theorem MapIs.update {P : Program} {T kt et : TypeId} {enc : α → Value} (K : Keyd P kt enc) (hT : P.underlying T = some (.map kt et)) {w : World} {m : Nat} {L : List (α × Value)} (h : MapIs enc w m L) (a : α) (v : Value) :
    ∃ o, (Instr.mapUpdate T (.map (some m)) (enc a) v).run P w = .ok () (blockSet w m o) ∧ MapIs enc (blockSet w m o) m (putL L a v) := by
  obtain ⟨es, clock, hb, he⟩ := h
  have hlt : m < w.heap.size := (Array.getElem?_eq_some_iff.1 hb).1
  have hf := K.find a es.toList (L.map (·.1)) w (MapIs.keys he)
  cases hi : (L.map (·.1)).findIdx? (· = a) with
  | none =>
    rw [hi] at hf
    refine ⟨.map (es.push { key := enc a, val := v, born := clock }) (clock + 1), ?_, es.push { key := enc a, val := v, born := clock }, clock + 1, by simp [blockSet, hlt], ?_⟩
    · simp only [Instr.mapUpdate, Sem.run_bind, run_underlying hT, MapKept.run_getObj_map hb, K.check, hf, Result.andThen_ok]
      exact MapKept.run_setObj_map _ hb
    · rw [putL_none v hi]
      simp [he]
  | some i =>
    rw [hi] at hf
    have hlt2 : i < L.length := by
      have := List.findIdx?_eq_some_iff_findIdx_eq.1 hi
      simpa using this.1
    have hka : (L[i]).1 = a := by
      have h2 := List.findIdx?_eq_some_iff_getElem.1 hi
      simpa using h2.2.1
    have hes : es.size = L.length := by simpa using congrArg List.length he
    have hki : (es[i]?).map (·.key) = some (enc a) := by
      have := congrArg (fun l => (l[i]?).map Prod.fst) he
      simp [List.getElem?_map, Option.map_map, Function.comp_def, hlt2, hka] at this
      simpa using this
    refine ⟨.map (es.modify i fun e => { e with key := enc a, val := v }) clock, ?_, es.modify i fun e => { e with key := enc a, val := v }, clock, by simp [blockSet, hlt], ?_⟩
    · have hx : es.toList[i]? = some es[i] := by simp [show i < es.size by omega]
      have hk : (Instr.keyThatStays (enc a) (enc a)).run P w = .ok (enc a) w := by simp [Instr.keyThatStays, K.same]
      simp only [Instr.mapUpdate, Sem.run_bind, run_underlying hT, MapKept.run_getObj_map hb, K.check, hf, Result.andThen_ok, hx, Option.map_some, hki, Option.getD_some, hk]
      exact MapKept.run_setObj_map _ hb
    · rw [putL_some v hi]
      apply List.ext_getElem?
      intro j
      have hj := congrArg (fun l => l[j]?) he
      simp only [List.getElem?_map] at hj
      simp only [List.getElem?_map, Array.getElem?_toList, Array.getElem?_modify, List.getElem?_set]
      by_cases e : i = j
      · subst e
        simp [hlt2, show i < es.size by omega]
      · simp only [if_neg e]
        simpa using hj
end
end Go.Proofs.Ythngclneffngbaa.Pr
