/- slices.Sort at []string: it sorts by insertion's order: in the printer's form for a function that writes its argument. -/
import Derived.Test.YtpeeflkodpnbpaaDoorPr0
import Derived.Test.YtpeeflkodpnbpaaDoorSh
import Derived.IntWalk
namespace Go.Proofs.YtpeeflkodpnbpaaDoor.Pr
open Go.RowKit Go.Sort Go.Proofs.YtpeeflkodpnbpaaDoorW.PrintWords Go.Proofs.YtpeeflkodpnbpaaDoorW.PrintLast Go.Proofs.YtpeeflkodpnbpaaDoorW.PrintMore
set_option linter.unusedVariables false
set_option linter.unusedSimpArgs false

def insS (x : ByteArray) : List ByteArray → List ByteArray
  | [] => [x]
  | y :: l => if Op.bytesLess y.toList x.toList = true then y :: insS x l else x :: y :: l
def sortS : List ByteArray → List ByteArray
  | [] => []
  | x :: l => insS x (sortS l)
/-- the order of strings -/
def leS (x y : ByteArray) : Prop := x.data.toList ≤ y.data.toList
theorem less_iff (x y : ByteArray) : Op.bytesLess x.toList y.toList = true ↔ x.data.toList < y.data.toList := by
  rw [bytesLess_eq, ByteArray.toList_eq, ByteArray.toList_eq, decide_eq_true_iff]
theorem not_less_iff (x y : ByteArray) : ¬ Op.bytesLess x.toList y.toList = true ↔ leS y x := by
  rw [less_iff]; exact List.not_lt
theorem leS_of_less {x y : ByteArray} (h : Op.bytesLess x.toList y.toList = true) : leS x y := by
  rw [less_iff] at h; exact List.le_of_lt h
theorem leS_trans {x y z : ByteArray} (h : leS x y) (k : leS y z) : leS x z := List.le_trans h k
theorem leS_antisymm {x y : ByteArray} (h : leS x y) (k : leS y x) : x = y := by
  have := List.le_antisymm h k
  cases x; cases y
  simp at this
  rw [this]
theorem insS_perm (x : ByteArray) : ∀ l : List ByteArray, (insS x l).Perm (x :: l)
  | [] => .refl _
  | y :: l => by
    rw [insS]
    split
    · exact ((insS_perm x l).cons y).trans (.swap x y l)
    · exact .refl _
theorem sortS_perm : ∀ l : List ByteArray, (sortS l).Perm l
  | [] => .refl _
  | x :: l => (insS_perm x _).trans ((sortS_perm l).cons x)
theorem insS_sorted (x : ByteArray) : ∀ l : List ByteArray, l.Pairwise leS → (insS x l).Pairwise leS
  | [], _ => by simp [insS]
  | y :: l, h => by
    rw [insS]
    have hy := List.pairwise_cons.1 h
    split
    · rename_i hlt
      refine List.pairwise_cons.2 ⟨fun z hz => ?_, insS_sorted x l hy.2⟩
      rcases List.mem_cons.1 ((insS_perm x l).mem_iff.1 hz) with rfl | hz
      · exact leS_of_less hlt
      · exact hy.1 z hz
    · rename_i hlt
      have hle := (not_less_iff _ _).1 hlt
      refine List.pairwise_cons.2 ⟨fun z hz => ?_, h⟩
      rcases List.mem_cons.1 hz with rfl | hz
      · exact hle
      · exact leS_trans hle (hy.1 z hz)
theorem sortS_sorted : ∀ l : List ByteArray, (sortS l).Pairwise leS
  | [] => .nil
  | x :: l => insS_sorted x _ (sortS_sorted l)
theorem sortS_len (l : List ByteArray) : (sortS l).length = l.length := (sortS_perm l).length_eq
def bytesS (x : ByteArray) : List UInt8 := x.data.toList
def ofBytes (l : List UInt8) : ByteArray := ⟨l.toArray⟩
theorem ofBytes_bytes (x : ByteArray) : ofBytes (bytesS x) = x := by cases x; rfl
theorem mergeS_eq (l : List ByteArray) : (l.map bytesS).mergeSort (fun x y => decide (x ≤ y)) = (sortS l).map bytesS := by
  have h1 := List.pairwise_mergeSort (le := fun x y : List UInt8 => decide (x ≤ y)) (fun a b c h1 h2 => by simp at h1 h2 ⊢; exact List.le_trans h1 h2) (fun a b => by simp; exact List.le_total a b) (l.map bytesS)
  have h2 : ((l.map bytesS).mergeSort (fun x y => decide (x ≤ y))).Pairwise (fun x y : List UInt8 => x ≤ y) := h1.imp (fun h => by simpa using h)
  have h3 : ((sortS l).map bytesS).Pairwise (fun x y : List UInt8 => x ≤ y) := List.pairwise_map.2 (sortS_sorted l)
  exact List.Perm.eq_of_pairwise (le := fun x y : List UInt8 => x ≤ y) (fun a b _ _ h1 h2 => List.le_antisymm h1 h2) h2 h3 ((List.mergeSort_perm _ _).trans ((sortS_perm l).symm.map bytesS))

theorem holds_str {w : World} {g : Nat} {cur : Array Value} {e : TypeId} {xs : List ByteArray} (hb : w.heap[g]? = some (.cells cur e (0, 0))) (ht : cur.toList.take xs.length = xs.map Value.string) : Holds encStr w g 0 (xs.map bytesS).toArray := by
  intro j hj
  have hj' : j < xs.length := by simpa using hj
  refine ⟨?_, by simp [World.frozen?, hb]⟩
  have h1 : (cur.toList.take xs.length)[j]? = (xs.map Value.string)[j]? := by rw [ht]
  rw [List.getElem?_take_of_lt hj'] at h1
  simp only [World.cell?, hb, Nat.zero_add]
  simp only [Option.isSome_none, Bool.false_eq_true, if_false]
  rw [← Array.getElem?_toList, h1]
  simp [hj', bytesS]
theorem heap_sortedS {w : World} {g n : Nat} {os : Array Obj} {cur : Array Value} {e : TypeId} {fr : Nat × Nat} (d : Array (List UInt8)) (hb : w.heap[g]? = some (.cells cur e fr)) :
    (grow (putRow encStr (Sort.ahead w n) g 0 d) os).heap[g]? = some (.cells (putCells encStr 0 d cur) e fr) := by
  have hg : g < w.heap.size := (Array.getElem?_eq_some_iff.1 hb).1
  rw [heap_grow_old _ _ (by simpa using hg)]
  simp [putRow, mapBlock, Sort.ahead, Array.getElem?_modify, hb, onCells]
theorem grownBy_sortedS {w : World} {g n : Nat} {os : Array Obj} (d : Array (List UInt8)) : w.grownBy (grow (putRow encStr (Sort.ahead w n) g 0 d) os) (some g) := by
  refine ⟨rfl, rfl, rfl, by simp, fun k hk hne => ?_⟩
  rw [heap_grow_old _ _ (by simpa using hk)]
  have : g ≠ k := fun e => hne (by rw [e])
  simp [putRow, mapBlock, Sort.ahead, Array.getElem?_modify, this]
theorem take_putCellsS (cur : Array Value) (ts : List ByteArray) (h : ts.length ≤ cur.size) : (putCells encStr 0 (ts.map bytesS).toArray cur).toList.take ts.length = ts.map Value.string := by
  apply List.ext_getElem?
  intro j
  by_cases hj : j < ts.length
  · rw [List.getElem?_take_of_lt hj, Array.getElem?_toList]
    simp [putCells, hj, show j < cur.size by omega, bytesS]
  · rw [List.getElem?_take_eq_none (by omega), List.getElem?_eq_none (by simp; omega)]
theorem ownsRow_sortedS {w : World} {base g cap n : Nat} {e : TypeId} {os : Array Obj} {cur : Array Value} {ss ts : List ByteArray} (hl : ts.length = ss.length) (hbase : base ≤ g) (hb : w.heap[g]? = some (.cells cur e (0, 0)))
    (h1 : ss.length ≤ cap) (h2 : cap ≤ maxLen) (h3 : cur.size = cap * 1) :
    (grow (putRow encStr (Sort.ahead w n) g 0 (ts.map bytesS).toArray) os).ownsRow base e 1 (.slice (some ⟨g, 0, none⟩) ss.length cap) ss.length (ts.map Value.string) :=
  ⟨by simp [hl], .inr ⟨g, cap, _, rfl, hbase, heap_sortedS _ hb, h1, h2, by simp [putCells, h3], by rw [Nat.mul_one, ← hl]; exact take_putCellsS cur ts (by omega)⟩⟩

def slices_Sort_string_string.f (l0 : List ByteArray) : Option (List ByteArray) := if l0.length < 4611686018427387904 then some (sortS l0) else none
theorem slices_Sort_string_string.calls (P0_ : Nat → Prop) (u9000_ : Value) (l0 : List ByteArray) (r : List ByteArray) (w0 w : World) (hB : Below w0.heap.size w0 w) (ho0 : Kd.R Kd.string 9 w w0.heap.size P0_ u9000_ l0) (h : slices_Sort_string_string.f l0 = some r) :
    Calls Tryd.prog 67 #[u9000_] w fun e w' => e = .returned (.tuple #[]) ∧ Kd.R Kd.string 9 w' w0.heap.size (fun k_ => (P0_ k_ ∨ w.heap.size ≤ k_)) u9000_ r ∧ Below w0.heap.size w0 w' ∧ Kept w w' (fun k_ => P0_ k_) := by
  unfold slices_Sort_string_string.f at h
  by_cases hl : l0.length < 4611686018427387904
  · rw [if_pos hl] at h
    obtain rfl := Option.some.inj h
    have ho := Kd.own_of_R ho0
    rcases ho.2 with ⟨rfl, hz⟩ | ⟨gb, cap, cur, rfl, hbase, hgb, r1, r2, r3, r4⟩
    · have hss : l0 = [] := List.eq_nil_of_length_eq_zero hz
      subst hss
      refine (Tryd.slices_Sort_string_none none 0 w).mono ?_
      rintro e w' ⟨rfl, rfl⟩
      exact ⟨rfl, Kd.R_mono (by simpa [sortS] using ho0) (fun k hk => .inl hk), hB, Kept.refl _ _⟩
    · have hH : Holds encStr w gb 0 (l0.map bytesS).toArray := holds_str hgb (by simpa [encs] using r4)
      have hgl : gb < w.heap.size := (Array.getElem?_eq_some_iff.1 hgb).1
      have hP : P0_ gb := ho0.1 gb rfl
      have hcs := Tryd.slices_Sort_string gb 0 cap (l0.map bytesS) w hH hgl (by simpa using hl)
      rw [List.length_map] at hcs
      refine hcs.mono ?_
      rintro e w' ⟨rfl, nn, os, rfl⟩
      rw [mergeS_eq]
      have e1 : l0.length = (sortS l0).length := (sortS_len l0).symm
      have h2 := ownsRow_sortedS (w := w) (n := nn) (os := os) (ss := l0) (ts := sortS l0) e1.symm hbase hgb r1 r2 r3
      have hg := grownBy_sortedS (w := w) (g := gb) (n := nn) (os := os) ((sortS l0).map bytesS).toArray
      refine ⟨rfl, ?_, hB.grown hg hB.size (fun j hj => by cases hj; exact hbase), ⟨hg.size, fun i hi hs => hg.block i hi (fun e => hs (by cases e; exact hP))⟩⟩
      have h3 := Kd.R_of_own (enc := Value.string) (h1 := fun _ => rfl) (xs := sortS l0) (ok := fun k_ => (P0_ k_ ∨ w.heap.size ≤ k_)) (e1 ▸ h2) (fun k hk => by
        have : k = gb := by simp [Value.ownBlock] at hk; exact hk.symm
        exact .inl (this ▸ hP))
      rw [← e1] at h3
      exact h3
  · rw [if_neg hl] at h
    cases h
end Go.Proofs.YtpeeflkodpnbpaaDoor.Pr
