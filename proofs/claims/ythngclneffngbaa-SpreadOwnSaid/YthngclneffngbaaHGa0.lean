import Derived.Test.YthngclneffngbaaHDev
import Derived.Test.YthngclneffngbaaHSeq
namespace Go.Proofs.Ythngclneffngbaa.Pr
open Go.RowKit Go.Proofs.YthngclneffngbaaW.PrintWords Go.Proofs.YthngclneffngbaaW.PrintLast Go.Proofs.YthngclneffngbaaW.PrintMore
set_option linter.unusedVariables false
set_option linter.unusedSimpArgs false

/-- insertion: the kernel computes it -/
def insI (x : Int) : List Int → List Int
  | [] => [x]
  | y :: l => if x ≤ y then x :: y :: l else y :: insI x l
def sortI : List Int → List Int
  | [] => []
  | x :: l => insI x (sortI l)
theorem insI_perm (x : Int) : ∀ l : List Int, (insI x l).Perm (x :: l)
  | [] => .refl _
  | y :: l => by
    rw [insI]
    split
    · exact .refl _
    · exact ((insI_perm x l).cons y).trans (.swap x y l)
theorem sortI_perm : ∀ l : List Int, (sortI l).Perm l
  | [] => .refl _
  | x :: l => (insI_perm x _).trans ((sortI_perm l).cons x)
theorem insI_sorted (x : Int) : ∀ l : List Int, l.Pairwise (· ≤ ·) → (insI x l).Pairwise (· ≤ ·)
  | [], _ => by simp [insI]
  | y :: l, h => by
    rw [insI]
    have hy := List.pairwise_cons.1 h
    split
    · rename_i hle
      refine List.pairwise_cons.2 ⟨fun z hz => ?_, h⟩
      rcases List.mem_cons.1 hz with rfl | hz
      · exact hle
      · exact Int.le_trans hle (hy.1 z hz)
    · rename_i hle
      refine List.pairwise_cons.2 ⟨fun z hz => ?_, insI_sorted x l hy.2⟩
      rcases List.mem_cons.1 ((insI_perm x l).mem_iff.1 hz) with rfl | hz
      · omega
      · exact hy.1 z hz
theorem sortI_sorted : ∀ l : List Int, (sortI l).Pairwise (· ≤ ·)
  | [] => .nil
  | x :: l => insI_sorted x _ (sortI_sorted l)
theorem sortI_len (l : List Int) : (sortI l).length = l.length := (sortI_perm l).length_eq
theorem sorted_unique {l m : List Int} (hl : l.Pairwise (· ≤ ·)) (hm : m.Pairwise (· ≤ ·)) (h : l.Perm m) : l = m :=
  List.Perm.eq_of_pairwise (le := (· ≤ ·)) (fun a b _ _ h1 h2 => Int.le_antisymm h1 h2) hl hm h
theorem mergeSort_eq (l : List Int) : l.mergeSort (fun x y => decide (x ≤ y)) = sortI l := by
  refine sorted_unique ?_ (sortI_sorted l) ((List.mergeSort_perm l _).trans (sortI_perm l).symm)
  have := List.pairwise_mergeSort (le := fun x y : Int => decide (x ≤ y)) (fun a b c h1 h2 => by simp at h1 h2 ⊢; omega) (fun a b => by simp; omega) l
  exact this.imp (fun h => by simpa using h)
theorem sort_R {W : World} {base : Nat} {v : Value} {xs : List Int} (h : Kd.R (Kd.int .i64) 3 W base (fun _ => True) v xs) (hl : xs.length < 4611686018427387904) :
    Calls Try.prog 73 #[v] W fun e w' => e = .returned (.tuple #[]) ∧ Kd.R (Kd.int .i64) 3 w' base (fun _ => True) v (sortI xs) ∧ Below base W w' := by
  have ho := Kd.own_of_R h
  rcases ho.2 with ⟨rfl, hz⟩ | ⟨gb, cap, cur, rfl, hbase, hgb, r1, r2, r3, r4⟩
  · have hss : xs = [] := List.eq_nil_of_length_eq_zero hz
    subst hss
    refine (Try.slices_Sort_int_none none 0 W).mono ?_
    rintro e w' ⟨rfl, rfl⟩
    exact ⟨rfl, by simpa [sortI] using h, Below.refl _ _⟩
  · have hH : Go.Sort.Holds (Value.int .i64) W gb 0 xs.toArray := Sq.holds_of_block hgb (by simpa [encs] using r4)
    have hgl : gb < W.heap.size := (Array.getElem?_eq_some_iff.1 hgb).1
    refine (Try.slices_Sort_int gb 0 cap xs W hH hgl hl).mono ?_
    rintro e w' ⟨rfl, nn, os, rfl⟩
    rw [mergeSort_eq]
    have e1 : xs.length = (sortI xs).length := (sortI_len xs).symm
    have h2 := Sq.ownsRow_sorted (w := W) (n := nn) (os := os) (ss := xs) (ts := sortI xs) e1.symm hbase hgb r1 r2 r3
    refine ⟨rfl, ?_, (Below.refl base W).grown (Sq.grownBy_sorted _) (by omega) (fun j hj => by cases hj; exact hbase)⟩
    have h3 := Kd.R_of_own (enc := Value.int .i64) (h1 := fun _ => rfl) (xs := sortI xs) (ok := fun _ => True) (e1 ▸ h2) (fun _ _ => trivial)
    rw [← e1] at h3
    exact h3
theorem ownsRow_put {w : World} {base g cap n : Nat} {e : TypeId} {cur : Array Value} {ss ts us : List Int} (hl : ts.length + us.length = ss.length) (hbase : base ≤ g) (hb : w.heap[g]? = some (.cells cur e (0, 0)))
    (h1 : ss.length ≤ cap) (h2 : cap ≤ maxLen) (h3 : cur.size = cap * 1) :
    (Go.Sort.putRow (Value.int .i64) (Go.Sort.ahead w n) g 0 (ts ++ us).toArray).ownsRow base e 1 (.slice (some ⟨g, 0, none⟩) ts.length cap) ts.length (ts.map (Value.int .i64)) := by
  have hg : g < w.heap.size := (Array.getElem?_eq_some_iff.1 hb).1
  have hh : (Go.Sort.putRow (Value.int .i64) (Go.Sort.ahead w n) g 0 (ts ++ us).toArray).heap[g]? = some (.cells (Go.Sort.putCells (Value.int .i64) 0 (ts ++ us).toArray cur) e (0, 0)) := by
    simp [Go.Sort.putRow, Go.Sort.mapBlock, Go.Sort.ahead, Array.getElem?_modify, hb, Go.Sort.onCells]
  refine ⟨by simp, .inr ⟨g, cap, _, rfl, hbase, hh, by omega, h2, by simp [Go.Sort.putCells, h3], ?_⟩⟩
  have h4 := Sq.take_putCells cur (ts ++ us) (by simp; omega)
  have h5 := congrArg (List.take ts.length) h4
  rw [List.take_take, show min ts.length (ts ++ us).length = ts.length by simp, List.map_append, List.take_append_of_le_length (by simp)] at h5
  rw [Nat.mul_one, h5]
  exact List.take_of_length_le (by simp)
theorem below_put {w : World} {base g n : Nat} {d : Array Int} (hbase : base ≤ g) : Below base w (Go.Sort.putRow (Value.int .i64) (Go.Sort.ahead w n) g 0 d) := by
  refine ⟨rfl, rfl, rfl, by simp [Go.Sort.putRow, Go.Sort.mapBlock, Go.Sort.ahead], fun k hk => ?_⟩
  simp [Go.Sort.putRow, Go.Sort.mapBlock, Go.Sort.ahead, Array.getElem?_modify, show g ≠ k by omega]
theorem compact_le (xs : List Int) : (Lib.compact xs).length ≤ xs.length := by
  unfold Lib.compact Lib.compactUpTo
  rw [List.length_map]
  exact Nat.le_trans (List.length_filter_le _ _) (by simp)
theorem compact_R {W : World} {base : Nat} {v : Value} {xs : List Int} (h : Kd.R (Kd.int .i64) 3 W base (fun _ => True) v xs) (hl : xs.length < 4611686018427387904) :
    Calls Try.prog 70 #[v] W fun e w' => ∃ v' : Value, e = .returned v' ∧ Kd.R (Kd.int .i64) 3 w' base (fun _ => True) v' (Lib.compact xs) ∧ Below base W w' := by
  have ho := Kd.own_of_R h
  rcases ho.2 with ⟨rfl, hz⟩ | ⟨gb, cap, cur, rfl, hbase, hgb, r1, r2, r3, r4⟩
  · have hss : xs = [] := List.eq_nil_of_length_eq_zero hz
    subst hss
    refine (Try.slices_Compact_int_empty none 0 W).mono ?_
    rintro e w' ⟨rfl, rfl⟩
    exact ⟨_, rfl, by simpa [Lib.compact, Lib.compactUpTo] using h, Below.refl _ _⟩
  · have hH : Go.Sort.Holds (Value.int .i64) W gb 0 xs.toArray := Sq.holds_of_block hgb (by simpa [encs] using r4)
    refine (Try.slices_Compact_int gb 0 cap xs W hH (by omega) r1).mono ?_
    rintro e w' ⟨rfl, q, rfl⟩
    refine ⟨_, rfl, ?_, below_put hbase⟩
    have hc := compact_le xs
    have h2 := ownsRow_put (w := W) (n := q) (ss := xs) (ts := Lib.compact xs) (us := List.replicate (xs.length - (Lib.compact xs).length) 0) (by simp; omega) hbase hgb r1 r2 r3
    exact Kd.R_of_own (enc := Value.int .i64) (h1 := fun _ => rfl) (xs := Lib.compact xs) (ok := fun _ => True) h2 (fun _ _ => trivial)
theorem ints_of_C {w : World} {A : Option Addr} {c : Nat} {l : List Int} (h : Kd.C (Kd.int .i64) w A l.length l) (h1 : 1 ≤ l.length) : Sq.Ints w.heap.size w (.slice A l.length c) l := by
  obtain ⟨ad, rfl, h0⟩ := Kd.at_int h 0 (by omega) (by omega)
  obtain ⟨b, off, sp⟩ := ad
  have hsp : sp = none ∧ b < w.heap.size := by
    have h2 := h0
    simp only [Addr.add, Int.toNat_zero, if_true, World.cell?] at h2
    split at h2
    · rename_i hh
      refine ⟨?_, (Array.getElem?_eq_some_iff.1 hh).1⟩
      cases sp with
      | none => rfl
      | some x => simp at h2
    · cases h2
  obtain ⟨hsp, hlt⟩ := hsp
  subst hsp
  refine .inr ⟨b, off, c, rfl, hlt, fun j hj => ?_⟩
  obtain ⟨ad, e1, e2⟩ := Kd.at_int h j (by omega) (by omega)
  injection e1 with e1
  subst e1
  have e3 : (⟨b, off, none⟩ : Addr).add (Int.toNat (j : Int)) = ⟨b, off + j, none⟩ := by
    unfold Addr.add
    split
    · simp at *
    · simp
  rw [e3] at e2
  rw [e2]
  simp [rd, List.getD_eq_getElem?_getD]
theorem sorted_R {w : World} {A : Option Addr} {c : Nat} {l : List Int} (h : Kd.C (Kd.int .i64) w A l.length l) (h1 : 1 ≤ l.length) (hl : l.length * 8 ≤ 140737488351232) :
    Calls Try.prog 71 #[.func (.func 78) #[] #[.pointer (some ⟨w.heap.size, 0, none⟩)]] (w.alloc (.cells #[.slice A l.length c] 22)) fun e w' => ∃ v : Value, e = .returned v ∧ Kd.R (Kd.int .i64) 3 w' w.heap.size (fun _ => True) v (sortI l) ∧ Below w.heap.size w w' := by
  refine (Sq.sorted_any (.slice A l.length c) l w hl (ints_of_C h h1)).mono ?_
  rintro e w' ⟨v, rfl, hown, _, hb⟩
  rw [mergeSort_eq] at hown
  have e1 : l.length = (sortI l).length := (sortI_len l).symm
  rw [e1] at hown
  have h3 := Kd.R_of_own (enc := Value.int .i64) (h1 := fun _ => rfl) (xs := sortI l) (ok := fun _ => True) hown (fun _ _ => trivial)
  refine ⟨v, rfl, Kd.R_lower h3 (by omega), ?_⟩
  exact below_then (below_alloc (Below.refl _ w) _) (by simp) (Below.mono (by simpa using hb) (by simp))
theorem values_R (A : Option Addr) (c n : Nat) (w : World) : Calls Try.prog 72 #[.slice A n c] w fun e w' => e = .returned (.func (.func 78) #[] #[.pointer (some ⟨w.heap.size, 0, none⟩)]) ∧ w' = w.alloc (.cells #[.slice A n c] 22) :=
  callsIn_wide.1 (Sq.values_in Fence.wide 5 trivial rfl A n c w)
end Go.Proofs.Ythngclneffngbaa.Pr
