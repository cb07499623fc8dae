/- The copying parse, plainly; and what a round of slices.Collect keeps. The iterator over the factors: its contract. slices.Collect over the factors; Copying's contract. Copying's contract: the factors of the copying parse, as copF says. -/
import Derived.Test.YtpeeflkodpnbpaaDoorHEarl
import Derived.RangeFuncNested
import Derived.RangeFuncBound
import Derived.RangeFuncCalls
import Derived.RangeFuncLeaves
import Derived.RangeFuncBox
import Derived.RangeFuncFrom
import Derived.RangeFuncWrites
import Derived.Maps.AppendAt
import Derived.Shelf.Abstract
import Derived.Shelf.RegionOpen
import Derived.WalkKit
import Derived.OwnWalkIn
import Derived.TacticsInMore
import Derived.LoopNIn
import Derived.LoopIn
import Derived.Maps.OwnIn
namespace Go.Proofs.YtpeeflkodpnbpaaDoor.Pr
open Go.RowKit Go.Proofs.YtpeeflkodpnbpaaDoorW.PrintWords Go.Proofs.YtpeeflkodpnbpaaDoorW.PrintLast Go.Proofs.YtpeeflkodpnbpaaDoorW.PrintMore
set_option linter.unusedVariables false
set_option linter.unusedSimpArgs false

theorem ext_le (s : ByteArray) (j i : Nat) : ∀ q n, i + n ≤ s.size → i + ext s j i q n ≤ s.size
  | 0, n, h => h
  | q + 1, n, h => by
    rw [ext]
    split
    · rename_i hc
      split
      · exact ext_le s j i q (n + 1) (by omega)
      · exact h
    · exact h
/-- a factor at i is at least one letter, and ends within the string -/
def factOk (s : ByteArray) (i : Nat) (b : Int × Int) : Prop := 1 ≤ b.2 ∧ (i : Int) + b.2 ≤ s.size ∧ -1 ≤ b.1 ∧ b.1 < i
theorem earlF_ok (s : ByteArray) (i : Nat) (hi : i < s.size) : ∀ m f b, f + m = i → factOk s i b → factOk s i (earlF s i m f b)
  | 0, _, _, _, h => h
  | m + 1, f, b, hf, h => by
    rw [earlF]
    refine earlF_ok s i hi m (f + 1) _ (by omega) ?_
    unfold pick9
    split
    · rename_i hc
      have := ext_le s f i s.size 0 (by omega)
      exact ⟨by show (1 : Int) ≤ _; omega, by show (i : Int) + _ ≤ _; omega, by show (-1 : Int) ≤ (f : Int); omega, by show (f : Int) < i; omega⟩
    · exact h
theorem earl_ok (s : ByteArray) (i : Nat) (hi : i < s.size) : factOk s i (earlF s i i 0 (-1, 1)) :=
  earlF_ok s i hi i 0 _ (by omega) ⟨by decide, by show (i : Int) + 1 ≤ s.size; omega, by decide, by show (-1 : Int) < i; omega⟩
/-- the factor at i -/
def factS (s : ByteArray) (i : Nat) : S63 := ⟨(earlF s i i 0 (-1, 1)).1, (earlF s i i 0 (-1, 1)).2⟩
def copF (s : ByteArray) : Nat → Nat → List S63
  | 0, _ => []
  | q + 1, i => if i < s.size then factS s i :: copF s q (i + (factS s i).f1.toNat) else []
theorem copF_stop {s : ByteArray} {q i : Nat} (h : ¬ i < s.size) : copF s q i = [] := by
  cases q with
  | zero => rfl
  | succ q => rw [copF, if_neg h]

/-! ### what a round of AppendSeq keeps: all cells but its box and its slice's own row -/
def ownAt (W : World) (B : Nat) : Option Nat := match W.heap[B]? with
  | some (.cells cs _ _) => (cs[0]?).bind Value.ownBlock
  | _ => none
structure KS (B : Nat) (A C : World) : Prop where
  size : A.heap.size ≤ C.heap.size
  same : ∀ k o, A.heap[k]? = some o → o.isCells = true → k ≠ B → ownAt A B ≠ some k → C.heap[k]? = some o
  own : ownAt C B = ownAt A B ∨ ∃ g, ownAt C B = some g ∧ A.heap.size ≤ g ∧ g < C.heap.size
theorem ownAt_eq {A C : World} {B : Nat} (h : C.heap[B]? = A.heap[B]?) : ownAt C B = ownAt A B := by unfold ownAt; rw [h]
theorem KS.refl (B : Nat) (A : World) : KS B A A := ⟨Nat.le_refl _, fun _ _ h _ _ _ => h, .inl rfl⟩
theorem KS.trans {B : Nat} {A C D : World} (h : KS B A C) (k : KS B C D) : KS B A D := by
  refine ⟨Nat.le_trans h.size k.size, fun j o hj hc hn ho => ?_, ?_⟩
  · refine k.same j o (h.same j o hj hc hn ho) hc hn ?_
    rcases h.own with e | ⟨g, e, hg, _⟩
    · rw [e]; exact ho
    · rw [e]
      have := (Array.getElem?_eq_some_iff.1 hj).1
      intro e'
      cases e'
      omega
  · rcases k.own with e | ⟨g, e, hg, hg2⟩
    · rcases h.own with e' | ⟨g, e', hg, hg2⟩
      · exact .inl (e.trans e')
      · exact .inr ⟨g, e.trans e', hg, Nat.lt_of_lt_of_le hg2 k.size⟩
    · exact .inr ⟨g, e, Nat.le_trans h.size hg, hg2⟩
theorem KS.below {B : Nat} {A C : World} (h : Below A.heap.size A C) (hB : B < A.heap.size) : KS B A C :=
  ⟨h.size, fun k o hk _ _ _ => (h.block k (Array.getElem?_eq_some_iff.1 hk).1).trans hk, .inl (ownAt_eq (h.block B hB))⟩
theorem KS.putObj {B : Nat} {w : World} (hB : B < w.heap.size) (W : World) (l : Nat) (o o' : Obj) (hl : w.heap.size ≤ l) (h : W.heap[l]? = some o) (hc : o.isCells = false) (_ : o.isWalk = false) : KS B W (W.putObj l o') :=
  ⟨by simp, fun k ok hk hck _ _ => by
    have : l ≠ k := by
      intro e
      subst e
      rw [h] at hk
      cases hk
      rw [hc] at hck
      cases hck
    exact (World.putObj_heap_other (fun e => this (by first | exact e | exact e.symm))).trans hk, .inl (ownAt_eq (World.putObj_heap_other (by omega)))⟩
theorem cells_of_cell {W : World} {k i : Nat} {v : Value} (h : W.cell? ⟨k, i, none⟩ = some v) : ∃ o, W.heap[k]? = some o ∧ o.isCells = true := by
  unfold World.cell? at h
  split at h
  · rename_i c e f hh
    exact ⟨_, hh, rfl⟩
  · cases h
theorem cell_same {A C : World} {k i : Nat} {v : Value} (h : A.cell? ⟨k, i, none⟩ = some v) (e : C.heap[k]? = A.heap[k]?) : C.cell? ⟨k, i, none⟩ = some v := by
  unfold World.cell? at h ⊢
  show (match C.heap[k]? with | some (.cells c _ _) => _ | _ => none) = some v
  rw [e]; exact h
theorem KS.cell {B : Nat} {A C : World} (h : KS B A C) {k i : Nat} {v : Value} (hc : A.cell? ⟨k, i, none⟩ = some v) (h1 : k ≠ B) (h2 : ownAt A B ≠ some k) : C.cell? ⟨k, i, none⟩ = some v := by
  obtain ⟨o, ho, hcells⟩ := cells_of_cell hc
  exact cell_same hc ((h.same k o ho hcells h1 h2).trans ho.symm)

/-- what the iterator reads; nothing of it lies in AppendSeq's memory -/
structure FI (B Bs n0 : Nat) (s : ByteArray) (W : World) : Prop where
  box : W.heap[Bs]? = some (.cells #[.string s] 9 (0, 0))
  g : GW W
  own : ∀ k, ownAt W B = some k → n0 ≤ k ∧ k < W.heap.size
theorem FI.ks {B Bs n0 : Nat} {s : ByteArray} {W W' : World} (h : FI B Bs n0 s W) (k : KS B W W') (h1 : Bs ≠ B) (h0 : 0 ≠ B) (hb : Bs < n0) (h00 : 0 < n0) (hn : n0 ≤ W.heap.size) : FI B Bs n0 s W' := by
  have o1 : ownAt W B ≠ some Bs := fun e => by have := (h.own Bs e).1; omega
  have o0 : ownAt W B ≠ some 0 := fun e => by have := (h.own 0 e).1; omega
  refine ⟨k.same Bs _ h.box rfl h1 o1, ⟨Nat.lt_of_lt_of_le h.g.sz k.size, k.cell h.g.c0 h0 o0, k.cell h.g.c1 h0 o0⟩, fun j hj => ?_⟩
  rcases k.own with e | ⟨g, e, hg, hg2⟩
  · rw [e] at hj
    have := h.own j hj
    exact ⟨this.1, Nat.lt_of_lt_of_le this.2 k.size⟩
  · rw [e] at hj
    cases hj
    exact ⟨Nat.le_trans hn hg, hg2⟩
theorem FI.below {B Bs n0 : Nat} {s : ByteArray} {W W' : World} (h : FI B Bs n0 s W) (k : Below W.heap.size W W') (hB : B < W.heap.size) (h1 : Bs ≠ B) (h0 : 0 ≠ B) (hb : Bs < n0) (h00 : 0 < n0) (hn : n0 ≤ W.heap.size) : FI B Bs n0 s W' :=
  h.ks (KS.below k hB) h1 h0 hb h00 hn
theorem grown_of_below {A B : World} (h : Below A.heap.size A B) : A.grownBy B none := ⟨h.os, h.tape, h.output, h.size, fun k hk _ => h.block k hk⟩
theorem abides_below {β : Type} {B0 : Nat} {J : β → World → Prop} (hJ : AbidesFrom B0 J) {s : β} {A B : World} (h : J s A) (hb : Below A.heap.size A B) : J s B :=
  hJ s A B none h (grown_of_below hb) (fun r e => by cases e)
end Go.Proofs.YtpeeflkodpnbpaaDoor.Pr
namespace Go.Proofs.YtpeeflkodpnbpaaDoor.Pr
open Go.RowKit Go.Shelf Go.Proofs.YtpeeflkodpnbpaaDoorW.PrintWords Go.Proofs.YtpeeflkodpnbpaaDoorW.PrintLast Go.Proofs.YtpeeflkodpnbpaaDoorW.PrintMore
attribute [local go_sem] Oper.semAt_some
set_option linter.unusedVariables false
set_option linter.unusedSimpArgs false

def encF (x : S63) : Array Value := #[.agg #[.int .i64 x.f0, .int .i64 x.f1]]

set_option maxRecDepth 100000 in
set_option maxHeartbeats 8000000 in
theorem factors_stops (m B Bs n0 : Nat) (s : ByteArray) (hs : s.size ≤ 160) (w : World) (hF : FI B Bs n0 s w) (hB : B < w.heap.size) (h1 : Bs ≠ B) (h0 : 0 ≠ B) (hb : Bs < n0) (h00 : 0 < n0) (hn : n0 ≤ w.heap.size) :
    SeqStopsK Fence.wide m Tryd.prog 92 #[.pointer (some ⟨Bs, 0, none⟩)] encF (KS B) (fun ys => ys = copF s s.size 0) (fun _ => True) 161 w := fun l J Jx W hW hJ hJx hY hj0 => by
  have hu63 := Tryd.underlying63
  have HF0 := Aside0.mk (hF.below hW hB h1 h0 hb h00 hn)
  have hsz := hW.size
  have HS := Aside0.mk (⟨hB, h1, h0, hb, h00, hn, hsz⟩ : B < w.heap.size ∧ Bs ≠ B ∧ 0 ≠ B ∧ Bs < n0 ∧ 0 < n0 ∧ n0 ≤ w.heap.size ∧ w.heap.size ≤ W.heap.size)
  clear hF hW hsz hB h1 h0 hb h00 hn
  refine callsIn_of_wp Tryd.func92 rfl trivial ?_ rfl
  simp only [Tryd.ntmps92, List.size_toArray, List.length_cons, List.length_nil, Nat.reduceAdd, Nat.reduceSub, Array.replicate_succ, Array.replicate_zero, List.push_toArray, List.append_toArray, List.nil_append, List.cons_append]
  gi_wp2
  gi_loopw [3] (fun v wr => ∃ (i q : Nat) (I : Int) (pre : List S63), v = .int .i64 I ∧ Aside0 (I = (i : Int)) ∧ Aside0 (pre ++ copF s q i = copF s s.size 0) ∧ Aside0 (s.size ≤ i + q) ∧ Aside0 (i ≤ s.size) ∧ Aside0 (pre.length ≤ i) ∧ Aside0 (J pre wr) ∧ Aside0 (FI B Bs n0 s wr) ∧ Aside0 (W.heap.size ≤ wr.heap.size))
    (fun v _ => s.size - (intOf v).toNat)
  case atStart => exact ⟨0, s.size, 0, [], rfl, ⟨rfl⟩, ⟨rfl⟩, ⟨by omega⟩, ⟨by omega⟩, ⟨by simp⟩, ⟨hj0⟩, HF0, ⟨Nat.le_refl _⟩⟩
  case round =>
    obtain ⟨i, q, I, pre, rfl, HI, HC, HQ, Hi, HP, HJ, HF, HZ⟩ := hrel
    have b0 := blk_cell HF.out.box 0
    by_cases c : i < s.size
    · have c1 : decide (I < (s.size : Int)) = true := decide_eq_true (by have := HI.out; omega)
      obtain ⟨f0, hf0⟩ : ∃ f0, f0 = (earlF s i i 0 (-1, 1)).1 := ⟨_, rfl⟩
      obtain ⟨f1, hf1⟩ : ∃ f1, f1 = (earlF s i i 0 (-1, 1)).2 := ⟨_, rfl⟩
      have hok := earl_ok s i c
      have hfs : factS s i = ⟨f0, f1⟩ := by rw [hf0, hf1]; rfl
      obtain ⟨q, rfl⟩ : ∃ r, q = r + 1 := ⟨q - 1, by have := HQ.out; omega⟩
      have HC2 : Aside0 ((pre ++ [(⟨f0, f1⟩ : S63)]) ++ copF s q (i + f1.toNat) = copF s s.size 0) := ⟨by have := HC.out; rw [copF, if_pos c, hfs] at this; rw [List.append_assoc]; exact this⟩
      have HOK : Aside0 (1 ≤ f1 ∧ (i : Int) + f1 ≤ s.size) := ⟨by rw [hf1]; exact ⟨hok.1, hok.2.1⟩⟩
      have hcall := earlier_calls s i I wr ⟨HI.out⟩ hs (by omega) HF.out.g
      rw [← hf0, ← hf1] at hcall
      clear hf0 hf1 hok hfs c
      gi_upto_region 3 with (refine ⟨trivial, (fun h => by cases h), ?_⟩; refine (callsIn_wide.2 hcall).mono ?_; rintro e w1 ⟨rfl, hb⟩; have n1_ := Aside0.mk hb; clear hb hcall; have HB1 := n1_; clear n1_)
      obtain ⟨p, hp⟩ : ∃ p, p = w1.heap.size := ⟨_, rfl⟩
      obtain ⟨W1, hW1⟩ : ∃ W1, W1 = w1.alloc (.cells #[.int .i64 f0, .int .i64 f1] 63) := ⟨_, rfl⟩
      rw [← hW1, ← hp]
      obtain ⟨hB, h1, h0, hb, h00, hn, hsz⟩ := HS.out
      have hz := HZ.out
      have hbw : Below wr.heap.size wr W1 := hW1 ▸ below_alloc HB1.out _
      have hF1 := HF.out.below hbw (by omega) h1 h0 hb h00 (by omega)
      have hFw := HF.out.below HB1.out (by omega) h1 h0 hb h00 (by omega)
      have hpb : W1.heap[p]? = some (.cells #[.int .i64 f0, .int .i64 f1] 63 (0, 0)) := by rw [hW1, hp]; exact blk_new w1 _
      have hsz1 := HB1.out.size
      have hpB : p ≠ B := by omega
      have hop : ownAt W1 B ≠ some p := by
        rw [hW1, ownAt_eq (show (w1.alloc _).heap[B]? = w1.heap[B]? from Below.heap_alloc _ _ B (by omega))]
        exact fun e => by have := (hFw.own p e).2; omega
      have hJ1 := abides_below hJ HJ.out hbw
      obtain ⟨fn, tmps, assign, body, hy, hR⟩ := hY pre ⟨f0, f1⟩ W1 hJ1 (by have := HP.out; have := Hi.out; omega)
      simp only [encF] at hy
      have hWs := hbw.size
      have HZ1 : Aside0 (W.heap.size ≤ W1.heap.size) := ⟨by omega⟩
      have HF1 := Aside0.mk hF1
      have HPB := Aside0.mk hpb
      have HN := Aside0.mk (⟨hpB, hop⟩ : p ≠ B ∧ ownAt W1 B ≠ some p)
      have d0 := blk_cell HPB.out 0
      have d1 := blk_cell HPB.out 1
      clear hW1 hp hz hbw hF1 hFw hpb hsz1 hpB hop hJ1 hWs hB h1 h0 hb h00 hn hsz c1 b0 HB1 HJ HF HZ
      gi_wp2
      refine ⟨(fun h => by cases h), ?_⟩
      refine hR.mono ?_
      rintro e W2 (⟨rfl, hJ2, hk⟩ | ⟨rfl, hJx2⟩)
      · obtain ⟨hB, h1, h0, hb, h00, hn, hsz⟩ := HS.out
        have hz := HZ1.out
        have e0 := blk_cell (hk.same p _ HPB.out rfl HN.out.1 HN.out.2) 0
        have e1 := blk_cell (hk.same p _ HPB.out rfl HN.out.1 HN.out.2) 1
        have HF2 := Aside0.mk (HF1.out.ks hk h1 h0 hb h00 (by omega))
        have HZ2 : Aside0 (W.heap.size ≤ W2.heap.size) := ⟨by have := hk.size; omega⟩
        have HJ2 := Aside0.mk hJ2
        have HX : Aside0 (wrap64 (I + f1) = ((i + f1.toNat : Nat) : Int)) := ⟨by have := HI.out; have := HOK.out; rw [Go.IntWalk.wrap64_in _ (by omega)]; omega⟩
        have HQ2 : Aside0 (s.size ≤ i + f1.toNat + q) := ⟨by have := HQ.out; have := HOK.out; omega⟩
        have Hi2 : Aside0 (i + f1.toNat ≤ s.size) := ⟨by have := HOK.out; omega⟩
        have HP2 : Aside0 ((pre ++ [(⟨f0, f1⟩ : S63)]).length ≤ i + f1.toNat) := ⟨by have := HP.out; have := HOK.out; rw [List.length_append, List.length_singleton]; omega⟩
        clear hk hJ2 hB h1 h0 hb h00 hn hsz hz hR hy d0 d1
        gi_wp2
        go_roundw
        case rel => exact ⟨i + f1.toNat, q, wrap64 (I + f1), pre ++ [⟨f0, f1⟩], (by first | rfl | (simp; done)), HX, HC2, HQ2, Hi2, HP2, HJ2, HF2, HZ2⟩
        case measure => have := HX.out; have := HOK.out; have := HI.out; simp only [intOf, i64_w]; rw [HX.out]; have := Hi2.out; omega
      · gi_wp2
        refine bodyPost_ret (results_none rfl _ _ _) rfl ?_
        exact ⟨⟨_, rfl⟩, .inr ⟨_, trivial, hJx2⟩⟩
    · have c1 : decide (I < (s.size : Int)) = false := decide_eq_false (by have := HI.out; omega)
      have hh : pre = copF s s.size 0 := by have := HC.out; rw [copF_stop c, List.append_nil] at this; exact this
      have hj := HJ.out
      clear c
      gi_wp2
      go_end0
      exact ⟨⟨_, rfl⟩, .inl ⟨_, hh, hj⟩⟩
end Go.Proofs.YtpeeflkodpnbpaaDoor.Pr
namespace Go.Proofs.YtpeeflkodpnbpaaDoor.Pr
open Go.RowKit Go.Shelf Go.Maps Go.Proofs.YtpeeflkodpnbpaaDoorW.PrintWords Go.Proofs.YtpeeflkodpnbpaaDoorW.PrintLast Go.Proofs.YtpeeflkodpnbpaaDoorW.PrintMore
attribute [local go_sem] Oper.semAt_some
set_option linter.unusedVariables false
set_option linter.unusedSimpArgs false

def flatF (l : List S63) : List Value := l.flatMap (fun x => [.int .i64 x.f0, .int .i64 x.f1])
theorem flatF_snoc (l : List S63) (x : S63) : flatF (l ++ [x]) = flatF l ++ [.int .i64 x.f0, .int .i64 x.f1] := by simp [flatF]
theorem flatF_reps' (w : World) (base : Nat) (ok : Nat → Prop) : ∀ (r l : List S63), Reps (k63.M w base ok) 2 l (flatF l) → Reps (k63.M w base ok) 2 (l ++ r) (flatF (l ++ r))
  | [], l, h => by rw [List.append_nil]; exact h
  | x :: r, l, h => by
    have h2 : Reps (k63.M w base ok) 2 (l ++ [x]) (flatF (l ++ [x])) := by rw [flatF_snoc]; exact h.snoc (k63_mkM _ _ _ x) rfl
    have := flatF_reps' w base ok r (l ++ [x]) h2
    rwa [List.append_assoc] at this
theorem flatF_reps (w : World) (base : Nat) (ok : Nat → Prop) (l : List S63) : Reps (k63.M w base ok) 2 l (flatF l) := flatF_reps' w base ok l [] (Reps.none _ _)
theorem R_of_flat {W : World} {base : Nat} {v : Value} {l : List S63} (h : W.ownsRow base 63 2 v l.length (flatF l)) : Kd.R k63 63 W base (fun _ => True) v l :=
  ⟨fun _ _ => trivial, flatF l, h, flatF_reps _ _ _ l⟩
theorem two_new (w : World) (x y : Value) (t : TypeId) : ∀ j u, [x, y][j]? = some u → (w.alloc (.cells #[x, y] t)).cell? ((⟨w.heap.size, 0, none⟩ : Addr).add j) = some u := by
  intro j u hj
  have hb := blk_cell (blk_new w (.cells #[x, y] t)) j
  rw [add_at, Nat.zero_add, hb]
  simpa using hj
theorem blk_own {β : Type} (B : Nat) (o : Obj) (ho : o.isCells = true) : Own (fun (_ : β) W => W.heap[B]? = some o) := fun s X Y row hs hg hrow =>
  blk_grown hs hg (fun e' => by obtain ⟨o', ho', hc⟩ := hrow B e'.symm; rw [hs] at ho'; cases ho'; rw [ho] at hc; cases hc)
theorem info63' : ∃ i0, Tryd.prog.info? 63 = some i0 ∧ i0.zero = some (.agg #[.int .i64 0, .int .i64 0]) ∧ i0.size = 2 ∧ i0.bytes = 16 := info_parts info63

set_option maxRecDepth 100000 in
set_option maxHeartbeats 8000000 in
theorem appendF_in (m : Nat) (hm : 1 ≤ m) (s : ByteArray) (hs : s.size ≤ 160) (Bs : Nat) (w : World) (hbox : w.heap[Bs]? = some (.cells #[.string s] 9 (0, 0))) (hG : GW w) :
    CallsIn Fence.wide m Tryd.prog 91 #[.slice none 0 0, .func (.func 92) #[] #[.pointer (some ⟨Bs, 0, none⟩)]] w fun e w' => ∃ v, e = .returned v ∧ Kd.R k63 63 w' w.heap.size (fun _ => True) v (copF s s.size 0) ∧ Below w.heap.size w w' := by
  have hu63 := Tryd.underlying63
  obtain ⟨i0, hi, hz0, hz1, hz2⟩ := info63'
  refine callsIn_of_wp_marks Tryd.func91 rfl trivial ?_ rfl
  simp only [Tryd.ntmps91, List.size_toArray, List.length_cons, List.length_nil, Nat.reduceAdd, Nat.reduceSub, Array.replicate_succ, Array.replicate_zero, List.push_toArray, List.append_toArray, List.nil_append, List.cons_append]
  gi_wp2
  have hlt := (Array.getElem?_eq_some_iff.1 hbox).1
  have bB := Boxed.new w 23 (.slice none 0 0)
  have hB0 : Below w.heap.size w (w.alloc (.cells #[.slice none 0 0] 23)) := (Below.refl _ w).alloc (Nat.le_refl _) _
  have hsz : (w.alloc (.cells #[.slice none 0 0] 23)).heap.size = w.heap.size + 1 := by simp
  obtain ⟨W0, hW0⟩ : ∃ W0, w.alloc (.cells #[.slice none 0 0] 23) = W0 := ⟨_, rfl⟩
  rw [hW0] at bB hB0 hsz ⊢
  clear hW0
  have hF : FI w.heap.size Bs w.heap.size s W0 := by
    refine ⟨(hB0.block Bs hlt).trans hbox, gw_now hG hB0, fun k hk => ?_⟩
    have hb : W0.heap[w.heap.size]? = some (.cells #[.slice none 0 0] 23 (0, 0)) := bB
    unfold ownAt at hk
    rw [hb] at hk
    simp [Value.ownBlock] at hk
  refine wpIn_rangeFunc_ownH rfl hm (gf := 92) (lb := #[.pointer (some ⟨Bs, 0, none⟩)]) rfl trivial (enters_of Tryd.func92 (by kernel_rfl) rfl)
    (factors_stops (m - 1) w.heap.size Bs w.heap.size s hs W0 hF (by omega) (by omega) (by have := hG.sz; omega) hlt hG.sz (by omega)) KS.trans (fun W l o o' hl h hc hw => KS.putObj (by omega) W l o o' hl h hc hw) (Below.refl _ _) (fun _ => rfl)
    (fun pre W => (∃ v, Boxed W w.heap.size 23 v ∧ W.ownsRow w.heap.size 63 2 v pre.length (flatF pre) ∧ True) ∧ Below w.heap.size w W)
    (fun _ _ _ => False)
    (OwnFrom.and (Own.from (holdsRow_own w.heap.size w.heap.size 23 63 2 (fun pre : List S63 => pre.length) flatF (fun _ _ => True)) _) (ownFrom_below (Nat.le_refl _) (by omega)))
    (fun _ _ _ _ _ hs _ _ => hs)
    ⟨⟨_, bB, World.ownsRow_nil _ _ _ _, trivial⟩, hB0⟩
    (fun x a' W => ∃ Bx, w.heap.size < Bx ∧ W.heap[Bx]? = some (.cells #[.int .i64 x.f0, .int .i64 x.f1] 63 (0, 0)) ∧ a' = { tmps := #[.slice none 0 0, .func (.func 92) #[] #[.pointer (some ⟨Bs, 0, none⟩)], .pointer (some ⟨w.heap.size, 0, none⟩), undef, .slice none 0 0, .pointer (some ⟨Bx, 0, none⟩), .func (.func 92) #[] #[.pointer (some ⟨Bs, 0, none⟩)], .agg #[.int .i64 x.f0, .int .i64 x.f1], undef, undef, undef, undef, undef], defers := [] })
    (fun x a' _ X Y row hs hg hr => by obtain ⟨Bx, h1, h2, h3⟩ := hs; exact ⟨Bx, h1, blk_own (β := Unit) Bx _ rfl () X Y row h2 hg (fun r e => (hr r e).2), h3⟩)
    ?assign ?body ?done ?stop
  case assign =>
    rintro l pre x W K ⟨⟨v, hv, hrow, _⟩, hB⟩ hK
    have hlt2 := hv.lt
    simp only [encF]
    gi_wp2
    exact hK _ _ ((KeepsOthers.alloc _ _).from _) (KS.below (below_alloc (Below.refl _ _) _) hlt2) ⟨⟨v, hv.alloc _, hrow.alloc _, trivial⟩, hB.alloc hB.size _⟩ ⟨W.heap.size, hlt2, blk_new W _, rfl⟩
  case body =>
    rintro l pre x a' W hl ⟨r, hr⟩ ⟨⟨v, hv, hrow, _⟩, hB⟩ ⟨Bx, hBx, hbx, rfl⟩ hlen
    have hc := hv.cell
    have d0 := blk_cell hbx 0
    have d1 := blk_cell hbx 1
    have hBs := hB.size
    gi_wp2_with (gi_at_builtin; go_loud (refine wpListIn_append_own_at _ rfl _ _ 23 rfl w.heap.size 63 i0 (.agg #[.int .i64 0, .int .i64 0]) 2 16 Tryd.underlying23 hi hz0 hz1 hz2 rfl (by decide) v pre.length (flatF pre) rfl (hrow.alloc _) ⟨W.heap.size, 0, none⟩ 1 1 [.int .i64 x.f0, .int .i64 x.f1] rfl rfl (two_new _ _ _ _) (by simp [Value.oneCell']) (by unfold maxLen; omega) (by omega) (by simp; omega) ?_); intro v' w1 hown' hgrow _ hat; obtain ⟨g', cap', rfl⟩ := ownsRow_succ hown'; obtain ⟨hv1, hv2, hr2, hk2, hb2⟩ := hv.appended (by decide) hrow hB.size (Nat.le_refl _) hown' hgrow; have hc1 := hv1.cell; have hf1 := hv1.frozen)
    have hb0 : ownAt W w.heap.size = v.ownBlock := by unfold ownAt; rw [show W.heap[w.heap.size]? = _ from hv]; rfl
    have hb3 := hr2
    refine ⟨hk2.from _, ⟨?_, ?_, ?_⟩, ⟨⟨_, hv2, by rw [flatF_snoc, List.length_append]; exact hr2, trivial⟩, hB.trans hb2⟩⟩
    · exact hk2.size
    · intro k o hk hcells hne ho
      rw [hb0] at ho
      have hkl := (Array.getElem?_eq_some_iff.1 hk).1
      have e1 := hgrow.block k (by simp; omega) (fun e => ho e.symm)
      exact (Below.heap_setCell _ _ _ k (fun e => hne e)).trans (e1.trans ((Below.heap_alloc _ _ k hkl).trans hk))
    · have hb1 : ownAt (w1.setCell ⟨w.heap.size, 0, none⟩ (.slice (some ⟨g', 0, none⟩) (pre.length + 1) cap')) w.heap.size = some g' := by
        unfold ownAt
        rw [show (w1.setCell ⟨w.heap.size, 0, none⟩ (.slice (some ⟨g', 0, none⟩) (pre.length + 1) cap')).heap[w.heap.size]? = _ from hv2]
        rfl
      rcases hat with e | e
      · refine .inl ?_
        rw [hb1, hb0, ← e]
        rfl
      · have e' : g' = (W.alloc (.cells #[.int .i64 x.f0, .int .i64 x.f1] 63)).heap.size := by simpa [Value.ownBlock] using e
        refine .inr ⟨g', hb1, by rw [e']; simp, ?_⟩
        have := hr2.lt g' rfl
        exact this.2
  case done =>
    rintro D ys W hD rfl ⟨⟨v, hv, hrow, _⟩, hB⟩ hK
    have hc := hv.cell
    gi_wp2
    refine ⟨by simp, .inl ⟨_, _, rfl, run_takeDeferred hK, ?_⟩⟩
    refine ⟨_, results_tmp rfl _ _ _, v, rfl, ?_, hB.trans (belowK_b (w := w) (Nat.le_refl _) W D _ _ (by omega) hK rfl rfl)⟩
    exact R_of_flat (ownsRow_putObj hrow _ hK rfl)
  case stop =>
    rintro D c pre W _ _ h _
    exact h.elim
end Go.Proofs.YtpeeflkodpnbpaaDoor.Pr
namespace Go.Proofs.YtpeeflkodpnbpaaDoor.Pr
open Go.RowKit Go.Shelf Go.Proofs.YtpeeflkodpnbpaaDoorW.PrintWords Go.Proofs.YtpeeflkodpnbpaaDoorW.PrintLast Go.Proofs.YtpeeflkodpnbpaaDoorW.PrintMore
set_option linter.unusedVariables false
set_option linter.unusedSimpArgs false

set_option maxHeartbeats 1000000 in
theorem factors_calls (s : ByteArray) (w : World) :
    Calls Tryd.prog 64 #[.string s] w fun e w' => e = .returned (.func (.func 92) #[] #[.pointer (some ⟨w.heap.size, 0, none⟩)]) ∧ w' = w.alloc (.cells #[.string s] 9) := by
  go_enter Tryd.func64, Tryd.ntmps64
  go_wp2
  go_ret
  exact ⟨rfl, rfl⟩
set_option maxHeartbeats 1000000 in
theorem collectF_calls (s : ByteArray) (hs : s.size ≤ 160) (Bs : Nat) (w : World) (hbox : w.heap[Bs]? = some (.cells #[.string s] 9 (0, 0))) (hG : GW w) :
    Calls Tryd.prog 63 #[.func (.func 92) #[] #[.pointer (some ⟨Bs, 0, none⟩)]] w fun e w' => ∃ v, e = .returned v ∧ Kd.R k63 63 w' w.heap.size (fun _ => True) v (copF s s.size 0) ∧ Below w.heap.size w w' := by
  have hc := callsIn_wide.1 (appendF_in 1 (by omega) s hs Bs w hbox hG)
  go_enter Tryd.func63, Tryd.ntmps63
  go_wp2_with (go_at_call 91; refine hc.mono ?_; rintro e w' ⟨v, rfl, ho, hb⟩)
  go_ret
  exact ⟨_, rfl, ho, hb⟩

/-! for the printer -/
def parse_Copying.f (a0 : ByteArray) : Option (List S63 × Int) := if isWordC a0 = true then some (copF a0 a0.size 0, 0) else some ([], 2)
set_option maxHeartbeats 2000000 in
theorem parse_Copying.calls (a0 : ByteArray) (r1 : List S63) (r2 : Int) (w : World) (hG : GW w) (h : parse_Copying.f a0 = some (r1, r2)) :
    Calls Tryd.prog 22 #[.string a0] w fun e w' => ∃ v0_ : Value, e = .returned (.tuple #[v0_, .int .i64 r2]) ∧ Kd.R k63 63 w' w.heap.size (fun _ => True) v0_ r1 ∧ Below w.heap.size w w' := by
  have hW := isWord_calls a0 w
  cases hc : isWordC a0 with
  | false =>
    rw [hc] at hW
    simp only [parse_Copying.f, hc, Bool.false_eq_true, if_false, Option.some.injEq, Prod.mk.injEq] at h
    obtain ⟨rfl, rfl⟩ := h
    go_enter Tryd.func22, Tryd.ntmps22
    go_wp2_with (go_at_call 62; refine hW.mono ?_; rintro e w1 ⟨rfl, hb⟩)
    go_ret2
    exact ⟨_, rfl, Kd.R_nil _ _ _ _ _, hb⟩
  | true =>
    rw [hc] at hW
    have hsz : a0.size ≤ 160 := ((isWordC_iff a0).1 hc).1
    simp only [parse_Copying.f, hc, if_true, Option.some.injEq, Prod.mk.injEq] at h
    obtain ⟨rfl, rfl⟩ := h
    go_enter Tryd.func22, Tryd.ntmps22
    go_wp2_with (first
      | (go_at_call 62; refine hW.mono ?_; rintro e w1 ⟨rfl, hb⟩; have HB := Aside0.mk hb; clear hb)
      | (go_at_call 64; refine (factors_calls a0 _).mono ?_; rintro e w2 ⟨rfl, rfl⟩)
      | (go_at_call 63; refine (collectF_calls a0 hsz w1.heap.size _ (blk_new _ _) (gw_now hG (below_alloc HB.out _))).mono ?_; rintro e w3 ⟨v, rfl, ho, hb⟩))
    go_ret2
    have hb1 : Below w.heap.size w (w1.alloc (.cells #[.string a0] 9)) := below_alloc HB.out _
    exact ⟨_, rfl, Kd.R_lower ho hb1.size, below_step hb1 hb⟩
end Go.Proofs.YtpeeflkodpnbpaaDoor.Pr
