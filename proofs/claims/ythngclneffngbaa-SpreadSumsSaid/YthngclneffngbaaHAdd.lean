import Derived.Test.YthngclneffngbaaHAdd0
import Derived.Test.YthngclneffngbaaHInt
import Derived.Deep.RegionHeld3
namespace Go.Proofs.Ythngclneffngbaa.Pr
open Go.RowKit Go.Proofs.YthngclneffngbaaW.PrintWords Go.Proofs.YthngclneffngbaaW.PrintLast Go.Proofs.YthngclneffngbaaW.PrintMore
set_option linter.unusedVariables false
set_option linter.unusedSimpArgs false

theorem MapIs.below {α : Type} {enc : α → Value} {w w' : World} {m : Nat} {L : List (α × Value)} (h : MapIs enc w m L) (hb : Below w.heap.size w w') : MapIs enc w' m L := by
  obtain ⟨es, clock, h1, h2⟩ := h
  exact ⟨es, clock, blk_below h1 hb, h2⟩
theorem MapIs.fresh {α : Type} {enc : α → Value} (w : World) : MapIs enc (w.alloc (.map #[] 0)) w.heap.size ([] : List (α × Value)) := ⟨#[], 0, blk_new w _, rfl⟩
theorem below_blockSet {B : Nat} {w w' : World} (h : Below B w w') {m : Nat} (hm : B ≤ m) (o : Obj) : Below B w (blockSet w' m o) := by
  unfold blockSet
  refine ⟨h.os, h.tape, h.output, by simpa using h.size, fun k hk => ?_⟩
  rw [← h.block k hk]
  simp [Array.getElem?_setIfInBounds, show m ≠ k by omega]
def addTwo (f g : Int × Int) (L : List ((Int × Int) × Value)) : Prop := getL L f = some (.bool (smallB f.1 f.2)) ∧ getL L g = some (.bool (smallB g.1 g.2))
theorem addTwo_fg (f g : Int × Int) : addTwo f g (putL (putL [] f (.bool (smallB f.1 f.2))) g (.bool (smallB g.1 g.2))) := by
  unfold addTwo getL
  by_cases e : f = g
  · subst e
    simp [putL]
  · simp [putL, e]
theorem addTwo_gf (f g : Int × Int) : addTwo f g (putL (putL [] g (.bool (smallB g.1 g.2))) f (.bool (smallB f.1 f.2))) := by
  have h := addTwo_fg g f
  exact ⟨h.2, h.1⟩
def AddF (wA : World) (f g : Int × Int) (m : Nat) (w' : World) : Prop := Below wA.heap.size wA w' ∧ wA.heap.size ≤ m ∧ ∃ L, MapIs fr w' m L ∧ addTwo f g L
def addR.T : Bool × List (List Nat × List Nat) := (true, [([], []), ([], []), ([], []), ([2], [2]), ([0, 1, 3], [0, 1, 3]), ([], []), ([], []), ([6, 3], [6]), ([0, 5, 7], [0, 5, 7]), ([0, 1, 2, 3, 4, 5, 6, 7, 8], [0]), ([9, 7, 0, 1, 2, 3, 4, 5, 6, 7, 8, 9], [9])])
def addR.B : List Nat := [0, 0, 0, 4, 15, 0, 0, 76, 237, 511, 1023]
theorem addR.tab : rtab .any (opsOf Try.f33 1) = addR.T := by kernel_rfl
theorem addR.bits : waitsOk addR.T.2 addR.B = true := by kernel_rfl
def AddS (h : Nat) (a0 a1 b0 b1 : Int) (w' : World) : Prop := w'.cell? ⟨h, 0, none⟩ = some (.int .i64 a0) ∧ w'.cell? ⟨h, 1, none⟩ = some (.int .i64 a1) ∧ w'.cell? ⟨h + 1, 0, none⟩ = some (.int .i64 b0) ∧ w'.cell? ⟨h + 1, 1, none⟩ = some (.int .i64 b1)
def spread_Add.f (a0 a1 b0 b1 : Int) : Option (Int × Int × Int) :=
  if smallB a0 a1 = true ∧ smallB b0 b1 = true then
    if a0 = 0 ∧ a1 = 1 then some (b0, b1, 0)
    else some ((redF (a0 * b1 + b0 * a1) (a1 * b1)).1, (redF (a0 * b1 + b0 * a1) (a1 * b1)).2, 0)
  else some (0, 0, 2)
set_option maxHeartbeats 4000000 in
set_option maxRecDepth 100000 in
theorem spread_Add.calls (a0 a1 b0 b1 : Int) (r1 r2 r3 : Int) (w : World) (h : spread_Add.f a0 a1 b0 b1 = some (r1, r2, r3)) :
    Calls Try.prog 33 #[.agg #[.int .i64 a0, .int .i64 a1], .agg #[.int .i64 b0, .int .i64 b1]] w fun e w' => e = .returned (.tuple #[.agg #[.int .i64 r1, .int .i64 r2], .int .i64 r3]) ∧ Below w.heap.size w w' := by
  obtain ⟨f, hf⟩ : ∃ f : Int × Int, f = (a0, a1) := ⟨_, rfl⟩
  obtain ⟨g, hg⟩ : ∃ g : Int × Int, g = (b0, b1) := ⟨_, rfl⟩
  go_enter Try.func33, Try.ntmps33
  go_wp2
  obtain ⟨w3, hw3⟩ : ∃ w3, w3 = (((w.alloc (.cells #[.int .i64 a0, .int .i64 a1] 26)).alloc (.cells #[.int .i64 b0, .int .i64 b1] 26)).alloc (.cells #[.int .i64 0, .int .i64 0] 26)) := ⟨_, rfl⟩
  rw [← hw3]
  have HK1 := Lib.hid (show w3.heap[w.heap.size]? = some (.cells #[.int .i64 a0, .int .i64 a1] 26 (0, 0)) by rw [hw3]; exact blk_alloc (blk_alloc (blk_new _ _) _) _)
  have HK2 := Lib.hid (show w3.heap[w.heap.size + 1]? = some (.cells #[.int .i64 b0, .int .i64 b1] 26 (0, 0)) by rw [hw3]; have := blk_alloc (blk_new (w.alloc (.cells #[.int .i64 a0, .int .i64 a1] 26)) (.cells #[.int .i64 b0, .int .i64 b1] 26)) (.cells #[.int .i64 0, .int .i64 0] 26); simpa using this)
  have HK3 := Lib.hid (show w3.heap[w.heap.size + 1 + 1]? = some (.cells #[.int .i64 0, .int .i64 0] 26 (0, 0)) by rw [hw3]; have := blk_new ((w.alloc (.cells #[.int .i64 a0, .int .i64 a1] 26)).alloc (.cells #[.int .i64 b0, .int .i64 b1] 26)) (.cells #[.int .i64 0, .int .i64 0] 26); simpa using this)
  have HBw := Lib.hid (show Below w.heap.size w w3 by rw [hw3]; exact below_alloc (below_alloc (below_alloc (Below.refl _ w) _) _) _)
  clear hw3
  obtain ⟨wA, hwA⟩ : ∃ wA, wA = w3.drew := ⟨_, rfl⟩
  have HAd := Lib.hid hwA
  have hS : ∀ w', Below wA.heap.size wA w' → AddS w.heap.size a0 a1 b0 b1 w' := by
    intro w' hb
    have k1 := blk_below (blk_drew HK1.out) (hwA ▸ hb)
    have k2 := blk_below (blk_drew HK2.out) (hwA ▸ hb)
    exact ⟨blk_cell k1 0, blk_cell k1 1, blk_cell k2 0, blk_cell k2 1⟩
  have HB0 := Lib.hid (Below.refl wA.heap.size wA)
  refine start_ (n := 11) (S := AddS w.heap.size a0 a1 b0 b1) (ds := []) #[false, false, false, false, false, false, false, false, false, false, false] (by kernel_rfl) rfl rfl ?_ (fun hHeld => ?_)
  · rw [← hwA]; exact hS _ (Below.refl _ _)
  rw [← hwA] at hHeld ⊢
  clear hwA
  refine with_tabW addR.tab addR.bits (fun HT_ HW_ => ?_)
  refine take_ (i := 1) (N := some 8) (v := ?_) (a' := ?_) #[false, true, false, false, false, false, false, false, false, false, false] rfl rfl (take_ofW HT_.out HW_.out (by kernel_rfl)) (fun _ _ _ h => h) (Or.inl ⟨by rfl, ?_⟩) hHeld ?_ ?_
  rotate_left
  · rintro w' ⟨s0, s1, s2, s3⟩
    go_simp
    with_reducible rfl
  rotate_left
  · simp only [Act.put, List.setIfInBounds_toArray, List.set_cons_zero, List.set_cons_succ]
    rfl
  refine take_ (i := 2) (N := some 9) (v := ?_) (a' := ?_) #[false, true, true, false, false, false, false, false, false, false, false] rfl rfl (take_ofW HT_.out HW_.out (by kernel_rfl)) (fun _ _ _ h => h) (Or.inl ⟨by rfl, ?_⟩) hHeld ?_ ?_
  rotate_left
  · rintro w' ⟨s0, s1, s2, s3⟩
    go_simp
    with_reducible rfl
  rotate_left
  · simp only [Act.put, List.setIfInBounds_toArray, List.set_cons_zero, List.set_cons_succ]
    rfl
  refine take_ (i := 5) (N := some 11) (v := ?_) (a' := ?_) #[false, true, true, false, false, true, false, false, false, false, false] rfl rfl (take_ofW HT_.out HW_.out (by kernel_rfl)) (fun _ _ _ h => h) (Or.inl ⟨by rfl, ?_⟩) hHeld ?_ ?_
  rotate_left
  · rintro w' ⟨s0, s1, s2, s3⟩
    go_simp
    with_reducible rfl
  rotate_left
  · simp only [Act.put, List.setIfInBounds_toArray, List.set_cons_zero, List.set_cons_succ]
    rfl
  refine take_ (i := 6) (N := some 12) (v := ?_) (a' := ?_) #[false, true, true, false, false, true, true, false, false, false, false] rfl rfl (take_ofW HT_.out HW_.out (by kernel_rfl)) (fun _ _ _ h => h) (Or.inl ⟨by rfl, ?_⟩) hHeld ?_ ?_
  rotate_left
  · rintro w' ⟨s0, s1, s2, s3⟩
    go_simp
    with_reducible rfl
  rotate_left
  · simp only [Act.put, List.setIfInBounds_toArray, List.set_cons_zero, List.set_cons_succ]
    rfl
  refine join_ (σ := Nat) 2 #[true, true, true, true, true, true, true, true, true, false, false] (fun m => [(7, .map (some m)), (10, .bool (smallB a0 a1)), (13, .bool (smallB b0 b1))]) (AddF wA f g) ?_ (fun hjoin => ?_)
  rotate_left
  · simp only [putAll, Act.put, List.setIfInBounds_toArray, List.set_cons_zero, List.set_cons_succ] at hjoin
    clear HBw HK1 HK2 HK3 HAd h
    refine two_ (i := 0) (j := 3) (Ni := some 7) (Nj := some 10) #[true, true, true, false, false, true, true, false, false, false, false] #[false, true, true, true, false, true, true, false, false, false, false] rfl rfl rfl rfl (two_of HT_.out (by kernel_rfl)) (by decide) (by decide) (fun K hK => ?_) (fun K hK => ?_)
    ·
      refine value_ (w1 := wA.alloc (.map #[] 0)) (v := .map (some wA.heap.size)) (by rfl) rfl ?_ ?_
      · go_simp; rfl
      have HB1 := Lib.hid (below_alloc HB0.out (.map #[] 0))
      have HM1 := Lib.hid (MapIs.fresh (α := Int × Int) (enc := fr) wA)
      have hle1 : wA.heap.size ≤ wA.heap.size := HB0.out.size
      refine hK.out _ _ (hS _ HB1.out) (fun hHeld => ?_)
      clear hK K
      refine norm_ (a' := ?_) ?_ ?_
      rotate_left
      · show Act.put _ (some 7) _ = _
        simp only [Act.put, List.setIfInBounds_toArray, List.set_cons_zero, List.set_cons_succ]
        rfl
      refine one_ (i := 3) (N := some 10) #[true, true, true, true, false, true, true, false, false, false, false] rfl rfl (one_of HT_.out (by kernel_rfl)) (by decide) (fun K hK => ?_)
      refine goes_ Try.func65 (by kernel_rfl) rfl #[.agg #[.int .i64 a0, .int .i64 a1], .int .i64 1000000000] (by rfl) rfl rfl (by (try simp only [List.map_toArray, List.map_cons, List.map_nil]); (try go_simp); first | done | rfl) ?_
      refine (isFrac_any a0 a1 _).mono ?_
      rintro e w2 ⟨rfl, hb2⟩
      refine ⟨_, rfl, ?_⟩
      have HB2 := Lib.hid (below_then HB1.out HB1.out.size hb2)
      have HM2 := Lib.hid (MapIs.below HM1.out hb2)
      clear hb2
      refine hK.out _ _ (hS _ HB2.out) (fun hHeld => ?_)
      clear hK K
      refine norm_ (a' := ?_) ?_ ?_
      rotate_left
      · show Act.put _ (some 10) _ = _
        simp only [Act.put, List.setIfInBounds_toArray, List.set_cons_zero, List.set_cons_succ]
        rfl
      refine two_ (i := 4) (j := 7) (Ni := none) (Nj := some 13) #[true, true, true, true, true, true, true, false, false, false, false] #[true, true, true, true, false, true, true, true, false, false, false] rfl rfl rfl rfl (two_of HT_.out (by kernel_rfl)) (by decide) (by decide) (fun K hK => ?_) (fun K hK => ?_)
      ·
        obtain ⟨o3, ho3, hm3⟩ := MapIs.update keyd26 Try.underlying97 HM2.out f (.bool (smallB f.1 f.2))
        simp only [fr, hf] at ho3
        refine skip_ (w1 := blockSet w2 wA.heap.size o3) (by rfl) rfl ?_ ?_
        · go_simp
        have HB3 := Lib.hid (below_blockSet HB2.out hle1 o3)
        have HM3 := Lib.hid hm3
        clear hm3 ho3
        refine hK.out _ _ (hS _ HB3.out) (fun hHeld => ?_)
        clear hK K
        refine one_ (i := 7) (N := some 13) #[true, true, true, true, true, true, true, true, false, false, false] rfl rfl (one_of HT_.out (by kernel_rfl)) (by decide) (fun K hK => ?_)
        refine goes_ Try.func65 (by kernel_rfl) rfl #[.agg #[.int .i64 b0, .int .i64 b1], .int .i64 1000000000] (by rfl) rfl rfl (by (try simp only [List.map_toArray, List.map_cons, List.map_nil]); (try go_simp); first | done | rfl) ?_
        refine (isFrac_any b0 b1 _).mono ?_
        rintro e w4 ⟨rfl, hb4⟩
        refine ⟨_, rfl, ?_⟩
        have HB4 := Lib.hid (below_then HB3.out HB3.out.size hb4)
        have HM4 := Lib.hid (MapIs.below HM3.out hb4)
        clear hb4
        refine hK.out _ _ (hS _ HB4.out) (fun hHeld => ?_)
        clear hK K
        refine norm_ (a' := ?_) ?_ ?_
        rotate_left
        · show Act.put _ (some 13) _ = _
          simp only [Act.put, List.setIfInBounds_toArray, List.set_cons_zero, List.set_cons_succ]
          rfl
        refine one_ (i := 8) (N := none) #[true, true, true, true, true, true, true, true, true, false, false] rfl rfl (one_of HT_.out (by kernel_rfl)) (by decide) (fun K hK => ?_)
        obtain ⟨o5, ho5, hm5⟩ := MapIs.update keyd26 Try.underlying97 HM4.out g (.bool (smallB g.1 g.2))
        simp only [fr, hg] at ho5
        refine skip_ (w1 := blockSet w4 wA.heap.size o5) (by rfl) rfl ?_ ?_
        · go_simp
        have HB5 := Lib.hid (below_blockSet HB4.out hle1 o5)
        have HM5 := Lib.hid hm5
        clear hm5 ho5
        refine hK.out _ _ (hS _ HB5.out) (fun hHeld => ?_)
        clear hK K
        exact hjoin _ _ ⟨HB5.out, hle1, _, HM5.out, addTwo_fg f g⟩
      ·
        refine goes_ Try.func65 (by kernel_rfl) rfl #[.agg #[.int .i64 b0, .int .i64 b1], .int .i64 1000000000] (by rfl) rfl rfl (by (try simp only [List.map_toArray, List.map_cons, List.map_nil]); (try go_simp); first | done | rfl) ?_
        refine (isFrac_any b0 b1 _).mono ?_
        rintro e w6 ⟨rfl, hb6⟩
        refine ⟨_, rfl, ?_⟩
        have HB6 := Lib.hid (below_then HB2.out HB2.out.size hb6)
        have HM6 := Lib.hid (MapIs.below HM2.out hb6)
        clear hb6
        refine hK.out _ _ (hS _ HB6.out) (fun hHeld => ?_)
        clear hK K
        refine norm_ (a' := ?_) ?_ ?_
        rotate_left
        · show Act.put _ (some 13) _ = _
          simp only [Act.put, List.setIfInBounds_toArray, List.set_cons_zero, List.set_cons_succ]
          rfl
        refine two_ (i := 4) (j := 8) (Ni := none) (Nj := none) #[true, true, true, true, true, true, true, true, false, false, false] #[true, true, true, true, false, true, true, true, true, false, false] rfl rfl rfl rfl (two_of HT_.out (by kernel_rfl)) (by decide) (by decide) (fun K hK => ?_) (fun K hK => ?_)
        ·
          obtain ⟨o7, ho7, hm7⟩ := MapIs.update keyd26 Try.underlying97 HM6.out f (.bool (smallB f.1 f.2))
          simp only [fr, hf] at ho7
          refine skip_ (w1 := blockSet w6 wA.heap.size o7) (by rfl) rfl ?_ ?_
          · go_simp
          have HB7 := Lib.hid (below_blockSet HB6.out hle1 o7)
          have HM7 := Lib.hid hm7
          clear hm7 ho7
          refine hK.out _ _ (hS _ HB7.out) (fun hHeld => ?_)
          clear hK K
          refine one_ (i := 8) (N := none) #[true, true, true, true, true, true, true, true, true, false, false] rfl rfl (one_of HT_.out (by kernel_rfl)) (by decide) (fun K hK => ?_)
          obtain ⟨o8, ho8, hm8⟩ := MapIs.update keyd26 Try.underlying97 HM7.out g (.bool (smallB g.1 g.2))
          simp only [fr, hg] at ho8
          refine skip_ (w1 := blockSet (blockSet w6 wA.heap.size o7) wA.heap.size o8) (by rfl) rfl ?_ ?_
          · go_simp
          have HB8 := Lib.hid (below_blockSet HB7.out hle1 o8)
          have HM8 := Lib.hid hm8
          clear hm8 ho8
          refine hK.out _ _ (hS _ HB8.out) (fun hHeld => ?_)
          clear hK K
          exact hjoin _ _ ⟨HB8.out, hle1, _, HM8.out, addTwo_fg f g⟩
        ·
          obtain ⟨o9, ho9, hm9⟩ := MapIs.update keyd26 Try.underlying97 HM6.out g (.bool (smallB g.1 g.2))
          simp only [fr, hg] at ho9
          refine skip_ (w1 := blockSet w6 wA.heap.size o9) (by rfl) rfl ?_ ?_
          · go_simp
          have HB9 := Lib.hid (below_blockSet HB6.out hle1 o9)
          have HM9 := Lib.hid hm9
          clear hm9 ho9
          refine hK.out _ _ (hS _ HB9.out) (fun hHeld => ?_)
          clear hK K
          refine one_ (i := 4) (N := none) #[true, true, true, true, true, true, true, true, true, false, false] rfl rfl (one_of HT_.out (by kernel_rfl)) (by decide) (fun K hK => ?_)
          obtain ⟨o10, ho10, hm10⟩ := MapIs.update keyd26 Try.underlying97 HM9.out f (.bool (smallB f.1 f.2))
          simp only [fr, hf] at ho10
          refine skip_ (w1 := blockSet (blockSet w6 wA.heap.size o9) wA.heap.size o10) (by rfl) rfl ?_ ?_
          · go_simp
          have HB10 := Lib.hid (below_blockSet HB9.out hle1 o10)
          have HM10 := Lib.hid hm10
          clear hm10 ho10
          refine hK.out _ _ (hS _ HB10.out) (fun hHeld => ?_)
          clear hK K
          exact hjoin _ _ ⟨HB10.out, hle1, _, HM10.out, addTwo_gf f g⟩
    ·
      refine goes_ Try.func65 (by kernel_rfl) rfl #[.agg #[.int .i64 a0, .int .i64 a1], .int .i64 1000000000] (by rfl) rfl rfl (by (try simp only [List.map_toArray, List.map_cons, List.map_nil]); (try go_simp); first | done | rfl) ?_
      refine (isFrac_any a0 a1 _).mono ?_
      rintro e w11 ⟨rfl, hb11⟩
      refine ⟨_, rfl, ?_⟩
      have HB11 := Lib.hid (below_then HB0.out HB0.out.size hb11)
      clear hb11
      refine hK.out _ _ (hS _ HB11.out) (fun hHeld => ?_)
      clear hK K
      refine norm_ (a' := ?_) ?_ ?_
      rotate_left
      · show Act.put _ (some 10) _ = _
        simp only [Act.put, List.setIfInBounds_toArray, List.set_cons_zero, List.set_cons_succ]
        rfl
      refine two_ (i := 0) (j := 7) (Ni := some 7) (Nj := some 13) #[true, true, true, true, false, true, true, false, false, false, false] #[false, true, true, true, false, true, true, true, false, false, false] rfl rfl rfl rfl (two_of HT_.out (by kernel_rfl)) (by decide) (by decide) (fun K hK => ?_) (fun K hK => ?_)
      ·
        refine value_ (w1 := w11.alloc (.map #[] 0)) (v := .map (some w11.heap.size)) (by rfl) rfl ?_ ?_
        · go_simp; rfl
        have HB12 := Lib.hid (below_alloc HB11.out (.map #[] 0))
        have HM12 := Lib.hid (MapIs.fresh (α := Int × Int) (enc := fr) w11)
        have hle12 : wA.heap.size ≤ w11.heap.size := HB11.out.size
        refine hK.out _ _ (hS _ HB12.out) (fun hHeld => ?_)
        clear hK K
        refine norm_ (a' := ?_) ?_ ?_
        rotate_left
        · show Act.put _ (some 7) _ = _
          simp only [Act.put, List.setIfInBounds_toArray, List.set_cons_zero, List.set_cons_succ]
          rfl
        refine two_ (i := 4) (j := 7) (Ni := none) (Nj := some 13) #[true, true, true, true, true, true, true, false, false, false, false] #[true, true, true, true, false, true, true, true, false, false, false] rfl rfl rfl rfl (two_of HT_.out (by kernel_rfl)) (by decide) (by decide) (fun K hK => ?_) (fun K hK => ?_)
        ·
          obtain ⟨o13, ho13, hm13⟩ := MapIs.update keyd26 Try.underlying97 HM12.out f (.bool (smallB f.1 f.2))
          simp only [fr, hf] at ho13
          refine skip_ (w1 := blockSet (w11.alloc (.map #[] 0)) w11.heap.size o13) (by rfl) rfl ?_ ?_
          · go_simp
          have HB13 := Lib.hid (below_blockSet HB12.out hle12 o13)
          have HM13 := Lib.hid hm13
          clear hm13 ho13
          refine hK.out _ _ (hS _ HB13.out) (fun hHeld => ?_)
          clear hK K
          refine one_ (i := 7) (N := some 13) #[true, true, true, true, true, true, true, true, false, false, false] rfl rfl (one_of HT_.out (by kernel_rfl)) (by decide) (fun K hK => ?_)
          refine goes_ Try.func65 (by kernel_rfl) rfl #[.agg #[.int .i64 b0, .int .i64 b1], .int .i64 1000000000] (by rfl) rfl rfl (by (try simp only [List.map_toArray, List.map_cons, List.map_nil]); (try go_simp); first | done | rfl) ?_
          refine (isFrac_any b0 b1 _).mono ?_
          rintro e w14 ⟨rfl, hb14⟩
          refine ⟨_, rfl, ?_⟩
          have HB14 := Lib.hid (below_then HB13.out HB13.out.size hb14)
          have HM14 := Lib.hid (MapIs.below HM13.out hb14)
          clear hb14
          refine hK.out _ _ (hS _ HB14.out) (fun hHeld => ?_)
          clear hK K
          refine norm_ (a' := ?_) ?_ ?_
          rotate_left
          · show Act.put _ (some 13) _ = _
            simp only [Act.put, List.setIfInBounds_toArray, List.set_cons_zero, List.set_cons_succ]
            rfl
          refine one_ (i := 8) (N := none) #[true, true, true, true, true, true, true, true, true, false, false] rfl rfl (one_of HT_.out (by kernel_rfl)) (by decide) (fun K hK => ?_)
          obtain ⟨o15, ho15, hm15⟩ := MapIs.update keyd26 Try.underlying97 HM14.out g (.bool (smallB g.1 g.2))
          simp only [fr, hg] at ho15
          refine skip_ (w1 := blockSet w14 w11.heap.size o15) (by rfl) rfl ?_ ?_
          · go_simp
          have HB15 := Lib.hid (below_blockSet HB14.out hle12 o15)
          have HM15 := Lib.hid hm15
          clear hm15 ho15
          refine hK.out _ _ (hS _ HB15.out) (fun hHeld => ?_)
          clear hK K
          exact hjoin _ _ ⟨HB15.out, hle12, _, HM15.out, addTwo_fg f g⟩
        ·
          refine goes_ Try.func65 (by kernel_rfl) rfl #[.agg #[.int .i64 b0, .int .i64 b1], .int .i64 1000000000] (by rfl) rfl rfl (by (try simp only [List.map_toArray, List.map_cons, List.map_nil]); (try go_simp); first | done | rfl) ?_
          refine (isFrac_any b0 b1 _).mono ?_
          rintro e w16 ⟨rfl, hb16⟩
          refine ⟨_, rfl, ?_⟩
          have HB16 := Lib.hid (below_then HB12.out HB12.out.size hb16)
          have HM16 := Lib.hid (MapIs.below HM12.out hb16)
          clear hb16
          refine hK.out _ _ (hS _ HB16.out) (fun hHeld => ?_)
          clear hK K
          refine norm_ (a' := ?_) ?_ ?_
          rotate_left
          · show Act.put _ (some 13) _ = _
            simp only [Act.put, List.setIfInBounds_toArray, List.set_cons_zero, List.set_cons_succ]
            rfl
          refine two_ (i := 4) (j := 8) (Ni := none) (Nj := none) #[true, true, true, true, true, true, true, true, false, false, false] #[true, true, true, true, false, true, true, true, true, false, false] rfl rfl rfl rfl (two_of HT_.out (by kernel_rfl)) (by decide) (by decide) (fun K hK => ?_) (fun K hK => ?_)
          ·
            obtain ⟨o17, ho17, hm17⟩ := MapIs.update keyd26 Try.underlying97 HM16.out f (.bool (smallB f.1 f.2))
            simp only [fr, hf] at ho17
            refine skip_ (w1 := blockSet w16 w11.heap.size o17) (by rfl) rfl ?_ ?_
            · go_simp
            have HB17 := Lib.hid (below_blockSet HB16.out hle12 o17)
            have HM17 := Lib.hid hm17
            clear hm17 ho17
            refine hK.out _ _ (hS _ HB17.out) (fun hHeld => ?_)
            clear hK K
            refine one_ (i := 8) (N := none) #[true, true, true, true, true, true, true, true, true, false, false] rfl rfl (one_of HT_.out (by kernel_rfl)) (by decide) (fun K hK => ?_)
            obtain ⟨o18, ho18, hm18⟩ := MapIs.update keyd26 Try.underlying97 HM17.out g (.bool (smallB g.1 g.2))
            simp only [fr, hg] at ho18
            refine skip_ (w1 := blockSet (blockSet w16 w11.heap.size o17) w11.heap.size o18) (by rfl) rfl ?_ ?_
            · go_simp
            have HB18 := Lib.hid (below_blockSet HB17.out hle12 o18)
            have HM18 := Lib.hid hm18
            clear hm18 ho18
            refine hK.out _ _ (hS _ HB18.out) (fun hHeld => ?_)
            clear hK K
            exact hjoin _ _ ⟨HB18.out, hle12, _, HM18.out, addTwo_fg f g⟩
          ·
            obtain ⟨o19, ho19, hm19⟩ := MapIs.update keyd26 Try.underlying97 HM16.out g (.bool (smallB g.1 g.2))
            simp only [fr, hg] at ho19
            refine skip_ (w1 := blockSet w16 w11.heap.size o19) (by rfl) rfl ?_ ?_
            · go_simp
            have HB19 := Lib.hid (below_blockSet HB16.out hle12 o19)
            have HM19 := Lib.hid hm19
            clear hm19 ho19
            refine hK.out _ _ (hS _ HB19.out) (fun hHeld => ?_)
            clear hK K
            refine one_ (i := 4) (N := none) #[true, true, true, true, true, true, true, true, true, false, false] rfl rfl (one_of HT_.out (by kernel_rfl)) (by decide) (fun K hK => ?_)
            obtain ⟨o20, ho20, hm20⟩ := MapIs.update keyd26 Try.underlying97 HM19.out f (.bool (smallB f.1 f.2))
            simp only [fr, hf] at ho20
            refine skip_ (w1 := blockSet (blockSet w16 w11.heap.size o19) w11.heap.size o20) (by rfl) rfl ?_ ?_
            · go_simp
            have HB20 := Lib.hid (below_blockSet HB19.out hle12 o20)
            have HM20 := Lib.hid hm20
            clear hm20 ho20
            refine hK.out _ _ (hS _ HB20.out) (fun hHeld => ?_)
            clear hK K
            exact hjoin _ _ ⟨HB20.out, hle12, _, HM20.out, addTwo_gf f g⟩
      ·
        refine goes_ Try.func65 (by kernel_rfl) rfl #[.agg #[.int .i64 b0, .int .i64 b1], .int .i64 1000000000] (by rfl) rfl rfl (by (try simp only [List.map_toArray, List.map_cons, List.map_nil]); (try go_simp); first | done | rfl) ?_
        refine (isFrac_any b0 b1 _).mono ?_
        rintro e w21 ⟨rfl, hb21⟩
        refine ⟨_, rfl, ?_⟩
        have HB21 := Lib.hid (below_then HB11.out HB11.out.size hb21)
        clear hb21
        refine hK.out _ _ (hS _ HB21.out) (fun hHeld => ?_)
        clear hK K
        refine norm_ (a' := ?_) ?_ ?_
        rotate_left
        · show Act.put _ (some 13) _ = _
          simp only [Act.put, List.setIfInBounds_toArray, List.set_cons_zero, List.set_cons_succ]
          rfl
        refine one_ (i := 0) (N := some 7) #[true, true, true, true, false, true, true, true, false, false, false] rfl rfl (one_of HT_.out (by kernel_rfl)) (by decide) (fun K hK => ?_)
        refine value_ (w1 := w21.alloc (.map #[] 0)) (v := .map (some w21.heap.size)) (by rfl) rfl ?_ ?_
        · go_simp; rfl
        have HB22 := Lib.hid (below_alloc HB21.out (.map #[] 0))
        have HM22 := Lib.hid (MapIs.fresh (α := Int × Int) (enc := fr) w21)
        have hle22 : wA.heap.size ≤ w21.heap.size := HB21.out.size
        refine hK.out _ _ (hS _ HB22.out) (fun hHeld => ?_)
        clear hK K
        refine norm_ (a' := ?_) ?_ ?_
        rotate_left
        · show Act.put _ (some 7) _ = _
          simp only [Act.put, List.setIfInBounds_toArray, List.set_cons_zero, List.set_cons_succ]
          rfl
        refine two_ (i := 4) (j := 8) (Ni := none) (Nj := none) #[true, true, true, true, true, true, true, true, false, false, false] #[true, true, true, true, false, true, true, true, true, false, false] rfl rfl rfl rfl (two_of HT_.out (by kernel_rfl)) (by decide) (by decide) (fun K hK => ?_) (fun K hK => ?_)
        ·
          obtain ⟨o23, ho23, hm23⟩ := MapIs.update keyd26 Try.underlying97 HM22.out f (.bool (smallB f.1 f.2))
          simp only [fr, hf] at ho23
          refine skip_ (w1 := blockSet (w21.alloc (.map #[] 0)) w21.heap.size o23) (by rfl) rfl ?_ ?_
          · go_simp
          have HB23 := Lib.hid (below_blockSet HB22.out hle22 o23)
          have HM23 := Lib.hid hm23
          clear hm23 ho23
          refine hK.out _ _ (hS _ HB23.out) (fun hHeld => ?_)
          clear hK K
          refine one_ (i := 8) (N := none) #[true, true, true, true, true, true, true, true, true, false, false] rfl rfl (one_of HT_.out (by kernel_rfl)) (by decide) (fun K hK => ?_)
          obtain ⟨o24, ho24, hm24⟩ := MapIs.update keyd26 Try.underlying97 HM23.out g (.bool (smallB g.1 g.2))
          simp only [fr, hg] at ho24
          refine skip_ (w1 := blockSet (blockSet (w21.alloc (.map #[] 0)) w21.heap.size o23) w21.heap.size o24) (by rfl) rfl ?_ ?_
          · go_simp
          have HB24 := Lib.hid (below_blockSet HB23.out hle22 o24)
          have HM24 := Lib.hid hm24
          clear hm24 ho24
          refine hK.out _ _ (hS _ HB24.out) (fun hHeld => ?_)
          clear hK K
          exact hjoin _ _ ⟨HB24.out, hle22, _, HM24.out, addTwo_fg f g⟩
        ·
          obtain ⟨o25, ho25, hm25⟩ := MapIs.update keyd26 Try.underlying97 HM22.out g (.bool (smallB g.1 g.2))
          simp only [fr, hg] at ho25
          refine skip_ (w1 := blockSet (w21.alloc (.map #[] 0)) w21.heap.size o25) (by rfl) rfl ?_ ?_
          · go_simp
          have HB25 := Lib.hid (below_blockSet HB22.out hle22 o25)
          have HM25 := Lib.hid hm25
          clear hm25 ho25
          refine hK.out _ _ (hS _ HB25.out) (fun hHeld => ?_)
          clear hK K
          refine one_ (i := 4) (N := none) #[true, true, true, true, true, true, true, true, true, false, false] rfl rfl (one_of HT_.out (by kernel_rfl)) (by decide) (fun K hK => ?_)
          obtain ⟨o26, ho26, hm26⟩ := MapIs.update keyd26 Try.underlying97 HM25.out f (.bool (smallB f.1 f.2))
          simp only [fr, hf] at ho26
          refine skip_ (w1 := blockSet (blockSet (w21.alloc (.map #[] 0)) w21.heap.size o25) w21.heap.size o26) (by rfl) rfl ?_ ?_
          · go_simp
          have HB26 := Lib.hid (below_blockSet HB25.out hle22 o26)
          have HM26 := Lib.hid hm26
          clear hm26 ho26
          refine hK.out _ _ (hS _ HB26.out) (fun hHeld => ?_)
          clear hK K
          exact hjoin _ _ ⟨HB26.out, hle22, _, HM26.out, addTwo_gf f g⟩
  · rintro m w' ⟨hb, hm, L, hL, hL2⟩
    have HB1 := Lib.hid hb
    have HL := Lib.hid hL
    have HL2 := Lib.hid hL2
    have HM := Lib.hid hm
    clear hb hL hL2 hm
    refine norm_ (a' := ?_) ?_ ?_
    rotate_left
    · simp only [putAll, Act.put, List.setIfInBounds_toArray, List.set_cons_zero, List.set_cons_succ]
      rfl
    refine pure_ (i := 9) (N := some 14) (v := ?_) (a' := ?_) #[true, true, true, true, true, true, true, true, true, true, false] rfl rfl (any_of HT_.out (by kernel_rfl)) (fun _ _ _ h => h) (Or.inl ⟨by rfl, ?_⟩) ?_ ?_
    rotate_left
    · intro w'
      go_simp
      with_reducible rfl
    rotate_left
    · simp only [Act.put, List.setIfInBounds_toArray, List.set_cons_zero, List.set_cons_succ]
      rfl
    refine pure_ (i := 10) (N := some 6) (v := ?_) (a' := ?_) #[true, true, true, true, true, true, true, true, true, true, true] rfl rfl (any_of HT_.out (by kernel_rfl)) (fun _ _ _ h => h) (Or.inl ⟨by rfl, ?_⟩) ?_ ?_
    rotate_left
    · intro w'
      go_simp
      with_reducible rfl
    rotate_left
    · simp only [Act.put, List.setIfInBounds_toArray, List.set_cons_zero, List.set_cons_succ]
      rfl
    refine done_ (done_of HT_.out (by kernel_rfl)) ?_
    clear HT_ HW_
    have K1 := Lib.hid (blk_below (blk_drew HK1.out) (show Below w3.drew.heap.size w3.drew w' from HAd.out ▸ HB1.out))
    have K2 := Lib.hid (blk_below (blk_drew HK2.out) (show Below w3.drew.heap.size w3.drew w' from HAd.out ▸ HB1.out))
    have K3 := Lib.hid (blk_below (blk_drew HK3.out) (show Below w3.drew.heap.size w3.drew w' from HAd.out ▸ HB1.out))
    have HBz := Lib.hid (show Below w.heap.size w w' from below_then (below_drew HBw.out) HBw.out.size (show Below w3.drew.heap.size w3.drew w' from HAd.out ▸ HB1.out))
    have l1 := MapIs.lookup keyd26 Try.underlying97 (z := .bool false) (fun w => by go_simp) HL.out f false
    have l2 := MapIs.lookup keyd26 Try.underlying97 (z := .bool false) (fun w => by go_simp) HL.out g false
    rw [HL2.out.1] at l1
    rw [HL2.out.2] at l2
    simp only [Bool.false_eq_true, if_false, Option.getD_some, fr, hf] at l1
    simp only [Bool.false_eq_true, if_false, Option.getD_some, fr, hg] at l2
    have c1 := blk_cell K1.out 0
    have c2 := blk_cell K1.out 1
    have c3 := blk_cell K2.out 0
    have c4 := blk_cell K2.out 1
    have c5 := blk_cell K3.out 0
    have c6 := blk_cell K3.out 1
    have c7 := blk_frozen K3.out 0
    have c8 := blk_frozen K3.out 1
    clear HL HL2 hf hg hS hHeld HAd HK1 HK2 HK3 HB1 HM HB0
    unfold spread_Add.f at h
    have bad : (smallB a0 a1 = true ∧ smallB b0 b1 = true) ∨ ¬ (smallB a0 a1 = true ∧ smallB b0 b1 = true) := Classical.em _
    rcases bad with ok | bad
    · rw [if_pos ok] at h
      rw [ok.1] at l1
      rw [ok.2] at l2
      have OK := Lib.hid ok
      rw [ok.1, ok.2]
      clear ok
      by_cases z : a0 = 0 ∧ a1 = 1
      · rw [if_pos z] at h
        simp only [Option.some.injEq, Prod.mk.injEq] at h
        obtain ⟨rfl, rfl, rfl⟩ := h
        obtain ⟨rfl, rfl⟩ := z
        have e26 := eqA26 9998 w' 0 0 1 1
        go_wp2
        refine bodyPost_ret (results_ct rfl _ _ (w.heap.size + 1 + 1) 26 #[.int .i64 _, .int .i64 _] (0, 0) _ rfl (blk_put (blk_put K3.out 0 _ rfl) 1 _ rfl) Try.underlying26 rfl (by kernel_rfl)) rfl ⟨rfl, ?_⟩
        exact (HBz.out.setCell (p := ⟨w.heap.size + 1 + 1, 0, none⟩) (by simp only; omega) _).setCell (p := ⟨w.heap.size + 1 + 1, 1, none⟩) (by simp only; omega) _
      · rw [if_neg z] at h
        simp only [Option.some.injEq, Prod.mk.injEq] at h
        obtain ⟨rfl, rfl, rfl⟩ := h
        have e26 := eqA26 9998 w' a0 0 a1 1
        have ez : (a0 == 0 && a1 == 1) = false := by
          rw [Bool.eq_false_iff]
          intro h
          exact z (by simpa using h)
        rw [ez] at e26
        have sb := OK.out
        simp only [smallB, decide_eq_true_eq] at sb
        have bf : ∀ x y : Int, -1000000000 ≤ x → x ≤ 1000000000 → 1 ≤ y → y ≤ 1000000000 → -1000000000000000000 ≤ x * y ∧ x * y ≤ 1000000000000000000 := by
          intro x y h1 h2 h3 h4
          constructor
          · have := Int.mul_le_mul_of_nonneg_right h1 (show 0 ≤ y by omega)
            omega
          · have := Int.mul_le_mul_of_nonneg_right h2 (show 0 ≤ y by omega)
            omega
        have q1 := bf a0 b1 (by omega) (by omega) (by omega) (by omega)
        have q2 := bf b0 a1 (by omega) (by omega) (by omega) (by omega)
        have q3 := bf a1 b1 (by omega) (by omega) (by omega) (by omega)
        have q4 : 1 ≤ a1 * b1 := Int.mul_pos (show 0 < a1 by omega) (show 0 < b1 by omega)
        have HQ := Lib.hid (And.intro q1 (And.intro q2 (And.intro q3 q4)))
        have v1 : wrap64 (a0 * b1) = a0 * b1 := w64 (by omega) (by omega)
        have v2 : wrap64 (b0 * a1) = b0 * a1 := w64 (by omega) (by omega)
        have v3 : wrap64 (a1 * b1) = a1 * b1 := w64 (by omega) (by omega)
        have v4 : wrap64 (a0 * b1 + b0 * a1) = a0 * b1 + b0 * a1 := w64 (by omega) (by omega)
        clear bf q1 q2 q3 q4 sb
        go_wp2_with (go_at_call 58; refine (frac_any _ _ _ HQ.out.2.2.2 (by have := HQ.out; omega) (by have := HQ.out; omega) (by have := HQ.out; omega)).mono ?_; rintro e w5 ⟨rfl, hb5⟩; have HB5 := Lib.hid hb5; clear hb5; have K5 := Lib.hid (blk_below K3.out HB5.out); clear c1 c2 c3 c4 c5 c6 c7 c8; have c5 := blk_cell K5.out 0; have c6 := blk_cell K5.out 1; have c7 := blk_frozen K5.out 0; have c8 := blk_frozen K5.out 1)
        all_goals (refine bodyPost_ret (results_ct rfl _ _ (w.heap.size + 1 + 1) 26 #[.int .i64 _, .int .i64 _] (0, 0) _ rfl (blk_put (blk_put K5.out 0 _ rfl) 1 _ rfl) Try.underlying26 rfl (by kernel_rfl)) rfl ⟨?_, ?_⟩)
        all_goals (first | exact ((below_then HBz.out HBz.out.size HB5.out).setCell (p := ⟨w.heap.size + 1 + 1, 0, none⟩) (by simp only; omega) _).setCell (p := ⟨w.heap.size + 1 + 1, 1, none⟩) (by simp only; omega) _ | rfl | skip)
        all_goals (have hz : a0 = 0 := by assumption)
        all_goals (rw [hz])
        all_goals (simp only [Int.zero_mul, Int.zero_add])
        all_goals rfl
    · rw [if_neg bad] at h
      simp only [Option.some.injEq, Prod.mk.injEq] at h
      obtain ⟨rfl, rfl, rfl⟩ := h
      cases h1 : smallB a0 a1
      · rw [h1] at l1
        go_wp2
        refine bodyPost_ret (results_ct rfl _ _ (w.heap.size + 1 + 1) 26 #[.int .i64 _, .int .i64 _] (0, 0) _ rfl (blk_put (blk_put K3.out 0 _ rfl) 1 _ rfl) Try.underlying26 rfl (by kernel_rfl)) rfl ⟨rfl, ?_⟩
        exact (HBz.out.setCell (p := ⟨w.heap.size + 1 + 1, 0, none⟩) (by simp only; omega) _).setCell (p := ⟨w.heap.size + 1 + 1, 1, none⟩) (by simp only; omega) _
      · have h2 : smallB b0 b1 = false := by
          cases h3 : smallB b0 b1
          · rfl
          · exact absurd ⟨h1, h3⟩ bad
        rw [h1] at l1
        rw [h2] at l2
        rw [h2]
        clear bad
        go_wp2
        refine bodyPost_ret (results_ct rfl _ _ (w.heap.size + 1 + 1) 26 #[.int .i64 _, .int .i64 _] (0, 0) _ rfl (blk_put (blk_put K3.out 0 _ rfl) 1 _ rfl) Try.underlying26 rfl (by kernel_rfl)) rfl ⟨rfl, ?_⟩
        exact (HBz.out.setCell (p := ⟨w.heap.size + 1 + 1, 0, none⟩) (by simp only; omega) _).setCell (p := ⟨w.heap.size + 1 + 1, 1, none⟩) (by simp only; omega) _
end Go.Proofs.Ythngclneffngbaa.Pr
