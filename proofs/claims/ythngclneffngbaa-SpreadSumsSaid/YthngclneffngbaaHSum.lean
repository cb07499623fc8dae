import Derived.Test.YthngclneffngbaaHAd2
import Derived.Test.YthngclneffngbaaHT
import Derived.Test.YthngclneffngbaaPrB1
import Derived.Test.YthngclneffngbaaHInt
import Derived.Test.YthngclneffngbaaHMr
import Derived.Test.YthngclneffngbaaHAw
import Derived.Deep.RegionHeld3
namespace Go.Proofs.Ythngclneffngbaa.Pr
open Go.RowKit Go.Proofs.YthngclneffngbaaW.PrintWords Go.Proofs.YthngclneffngbaaW.PrintLast Go.Proofs.YthngclneffngbaaW.PrintMore
set_option linter.unusedVariables false
set_option linter.unusedSimpArgs false

def sumF (x y : Int) : Int × Int := redF (modF x 1001 - 500) (1 + modF y 500)
theorem sumRed (x y : Int) (w : World) : Calls Try.prog 28 #[.int .i64 (modF x 1001 - 500), .int .i64 (1 + modF y 500)] w fun e w' => e = .returned (.agg #[.int .i64 (sumF x y).1, .int .i64 (sumF x y).2]) ∧ Below w.heap.size w w' := by
  have h1 := modF_range x 1001 (by omega)
  have h2 := modF_range y 500 (by omega)
  obtain ⟨k, hk⟩ := (reduced_ev (modF x 1001 - 500) (1 + modF y 500) (by omega) (by omega) (by omega) (by omega)).ex
  exact numnahref03_Reduced.calls k _ _ _ _ w hk
def addP (p q : Int × Int) : Int × Int := redF (p.1 * q.2 + q.1 * p.2) (p.2 * q.2)
theorem addC (p q r : Int × Int) (hp : smallB p.1 p.2 = true) (hq : smallB q.1 q.2 = true) (hr : addP p q = r) (w : World) :
    Calls Try.prog 33 #[.agg #[.int .i64 p.1, .int .i64 p.2], .agg #[.int .i64 q.1, .int .i64 q.2]] w fun e w' => e = .returned (.tuple #[.agg #[.int .i64 r.1, .int .i64 r.2], .int .i64 0]) ∧ Below w.heap.size w w' := by
  have h := add_yes p.1 p.2 q.1 q.2 hp hq
  have e : redF (p.1 * q.2 + q.1 * p.2) (p.2 * q.2) = r := hr
  rw [e] at h
  exact spread_Add.calls p.1 p.2 q.1 q.2 r.1 r.2 0 w h
theorem awake_any (w : World) : Calls Try.prog 22 #[] w fun e w' => e = .returned (.bool true) ∧ Below w.heap.size w w' := numnahlaw03_awake.calls 40 true w awake_run
def wrote (u : World) (x y : Int) : World := u.alloc (.cells #[.int .i64 x, .int .i64 y] 26)
theorem wroteK {W u : World} {g : Nat} {cs : Array Value} {t : TypeId} (K : W.heap[g]? = some (.cells cs t (0, 0))) (hb : Below W.heap.size W u) (x y : Int) : (wrote u x y).heap[g]? = some (.cells cs t (0, 0)) := blk_alloc (blk_below K hb) _
theorem wroteN (u : World) (x y : Int) : (wrote u x y).heap[u.heap.size]? = some (.cells #[.int .i64 x, .int .i64 y] 26 (0, 0)) := blk_new u _
theorem wroteB {w W u : World} (hB : Below w.heap.size w W) (hb : Below W.heap.size W u) (x y : Int) : Below w.heap.size w (wrote u x y) := below_alloc (below_then hB hB.size hb) _
def sumCells (f0 f1 f2 : Int × Int) : Nat → Array Value
  | 0 => #[.int .i64 0, .int .i64 0, .int .i64 0, .int .i64 0, .int .i64 0, .int .i64 0]
  | 1 => #[.int .i64 f0.1, .int .i64 f0.2, .int .i64 0, .int .i64 0, .int .i64 0, .int .i64 0]
  | 2 => #[.int .i64 f0.1, .int .i64 f0.2, .int .i64 f1.1, .int .i64 f1.2, .int .i64 0, .int .i64 0]
  | _ => #[.int .i64 f0.1, .int .i64 f0.2, .int .i64 f1.1, .int .i64 f1.2, .int .i64 f2.1, .int .i64 f2.2]
def sumR.T : Bool × List (List Nat × List Nat) := (true, [([], []), ([], []), ([1], [1]), ([2], [2]), ([3], [3]), ([4], [4]), ([5], [5]), ([], []), ([7], [7]), ([8], [8]), ([9], [9]), ([10], [10]), ([11, 5], [11]), ([12], [12]), ([6, 13, 12], [6, 13]), ([0, 0, 1, 2, 3, 4, 5, 6, 7, 8, 9, 10, 11, 12, 13, 14], [0]), ([15, 14, 14, 0, 1, 2, 3, 4, 5, 6, 7, 8, 9, 10, 11, 12, 13, 14], [14, 15])])
def sumR.B : List Nat := [0, 0, 2, 6, 14, 30, 62, 0, 128, 384, 896, 1920, 4030, 8126, 16382, 32767, 65535]
theorem sumR.tab : rtab .any (opsOf Try.f7 5) = sumR.T := by kernel_rfl
theorem sumR.bits : waitsOk sumR.T.2 sumR.B = true := by kernel_rfl

set_option maxHeartbeats 4000000 in
set_option maxRecDepth 100000 in
theorem sums_walk (x0 x1 x2 x3 x4 x5 : Int) (F0 F1 F2 A C X : Int × Int) (hF0 : F0 = sumF x0 x1) (hF1 : F1 = sumF x2 x3) (hF2 : F2 = sumF x4 x5) (s0 : smallB F0.1 F0.2 = true) (s1 : smallB F1.1 F1.2 = true) (s2 : smallB F2.1 F2.2 = true) (sA : smallB A.1 A.2 = true) (sC : smallB C.1 C.2 = true) (sN : smallB (-F0.1) F0.2 = true)
    (e1 : addP F0 F1 = A) (e2 : addP F1 F0 = A) (e3 : addP F1 F2 = C) (e4 : addP A F2 = X) (e5 : addP F0 C = X) (e6 : addP F0 (0, 1) = F0) (e7 : addP F0 (-F0.1, F0.2) = (0, 1)) (w : World) :
    Calls Try.prog 7 #[.agg #[.int .i64 x0, .int .i64 x1, .int .i64 x2, .int .i64 x3, .int .i64 x4, .int .i64 x5]] w fun e w' => e = .returned (.bool true) ∧ Below w.heap.size w w' := by
  have HS := Lib.hid (And.intro s0 (And.intro s1 (And.intro s2 (And.intro sA (And.intro sC sN)))))
  have HE := Lib.hid (And.intro e1 (And.intro e2 (And.intro e3 (And.intro e4 (And.intro e5 (And.intro e6 e7))))))
  have HF := Lib.hid (And.intro hF0 (And.intro hF1 hF2))
  clear s0 s1 s2 sA sC sN e1 e2 e3 e4 e5 e6 e7 hF0 hF1 hF2
  go_enter Try.func7, Try.ntmps7
  go_wp2
  go_loopw [4] (fun i wr => ∃ k : Nat, k ≤ 3 ∧ i = .int .i64 k ∧ wr.heap[w.heap.size]? = some (.cells #[.int .i64 x0, .int .i64 x1, .int .i64 x2, .int .i64 x3, .int .i64 x4, .int .i64 x5] 56 (0, 0)) ∧ wr.heap[w.heap.size + 1]? = some (.cells (sumCells (sumF x0 x1) (sumF x2 x3) (sumF x4 x5) k) 57 (0, 0)) ∧ Below w.heap.size w wr) (fun i _ => 3 - (intOf i).toNat)
  case atStart =>
    refine ⟨0, by omega, rfl, ?_, ?_, ?_⟩
    · exact blk_alloc (blk_new _ _) _
    · have := blk_new (w.alloc (.cells #[.int .i64 x0, .int .i64 x1, .int .i64 x2, .int .i64 x3, .int .i64 x4, .int .i64 x5] 56)) (.cells #[.int .i64 0, .int .i64 0, .int .i64 0, .int .i64 0, .int .i64 0, .int .i64 0] 57)
      rw [World.size_alloc] at this
      exact this
    · exact below_alloc (below_alloc (Below.refl _ _) _) _
  case round =>
    obtain ⟨k, hk, rfl, hk1, hk2, hb⟩ := hrel
    have HK1_0 := Lib.hid hk1
    have HK2_0 := Lib.hid hk2
    have HB0 := Lib.hid hb
    clear hk1 hk2 hb
    have nbf := Lib.hid (show w.heap.size ≠ w.heap.size + 1 by omega)
    by_cases hlt : k < 3
    · obtain rfl | rfl | rfl : k = 0 ∨ k = 1 ∨ k = 2 := by omega
      · have g1 := modF_range x0 1001 (by omega)
        have g2 := modF_range x1 500 (by omega)
        obtain ⟨g11, g12⟩ := g1
        obtain ⟨g21, g22⟩ := g2
        have z1 : wrap64 (modF x0 1001 - 500) = modF x0 1001 - 500 := w64 (by omega) (by omega)
        have z2 : wrap64 (1 + modF x1 500) = 1 + modF x1 500 := w64 (by omega) (by omega)
        have y1 : wrap64 0 = 0 := w64 (by omega) (by omega)
        have y2 : wrap64 1 = 1 := w64 (by omega) (by omega)
        go_wp2
        refine start_ (n := 17) (S := fun w' => w'.cell? ⟨w.heap.size, 0, none⟩ = some (.int .i64 x0) ∧ w'.cell? ⟨w.heap.size, 1, none⟩ = some (.int .i64 x1)) (ds := []) #[false, false, false, false, false, false, false, false, false, false, false, false, false, false, false, false, false] (by kernel_rfl) rfl rfl ⟨blk_cell (blk_drew HK1_0.out) 0, blk_cell (blk_drew HK1_0.out) 1⟩ (fun hHeld => ?_); refine with_tabW sumR.tab sumR.bits (fun HT_ HW_ => ?_)
        refine pure_ (i := 0) (N := (some 23)) (v := ?_) (a' := ?_) #[true, false, false, false, false, false, false, false, false, false, false, false, false, false, false, false, false] rfl rfl (any_of HT_.out (by kernel_rfl)) (fun _ _ _ h => h) (Or.inl ⟨by rfl, ?_⟩) ?_ ?_
        rotate_left
        · intro w'
          go_simp
          with_reducible rfl
        rotate_left
        · simp only [Act.put, List.setIfInBounds_toArray, List.set_cons_zero, List.set_cons_succ, i64_w, i32_w]
          rfl
        refine pure_ (i := 1) (N := (some 24)) (v := ?_) (a' := ?_) #[true, true, false, false, false, false, false, false, false, false, false, false, false, false, false, false, false] rfl rfl (any_of HT_.out (by kernel_rfl)) (fun _ _ _ h => h) (Or.inl ⟨by rfl, ?_⟩) ?_ ?_
        rotate_left
        · intro w'
          go_simp
          with_reducible rfl
        rotate_left
        · simp only [Act.put, List.setIfInBounds_toArray, List.set_cons_zero, List.set_cons_succ, i64_w, i32_w]
          rfl
        refine pure_ (i := 2) (N := (some 25)) (v := ?_) (a' := ?_) #[true, true, true, false, false, false, false, false, false, false, false, false, false, false, false, false, false] rfl rfl (any_of HT_.out (by kernel_rfl)) (fun _ _ _ h => h) (Or.inl ⟨by rfl, ?_⟩) ?_ ?_
        rotate_left
        · intro w'
          go_simp
          with_reducible rfl
        rotate_left
        · simp only [Act.put, List.setIfInBounds_toArray, List.set_cons_zero, List.set_cons_succ, i64_w, i32_w]
          rfl
        refine pure_ (i := 3) (N := (some 26)) (v := ?_) (a' := ?_) #[true, true, true, true, false, false, false, false, false, false, false, false, false, false, false, false, false] rfl rfl (any_of HT_.out (by kernel_rfl)) (fun _ _ _ h => h) (Or.inl ⟨by rfl, ?_⟩) ?_ ?_
        rotate_left
        · intro w'
          go_simp
          with_reducible rfl
        rotate_left
        · simp only [Act.put, List.setIfInBounds_toArray, List.set_cons_zero, List.set_cons_succ, i64_w, i32_w]
          rfl
        refine take_ (i := 4) (N := (some 27)) (v := ?_) (a' := ?_) #[true, true, true, true, true, false, false, false, false, false, false, false, false, false, false, false, false] rfl rfl (take_ofW HT_.out HW_.out (by kernel_rfl)) (fun _ _ _ h => h) (Or.inl ⟨by rfl, ?_⟩) hHeld ?_ ?_
        rotate_left
        · rintro w' ⟨s0, s1⟩
          go_simp
          with_reducible rfl
        rotate_left
        · simp only [Act.put, List.setIfInBounds_toArray, List.set_cons_zero, List.set_cons_succ, i64_w, i32_w]
          rfl
        refine pure_ (i := 7) (N := (some 30)) (v := ?_) (a' := ?_) #[true, true, true, true, true, false, false, true, false, false, false, false, false, false, false, false, false] rfl rfl (any_of HT_.out (by kernel_rfl)) (fun _ _ _ h => h) (Or.inl ⟨by rfl, ?_⟩) ?_ ?_
        rotate_left
        · intro w'
          go_simp
          with_reducible rfl
        rotate_left
        · simp only [Act.put, List.setIfInBounds_toArray, List.set_cons_zero, List.set_cons_succ, i64_w, i32_w]
          rfl
        refine pure_ (i := 8) (N := (some 31)) (v := ?_) (a' := ?_) #[true, true, true, true, true, false, false, true, true, false, false, false, false, false, false, false, false] rfl rfl (any_of HT_.out (by kernel_rfl)) (fun _ _ _ h => h) (Or.inl ⟨by rfl, ?_⟩) ?_ ?_
        rotate_left
        · intro w'
          go_simp
          with_reducible rfl
        rotate_left
        · simp only [Act.put, List.setIfInBounds_toArray, List.set_cons_zero, List.set_cons_succ, i64_w, i32_w]
          rfl
        refine pure_ (i := 9) (N := (some 32)) (v := ?_) (a' := ?_) #[true, true, true, true, true, false, false, true, true, true, false, false, false, false, false, false, false] rfl rfl (any_of HT_.out (by kernel_rfl)) (fun _ _ _ h => h) (Or.inl ⟨by rfl, ?_⟩) ?_ ?_
        rotate_left
        · intro w'
          go_simp
          with_reducible rfl
        rotate_left
        · simp only [Act.put, List.setIfInBounds_toArray, List.set_cons_zero, List.set_cons_succ, i64_w, i32_w]
          rfl
        refine pure_ (i := 10) (N := (some 33)) (v := ?_) (a' := ?_) #[true, true, true, true, true, false, false, true, true, true, true, false, false, false, false, false, false] rfl rfl (any_of HT_.out (by kernel_rfl)) (fun _ _ _ h => h) (Or.inl ⟨by rfl, ?_⟩) ?_ ?_
        rotate_left
        · intro w'
          go_simp
          with_reducible rfl
        rotate_left
        · simp only [Act.put, List.setIfInBounds_toArray, List.set_cons_zero, List.set_cons_succ, i64_w, i32_w]
          rfl
        refine take_ (i := 11) (N := (some 34)) (v := ?_) (a' := ?_) #[true, true, true, true, true, false, false, true, true, true, true, true, false, false, false, false, false] rfl rfl (take_ofW HT_.out HW_.out (by kernel_rfl)) (fun _ _ _ h => h) (Or.inl ⟨by rfl, ?_⟩) hHeld ?_ ?_
        rotate_left
        · rintro w' ⟨s0, s1⟩
          go_simp
          with_reducible rfl
        rotate_left
        · simp only [Act.put, List.setIfInBounds_toArray, List.set_cons_zero, List.set_cons_succ, i64_w, i32_w]
          rfl
        refine one_ (i := 5) (N := some 28) #[true, true, true, true, true, true, false, true, true, true, true, true, false, false, false, false, false] rfl rfl (one_of HT_.out (by kernel_rfl)) (by decide) (fun K hK => ?_)
        refine goes_ Try.func36 (by kernel_rfl) rfl #[.int .i64 x0, .int .i64 1001] (by rfl) rfl rfl (by (try simp only [List.map_toArray, List.map_cons, List.map_nil]); (try go_simp); first | done | rfl | (simp only [List.length_drop, List.length_take]; rfl)) ?_
        refine (numnahlaw03_mod.calls x0 1001 _ _ (mod_eq x0 1001 (by omega) (by omega))).mono ?_
        rintro e v1 ⟨rfl, hd1⟩
        refine ⟨_, rfl, ?_⟩
        have hb1 := Drawn0.below hd1
        have HB1 := Lib.hid (below_then (below_drew HB0.out) HB0.out.size hb1)
        have HK1_1 := Lib.hid (blk_below (blk_drew HK1_0.out) hb1)
        have HK2_1 := Lib.hid (blk_below (blk_drew HK2_0.out) hb1)
        clear hb1 hd1
        refine hK.out _ _ ⟨blk_cell HK1_1.out 0, blk_cell HK1_1.out 1⟩ (fun hHeld => ?_)
        clear hK K
        refine norm_ (a' := ?_) ?_ ?_
        rotate_left
        · show Act.put _ (some 28) _ = _
          simp only [Act.put, List.setIfInBounds_toArray, List.set_cons_zero, List.set_cons_succ, i64_w, i32_w]
          rfl
        refine pure_ (i := 6) (N := (some 29)) (v := ?_) (a' := ?_) #[true, true, true, true, true, true, true, true, true, true, true, true, false, false, false, false, false] rfl rfl (any_of HT_.out (by kernel_rfl)) (fun _ _ _ h => h) (Or.inl ⟨by rfl, ?_⟩) ?_ ?_
        rotate_left
        · intro w'
          go_simp
          with_reducible rfl
        rotate_left
        · simp only [Act.put, List.setIfInBounds_toArray, List.set_cons_zero, List.set_cons_succ, i64_w, i32_w]
          rfl
        refine one_ (i := 12) (N := some 35) #[true, true, true, true, true, true, true, true, true, true, true, true, true, false, false, false, false] rfl rfl (one_of HT_.out (by kernel_rfl)) (by decide) (fun K hK => ?_)
        refine goes_ Try.func36 (by kernel_rfl) rfl #[.int .i64 x1, .int .i64 500] (by rfl) rfl rfl (by (try simp only [List.map_toArray, List.map_cons, List.map_nil]); (try go_simp); first | done | rfl | (simp only [List.length_drop, List.length_take]; rfl)) ?_
        refine (numnahlaw03_mod.calls x1 500 _ _ (mod_eq x1 500 (by omega) (by omega))).mono ?_
        rintro e v2 ⟨rfl, hd2⟩
        refine ⟨_, rfl, ?_⟩
        have hb2 := Drawn0.below hd2
        have HB2 := Lib.hid (below_then HB1.out HB1.out.size hb2)
        have HK1_2 := Lib.hid (blk_below HK1_1.out hb2)
        have HK2_2 := Lib.hid (blk_below HK2_1.out hb2)
        clear hb2 hd2
        refine hK.out _ _ ⟨blk_cell HK1_2.out 0, blk_cell HK1_2.out 1⟩ (fun hHeld => ?_)
        clear hK K
        refine norm_ (a' := ?_) ?_ ?_
        rotate_left
        · show Act.put _ (some 35) _ = _
          simp only [Act.put, List.setIfInBounds_toArray, List.set_cons_zero, List.set_cons_succ, i64_w, i32_w]
          rfl
        refine pure_ (i := 13) (N := (some 36)) (v := ?_) (a' := ?_) #[true, true, true, true, true, true, true, true, true, true, true, true, true, true, false, false, false] rfl rfl (any_of HT_.out (by kernel_rfl)) (fun _ _ _ h => h) (Or.inl ⟨by rfl, ?_⟩) ?_ ?_
        rotate_left
        · intro w'
          go_simp
          with_reducible rfl
        rotate_left
        · simp only [Act.put, List.setIfInBounds_toArray, List.set_cons_zero, List.set_cons_succ, i64_w, i32_w]
          rfl
        refine one_ (i := 14) (N := some 37) #[true, true, true, true, true, true, true, true, true, true, true, true, true, true, true, false, false] rfl rfl (one_of HT_.out (by kernel_rfl)) (by decide) (fun K hK => ?_)
        refine goes_ Try.func28 (by kernel_rfl) rfl #[.int .i64 (modF x0 1001 - 500), .int .i64 (1 + modF x1 500)] (by rfl) rfl rfl (by (try simp only [List.map_toArray, List.map_cons, List.map_nil]); (try go_simp); first | done | rfl | (simp only [List.length_drop, List.length_take]; rfl)) ?_
        refine (sumRed x0 x1 _).mono ?_
        rintro e v3 ⟨rfl, hd3⟩
        refine ⟨_, rfl, ?_⟩
        have hb3 := hd3
        have HB3 := Lib.hid (below_then HB2.out HB2.out.size hb3)
        have HK1_3 := Lib.hid (blk_below HK1_2.out hb3)
        have HK2_3 := Lib.hid (blk_below HK2_2.out hb3)
        clear hb3 hd3
        refine hK.out _ _ ⟨blk_cell HK1_3.out 0, blk_cell HK1_3.out 1⟩ (fun hHeld => ?_)
        clear hK K
        refine norm_ (a' := ?_) ?_ ?_
        rotate_left
        · show Act.put _ (some 37) _ = _
          simp only [Act.put, List.setIfInBounds_toArray, List.set_cons_zero, List.set_cons_succ, i64_w, i32_w]
          rfl
        refine pure_ (i := 15) (N := (some 38)) (v := ?_) (a' := ?_) #[true, true, true, true, true, true, true, true, true, true, true, true, true, true, true, true, false] rfl rfl (any_of HT_.out (by kernel_rfl)) (fun _ _ _ h => h) (Or.inl ⟨by rfl, ?_⟩) ?_ ?_
        rotate_left
        · intro w'
          go_simp
          with_reducible rfl
        rotate_left
        · simp only [Act.put, List.setIfInBounds_toArray, List.set_cons_zero, List.set_cons_succ, i64_w, i32_w]
          rfl
        refine one_ (i := 16) (N := none) #[true, true, true, true, true, true, true, true, true, true, true, true, true, true, true, true, true] rfl rfl (one_of HT_.out (by kernel_rfl)) (by decide) (fun K hK => ?_)
        have q1 := blk_frozen HK2_3.out 0
        have q2 := blk_frozen HK2_3.out 1
        have q3 : v3.cell? ⟨w.heap.size + 1, 0, none⟩ = some (.int .i64 0) := (blk_cell HK2_3.out 0).trans rfl
        have q4 : v3.cell? ⟨w.heap.size + 1, 1, none⟩ = some (.int .i64 0) := (blk_cell HK2_3.out 1).trans rfl
        refine skip_ (w1 := ?_) (by rfl) rfl ?_ ?_
        rotate_left
        · go_simp
          rfl
        refine hK.out _ _ ⟨(cell_far (p := ⟨w.heap.size + 1, _, none⟩) nbf.out _).trans ((cell_far (p := ⟨w.heap.size + 1, _, none⟩) nbf.out _).trans hHeld.1), (cell_far (p := ⟨w.heap.size + 1, _, none⟩) nbf.out _).trans ((cell_far (p := ⟨w.heap.size + 1, _, none⟩) nbf.out _).trans hHeld.2)⟩ (fun hHeld => ?_)
        clear hK K
        refine done_ (done_of HT_.out (by kernel_rfl)) ?_
        go_wp2
        go_roundw
        case rel => exact ⟨1, by omega, rfl, blk_far (blk_far HK1_3.out nbf.out _) nbf.out _, blk_put (blk_put HK2_3.out 0 _ rfl) 1 _ rfl, (HB3.out.setCell (p := ⟨w.heap.size + 1, 0, none⟩) (Nat.le_succ _) _).setCell (p := ⟨w.heap.size + 1, 1, none⟩) (Nat.le_succ _) _⟩
        case measure => simp [intOf]
      · have g1 := modF_range x2 1001 (by omega)
        have g2 := modF_range x3 500 (by omega)
        obtain ⟨g11, g12⟩ := g1
        obtain ⟨g21, g22⟩ := g2
        have z1 : wrap64 (modF x2 1001 - 500) = modF x2 1001 - 500 := w64 (by omega) (by omega)
        have z2 : wrap64 (1 + modF x3 500) = 1 + modF x3 500 := w64 (by omega) (by omega)
        have y1 : wrap64 2 = 2 := w64 (by omega) (by omega)
        have y2 : wrap64 3 = 3 := w64 (by omega) (by omega)
        go_wp2
        refine start_ (n := 17) (S := fun w' => w'.cell? ⟨w.heap.size, 2, none⟩ = some (.int .i64 x2) ∧ w'.cell? ⟨w.heap.size, 3, none⟩ = some (.int .i64 x3)) (ds := []) #[false, false, false, false, false, false, false, false, false, false, false, false, false, false, false, false, false] (by kernel_rfl) rfl rfl ⟨blk_cell (blk_drew HK1_0.out) 2, blk_cell (blk_drew HK1_0.out) 3⟩ (fun hHeld => ?_); refine with_tabW sumR.tab sumR.bits (fun HT_ HW_ => ?_)
        refine pure_ (i := 0) (N := (some 23)) (v := ?_) (a' := ?_) #[true, false, false, false, false, false, false, false, false, false, false, false, false, false, false, false, false] rfl rfl (any_of HT_.out (by kernel_rfl)) (fun _ _ _ h => h) (Or.inl ⟨by rfl, ?_⟩) ?_ ?_
        rotate_left
        · intro w'
          go_simp
          with_reducible rfl
        rotate_left
        · simp only [Act.put, List.setIfInBounds_toArray, List.set_cons_zero, List.set_cons_succ, i64_w, i32_w]
          rfl
        refine pure_ (i := 1) (N := (some 24)) (v := ?_) (a' := ?_) #[true, true, false, false, false, false, false, false, false, false, false, false, false, false, false, false, false] rfl rfl (any_of HT_.out (by kernel_rfl)) (fun _ _ _ h => h) (Or.inl ⟨by rfl, ?_⟩) ?_ ?_
        rotate_left
        · intro w'
          go_simp
          with_reducible rfl
        rotate_left
        · simp only [Act.put, List.setIfInBounds_toArray, List.set_cons_zero, List.set_cons_succ, i64_w, i32_w]
          rfl
        refine pure_ (i := 2) (N := (some 25)) (v := ?_) (a' := ?_) #[true, true, true, false, false, false, false, false, false, false, false, false, false, false, false, false, false] rfl rfl (any_of HT_.out (by kernel_rfl)) (fun _ _ _ h => h) (Or.inl ⟨by rfl, ?_⟩) ?_ ?_
        rotate_left
        · intro w'
          go_simp
          with_reducible rfl
        rotate_left
        · simp only [Act.put, List.setIfInBounds_toArray, List.set_cons_zero, List.set_cons_succ, i64_w, i32_w]
          rfl
        refine pure_ (i := 3) (N := (some 26)) (v := ?_) (a' := ?_) #[true, true, true, true, false, false, false, false, false, false, false, false, false, false, false, false, false] rfl rfl (any_of HT_.out (by kernel_rfl)) (fun _ _ _ h => h) (Or.inl ⟨by rfl, ?_⟩) ?_ ?_
        rotate_left
        · intro w'
          go_simp
          with_reducible rfl
        rotate_left
        · simp only [Act.put, List.setIfInBounds_toArray, List.set_cons_zero, List.set_cons_succ, i64_w, i32_w]
          rfl
        refine take_ (i := 4) (N := (some 27)) (v := ?_) (a' := ?_) #[true, true, true, true, true, false, false, false, false, false, false, false, false, false, false, false, false] rfl rfl (take_ofW HT_.out HW_.out (by kernel_rfl)) (fun _ _ _ h => h) (Or.inl ⟨by rfl, ?_⟩) hHeld ?_ ?_
        rotate_left
        · rintro w' ⟨s0, s1⟩
          go_simp
          with_reducible rfl
        rotate_left
        · simp only [Act.put, List.setIfInBounds_toArray, List.set_cons_zero, List.set_cons_succ, i64_w, i32_w]
          rfl
        refine pure_ (i := 7) (N := (some 30)) (v := ?_) (a' := ?_) #[true, true, true, true, true, false, false, true, false, false, false, false, false, false, false, false, false] rfl rfl (any_of HT_.out (by kernel_rfl)) (fun _ _ _ h => h) (Or.inl ⟨by rfl, ?_⟩) ?_ ?_
        rotate_left
        · intro w'
          go_simp
          with_reducible rfl
        rotate_left
        · simp only [Act.put, List.setIfInBounds_toArray, List.set_cons_zero, List.set_cons_succ, i64_w, i32_w]
          rfl
        refine pure_ (i := 8) (N := (some 31)) (v := ?_) (a' := ?_) #[true, true, true, true, true, false, false, true, true, false, false, false, false, false, false, false, false] rfl rfl (any_of HT_.out (by kernel_rfl)) (fun _ _ _ h => h) (Or.inl ⟨by rfl, ?_⟩) ?_ ?_
        rotate_left
        · intro w'
          go_simp
          with_reducible rfl
        rotate_left
        · simp only [Act.put, List.setIfInBounds_toArray, List.set_cons_zero, List.set_cons_succ, i64_w, i32_w]
          rfl
        refine pure_ (i := 9) (N := (some 32)) (v := ?_) (a' := ?_) #[true, true, true, true, true, false, false, true, true, true, false, false, false, false, false, false, false] rfl rfl (any_of HT_.out (by kernel_rfl)) (fun _ _ _ h => h) (Or.inl ⟨by rfl, ?_⟩) ?_ ?_
        rotate_left
        · intro w'
          go_simp
          with_reducible rfl
        rotate_left
        · simp only [Act.put, List.setIfInBounds_toArray, List.set_cons_zero, List.set_cons_succ, i64_w, i32_w]
          rfl
        refine pure_ (i := 10) (N := (some 33)) (v := ?_) (a' := ?_) #[true, true, true, true, true, false, false, true, true, true, true, false, false, false, false, false, false] rfl rfl (any_of HT_.out (by kernel_rfl)) (fun _ _ _ h => h) (Or.inl ⟨by rfl, ?_⟩) ?_ ?_
        rotate_left
        · intro w'
          go_simp
          with_reducible rfl
        rotate_left
        · simp only [Act.put, List.setIfInBounds_toArray, List.set_cons_zero, List.set_cons_succ, i64_w, i32_w]
          rfl
        refine take_ (i := 11) (N := (some 34)) (v := ?_) (a' := ?_) #[true, true, true, true, true, false, false, true, true, true, true, true, false, false, false, false, false] rfl rfl (take_ofW HT_.out HW_.out (by kernel_rfl)) (fun _ _ _ h => h) (Or.inl ⟨by rfl, ?_⟩) hHeld ?_ ?_
        rotate_left
        · rintro w' ⟨s0, s1⟩
          go_simp
          with_reducible rfl
        rotate_left
        · simp only [Act.put, List.setIfInBounds_toArray, List.set_cons_zero, List.set_cons_succ, i64_w, i32_w]
          rfl
        refine one_ (i := 5) (N := some 28) #[true, true, true, true, true, true, false, true, true, true, true, true, false, false, false, false, false] rfl rfl (one_of HT_.out (by kernel_rfl)) (by decide) (fun K hK => ?_)
        refine goes_ Try.func36 (by kernel_rfl) rfl #[.int .i64 x2, .int .i64 1001] (by rfl) rfl rfl (by (try simp only [List.map_toArray, List.map_cons, List.map_nil]); (try go_simp); first | done | rfl | (simp only [List.length_drop, List.length_take]; rfl)) ?_
        refine (numnahlaw03_mod.calls x2 1001 _ _ (mod_eq x2 1001 (by omega) (by omega))).mono ?_
        rintro e v1 ⟨rfl, hd1⟩
        refine ⟨_, rfl, ?_⟩
        have hb1 := Drawn0.below hd1
        have HB1 := Lib.hid (below_then (below_drew HB0.out) HB0.out.size hb1)
        have HK1_1 := Lib.hid (blk_below (blk_drew HK1_0.out) hb1)
        have HK2_1 := Lib.hid (blk_below (blk_drew HK2_0.out) hb1)
        clear hb1 hd1
        refine hK.out _ _ ⟨blk_cell HK1_1.out 2, blk_cell HK1_1.out 3⟩ (fun hHeld => ?_)
        clear hK K
        refine norm_ (a' := ?_) ?_ ?_
        rotate_left
        · show Act.put _ (some 28) _ = _
          simp only [Act.put, List.setIfInBounds_toArray, List.set_cons_zero, List.set_cons_succ, i64_w, i32_w]
          rfl
        refine pure_ (i := 6) (N := (some 29)) (v := ?_) (a' := ?_) #[true, true, true, true, true, true, true, true, true, true, true, true, false, false, false, false, false] rfl rfl (any_of HT_.out (by kernel_rfl)) (fun _ _ _ h => h) (Or.inl ⟨by rfl, ?_⟩) ?_ ?_
        rotate_left
        · intro w'
          go_simp
          with_reducible rfl
        rotate_left
        · simp only [Act.put, List.setIfInBounds_toArray, List.set_cons_zero, List.set_cons_succ, i64_w, i32_w]
          rfl
        refine one_ (i := 12) (N := some 35) #[true, true, true, true, true, true, true, true, true, true, true, true, true, false, false, false, false] rfl rfl (one_of HT_.out (by kernel_rfl)) (by decide) (fun K hK => ?_)
        refine goes_ Try.func36 (by kernel_rfl) rfl #[.int .i64 x3, .int .i64 500] (by rfl) rfl rfl (by (try simp only [List.map_toArray, List.map_cons, List.map_nil]); (try go_simp); first | done | rfl | (simp only [List.length_drop, List.length_take]; rfl)) ?_
        refine (numnahlaw03_mod.calls x3 500 _ _ (mod_eq x3 500 (by omega) (by omega))).mono ?_
        rintro e v2 ⟨rfl, hd2⟩
        refine ⟨_, rfl, ?_⟩
        have hb2 := Drawn0.below hd2
        have HB2 := Lib.hid (below_then HB1.out HB1.out.size hb2)
        have HK1_2 := Lib.hid (blk_below HK1_1.out hb2)
        have HK2_2 := Lib.hid (blk_below HK2_1.out hb2)
        clear hb2 hd2
        refine hK.out _ _ ⟨blk_cell HK1_2.out 2, blk_cell HK1_2.out 3⟩ (fun hHeld => ?_)
        clear hK K
        refine norm_ (a' := ?_) ?_ ?_
        rotate_left
        · show Act.put _ (some 35) _ = _
          simp only [Act.put, List.setIfInBounds_toArray, List.set_cons_zero, List.set_cons_succ, i64_w, i32_w]
          rfl
        refine pure_ (i := 13) (N := (some 36)) (v := ?_) (a' := ?_) #[true, true, true, true, true, true, true, true, true, true, true, true, true, true, false, false, false] rfl rfl (any_of HT_.out (by kernel_rfl)) (fun _ _ _ h => h) (Or.inl ⟨by rfl, ?_⟩) ?_ ?_
        rotate_left
        · intro w'
          go_simp
          with_reducible rfl
        rotate_left
        · simp only [Act.put, List.setIfInBounds_toArray, List.set_cons_zero, List.set_cons_succ, i64_w, i32_w]
          rfl
        refine one_ (i := 14) (N := some 37) #[true, true, true, true, true, true, true, true, true, true, true, true, true, true, true, false, false] rfl rfl (one_of HT_.out (by kernel_rfl)) (by decide) (fun K hK => ?_)
        refine goes_ Try.func28 (by kernel_rfl) rfl #[.int .i64 (modF x2 1001 - 500), .int .i64 (1 + modF x3 500)] (by rfl) rfl rfl (by (try simp only [List.map_toArray, List.map_cons, List.map_nil]); (try go_simp); first | done | rfl | (simp only [List.length_drop, List.length_take]; rfl)) ?_
        refine (sumRed x2 x3 _).mono ?_
        rintro e v3 ⟨rfl, hd3⟩
        refine ⟨_, rfl, ?_⟩
        have hb3 := hd3
        have HB3 := Lib.hid (below_then HB2.out HB2.out.size hb3)
        have HK1_3 := Lib.hid (blk_below HK1_2.out hb3)
        have HK2_3 := Lib.hid (blk_below HK2_2.out hb3)
        clear hb3 hd3
        refine hK.out _ _ ⟨blk_cell HK1_3.out 2, blk_cell HK1_3.out 3⟩ (fun hHeld => ?_)
        clear hK K
        refine norm_ (a' := ?_) ?_ ?_
        rotate_left
        · show Act.put _ (some 37) _ = _
          simp only [Act.put, List.setIfInBounds_toArray, List.set_cons_zero, List.set_cons_succ, i64_w, i32_w]
          rfl
        refine pure_ (i := 15) (N := (some 38)) (v := ?_) (a' := ?_) #[true, true, true, true, true, true, true, true, true, true, true, true, true, true, true, true, false] rfl rfl (any_of HT_.out (by kernel_rfl)) (fun _ _ _ h => h) (Or.inl ⟨by rfl, ?_⟩) ?_ ?_
        rotate_left
        · intro w'
          go_simp
          with_reducible rfl
        rotate_left
        · simp only [Act.put, List.setIfInBounds_toArray, List.set_cons_zero, List.set_cons_succ, i64_w, i32_w]
          rfl
        refine one_ (i := 16) (N := none) #[true, true, true, true, true, true, true, true, true, true, true, true, true, true, true, true, true] rfl rfl (one_of HT_.out (by kernel_rfl)) (by decide) (fun K hK => ?_)
        have q1 := blk_frozen HK2_3.out 2
        have q2 := blk_frozen HK2_3.out 3
        have q3 : v3.cell? ⟨w.heap.size + 1, 2, none⟩ = some (.int .i64 0) := (blk_cell HK2_3.out 2).trans rfl
        have q4 : v3.cell? ⟨w.heap.size + 1, 3, none⟩ = some (.int .i64 0) := (blk_cell HK2_3.out 3).trans rfl
        refine skip_ (w1 := ?_) (by rfl) rfl ?_ ?_
        rotate_left
        · go_simp
          rfl
        refine hK.out _ _ ⟨(cell_far (p := ⟨w.heap.size + 1, _, none⟩) nbf.out _).trans ((cell_far (p := ⟨w.heap.size + 1, _, none⟩) nbf.out _).trans hHeld.1), (cell_far (p := ⟨w.heap.size + 1, _, none⟩) nbf.out _).trans ((cell_far (p := ⟨w.heap.size + 1, _, none⟩) nbf.out _).trans hHeld.2)⟩ (fun hHeld => ?_)
        clear hK K
        refine done_ (done_of HT_.out (by kernel_rfl)) ?_
        go_wp2
        go_roundw
        case rel => exact ⟨2, by omega, rfl, blk_far (blk_far HK1_3.out nbf.out _) nbf.out _, blk_put (blk_put HK2_3.out 2 _ rfl) 3 _ rfl, (HB3.out.setCell (p := ⟨w.heap.size + 1, 2, none⟩) (Nat.le_succ _) _).setCell (p := ⟨w.heap.size + 1, 3, none⟩) (Nat.le_succ _) _⟩
        case measure => simp [intOf]
      · have g1 := modF_range x4 1001 (by omega)
        have g2 := modF_range x5 500 (by omega)
        obtain ⟨g11, g12⟩ := g1
        obtain ⟨g21, g22⟩ := g2
        have z1 : wrap64 (modF x4 1001 - 500) = modF x4 1001 - 500 := w64 (by omega) (by omega)
        have z2 : wrap64 (1 + modF x5 500) = 1 + modF x5 500 := w64 (by omega) (by omega)
        have y1 : wrap64 4 = 4 := w64 (by omega) (by omega)
        have y2 : wrap64 5 = 5 := w64 (by omega) (by omega)
        go_wp2
        refine start_ (n := 17) (S := fun w' => w'.cell? ⟨w.heap.size, 4, none⟩ = some (.int .i64 x4) ∧ w'.cell? ⟨w.heap.size, 5, none⟩ = some (.int .i64 x5)) (ds := []) #[false, false, false, false, false, false, false, false, false, false, false, false, false, false, false, false, false] (by kernel_rfl) rfl rfl ⟨blk_cell (blk_drew HK1_0.out) 4, blk_cell (blk_drew HK1_0.out) 5⟩ (fun hHeld => ?_); refine with_tabW sumR.tab sumR.bits (fun HT_ HW_ => ?_)
        refine pure_ (i := 0) (N := (some 23)) (v := ?_) (a' := ?_) #[true, false, false, false, false, false, false, false, false, false, false, false, false, false, false, false, false] rfl rfl (any_of HT_.out (by kernel_rfl)) (fun _ _ _ h => h) (Or.inl ⟨by rfl, ?_⟩) ?_ ?_
        rotate_left
        · intro w'
          go_simp
          with_reducible rfl
        rotate_left
        · simp only [Act.put, List.setIfInBounds_toArray, List.set_cons_zero, List.set_cons_succ, i64_w, i32_w]
          rfl
        refine pure_ (i := 1) (N := (some 24)) (v := ?_) (a' := ?_) #[true, true, false, false, false, false, false, false, false, false, false, false, false, false, false, false, false] rfl rfl (any_of HT_.out (by kernel_rfl)) (fun _ _ _ h => h) (Or.inl ⟨by rfl, ?_⟩) ?_ ?_
        rotate_left
        · intro w'
          go_simp
          with_reducible rfl
        rotate_left
        · simp only [Act.put, List.setIfInBounds_toArray, List.set_cons_zero, List.set_cons_succ, i64_w, i32_w]
          rfl
        refine pure_ (i := 2) (N := (some 25)) (v := ?_) (a' := ?_) #[true, true, true, false, false, false, false, false, false, false, false, false, false, false, false, false, false] rfl rfl (any_of HT_.out (by kernel_rfl)) (fun _ _ _ h => h) (Or.inl ⟨by rfl, ?_⟩) ?_ ?_
        rotate_left
        · intro w'
          go_simp
          with_reducible rfl
        rotate_left
        · simp only [Act.put, List.setIfInBounds_toArray, List.set_cons_zero, List.set_cons_succ, i64_w, i32_w]
          rfl
        refine pure_ (i := 3) (N := (some 26)) (v := ?_) (a' := ?_) #[true, true, true, true, false, false, false, false, false, false, false, false, false, false, false, false, false] rfl rfl (any_of HT_.out (by kernel_rfl)) (fun _ _ _ h => h) (Or.inl ⟨by rfl, ?_⟩) ?_ ?_
        rotate_left
        · intro w'
          go_simp
          with_reducible rfl
        rotate_left
        · simp only [Act.put, List.setIfInBounds_toArray, List.set_cons_zero, List.set_cons_succ, i64_w, i32_w]
          rfl
        refine take_ (i := 4) (N := (some 27)) (v := ?_) (a' := ?_) #[true, true, true, true, true, false, false, false, false, false, false, false, false, false, false, false, false] rfl rfl (take_ofW HT_.out HW_.out (by kernel_rfl)) (fun _ _ _ h => h) (Or.inl ⟨by rfl, ?_⟩) hHeld ?_ ?_
        rotate_left
        · rintro w' ⟨s0, s1⟩
          go_simp
          with_reducible rfl
        rotate_left
        · simp only [Act.put, List.setIfInBounds_toArray, List.set_cons_zero, List.set_cons_succ, i64_w, i32_w]
          rfl
        refine pure_ (i := 7) (N := (some 30)) (v := ?_) (a' := ?_) #[true, true, true, true, true, false, false, true, false, false, false, false, false, false, false, false, false] rfl rfl (any_of HT_.out (by kernel_rfl)) (fun _ _ _ h => h) (Or.inl ⟨by rfl, ?_⟩) ?_ ?_
        rotate_left
        · intro w'
          go_simp
          with_reducible rfl
        rotate_left
        · simp only [Act.put, List.setIfInBounds_toArray, List.set_cons_zero, List.set_cons_succ, i64_w, i32_w]
          rfl
        refine pure_ (i := 8) (N := (some 31)) (v := ?_) (a' := ?_) #[true, true, true, true, true, false, false, true, true, false, false, false, false, false, false, false, false] rfl rfl (any_of HT_.out (by kernel_rfl)) (fun _ _ _ h => h) (Or.inl ⟨by rfl, ?_⟩) ?_ ?_
        rotate_left
        · intro w'
          go_simp
          with_reducible rfl
        rotate_left
        · simp only [Act.put, List.setIfInBounds_toArray, List.set_cons_zero, List.set_cons_succ, i64_w, i32_w]
          rfl
        refine pure_ (i := 9) (N := (some 32)) (v := ?_) (a' := ?_) #[true, true, true, true, true, false, false, true, true, true, false, false, false, false, false, false, false] rfl rfl (any_of HT_.out (by kernel_rfl)) (fun _ _ _ h => h) (Or.inl ⟨by rfl, ?_⟩) ?_ ?_
        rotate_left
        · intro w'
          go_simp
          with_reducible rfl
        rotate_left
        · simp only [Act.put, List.setIfInBounds_toArray, List.set_cons_zero, List.set_cons_succ, i64_w, i32_w]
          rfl
        refine pure_ (i := 10) (N := (some 33)) (v := ?_) (a' := ?_) #[true, true, true, true, true, false, false, true, true, true, true, false, false, false, false, false, false] rfl rfl (any_of HT_.out (by kernel_rfl)) (fun _ _ _ h => h) (Or.inl ⟨by rfl, ?_⟩) ?_ ?_
        rotate_left
        · intro w'
          go_simp
          with_reducible rfl
        rotate_left
        · simp only [Act.put, List.setIfInBounds_toArray, List.set_cons_zero, List.set_cons_succ, i64_w, i32_w]
          rfl
        refine take_ (i := 11) (N := (some 34)) (v := ?_) (a' := ?_) #[true, true, true, true, true, false, false, true, true, true, true, true, false, false, false, false, false] rfl rfl (take_ofW HT_.out HW_.out (by kernel_rfl)) (fun _ _ _ h => h) (Or.inl ⟨by rfl, ?_⟩) hHeld ?_ ?_
        rotate_left
        · rintro w' ⟨s0, s1⟩
          go_simp
          with_reducible rfl
        rotate_left
        · simp only [Act.put, List.setIfInBounds_toArray, List.set_cons_zero, List.set_cons_succ, i64_w, i32_w]
          rfl
        refine one_ (i := 5) (N := some 28) #[true, true, true, true, true, true, false, true, true, true, true, true, false, false, false, false, false] rfl rfl (one_of HT_.out (by kernel_rfl)) (by decide) (fun K hK => ?_)
        refine goes_ Try.func36 (by kernel_rfl) rfl #[.int .i64 x4, .int .i64 1001] (by rfl) rfl rfl (by (try simp only [List.map_toArray, List.map_cons, List.map_nil]); (try go_simp); first | done | rfl | (simp only [List.length_drop, List.length_take]; rfl)) ?_
        refine (numnahlaw03_mod.calls x4 1001 _ _ (mod_eq x4 1001 (by omega) (by omega))).mono ?_
        rintro e v1 ⟨rfl, hd1⟩
        refine ⟨_, rfl, ?_⟩
        have hb1 := Drawn0.below hd1
        have HB1 := Lib.hid (below_then (below_drew HB0.out) HB0.out.size hb1)
        have HK1_1 := Lib.hid (blk_below (blk_drew HK1_0.out) hb1)
        have HK2_1 := Lib.hid (blk_below (blk_drew HK2_0.out) hb1)
        clear hb1 hd1
        refine hK.out _ _ ⟨blk_cell HK1_1.out 4, blk_cell HK1_1.out 5⟩ (fun hHeld => ?_)
        clear hK K
        refine norm_ (a' := ?_) ?_ ?_
        rotate_left
        · show Act.put _ (some 28) _ = _
          simp only [Act.put, List.setIfInBounds_toArray, List.set_cons_zero, List.set_cons_succ, i64_w, i32_w]
          rfl
        refine pure_ (i := 6) (N := (some 29)) (v := ?_) (a' := ?_) #[true, true, true, true, true, true, true, true, true, true, true, true, false, false, false, false, false] rfl rfl (any_of HT_.out (by kernel_rfl)) (fun _ _ _ h => h) (Or.inl ⟨by rfl, ?_⟩) ?_ ?_
        rotate_left
        · intro w'
          go_simp
          with_reducible rfl
        rotate_left
        · simp only [Act.put, List.setIfInBounds_toArray, List.set_cons_zero, List.set_cons_succ, i64_w, i32_w]
          rfl
        refine one_ (i := 12) (N := some 35) #[true, true, true, true, true, true, true, true, true, true, true, true, true, false, false, false, false] rfl rfl (one_of HT_.out (by kernel_rfl)) (by decide) (fun K hK => ?_)
        refine goes_ Try.func36 (by kernel_rfl) rfl #[.int .i64 x5, .int .i64 500] (by rfl) rfl rfl (by (try simp only [List.map_toArray, List.map_cons, List.map_nil]); (try go_simp); first | done | rfl | (simp only [List.length_drop, List.length_take]; rfl)) ?_
        refine (numnahlaw03_mod.calls x5 500 _ _ (mod_eq x5 500 (by omega) (by omega))).mono ?_
        rintro e v2 ⟨rfl, hd2⟩
        refine ⟨_, rfl, ?_⟩
        have hb2 := Drawn0.below hd2
        have HB2 := Lib.hid (below_then HB1.out HB1.out.size hb2)
        have HK1_2 := Lib.hid (blk_below HK1_1.out hb2)
        have HK2_2 := Lib.hid (blk_below HK2_1.out hb2)
        clear hb2 hd2
        refine hK.out _ _ ⟨blk_cell HK1_2.out 4, blk_cell HK1_2.out 5⟩ (fun hHeld => ?_)
        clear hK K
        refine norm_ (a' := ?_) ?_ ?_
        rotate_left
        · show Act.put _ (some 35) _ = _
          simp only [Act.put, List.setIfInBounds_toArray, List.set_cons_zero, List.set_cons_succ, i64_w, i32_w]
          rfl
        refine pure_ (i := 13) (N := (some 36)) (v := ?_) (a' := ?_) #[true, true, true, true, true, true, true, true, true, true, true, true, true, true, false, false, false] rfl rfl (any_of HT_.out (by kernel_rfl)) (fun _ _ _ h => h) (Or.inl ⟨by rfl, ?_⟩) ?_ ?_
        rotate_left
        · intro w'
          go_simp
          with_reducible rfl
        rotate_left
        · simp only [Act.put, List.setIfInBounds_toArray, List.set_cons_zero, List.set_cons_succ, i64_w, i32_w]
          rfl
        refine one_ (i := 14) (N := some 37) #[true, true, true, true, true, true, true, true, true, true, true, true, true, true, true, false, false] rfl rfl (one_of HT_.out (by kernel_rfl)) (by decide) (fun K hK => ?_)
        refine goes_ Try.func28 (by kernel_rfl) rfl #[.int .i64 (modF x4 1001 - 500), .int .i64 (1 + modF x5 500)] (by rfl) rfl rfl (by (try simp only [List.map_toArray, List.map_cons, List.map_nil]); (try go_simp); first | done | rfl | (simp only [List.length_drop, List.length_take]; rfl)) ?_
        refine (sumRed x4 x5 _).mono ?_
        rintro e v3 ⟨rfl, hd3⟩
        refine ⟨_, rfl, ?_⟩
        have hb3 := hd3
        have HB3 := Lib.hid (below_then HB2.out HB2.out.size hb3)
        have HK1_3 := Lib.hid (blk_below HK1_2.out hb3)
        have HK2_3 := Lib.hid (blk_below HK2_2.out hb3)
        clear hb3 hd3
        refine hK.out _ _ ⟨blk_cell HK1_3.out 4, blk_cell HK1_3.out 5⟩ (fun hHeld => ?_)
        clear hK K
        refine norm_ (a' := ?_) ?_ ?_
        rotate_left
        · show Act.put _ (some 37) _ = _
          simp only [Act.put, List.setIfInBounds_toArray, List.set_cons_zero, List.set_cons_succ, i64_w, i32_w]
          rfl
        refine pure_ (i := 15) (N := (some 38)) (v := ?_) (a' := ?_) #[true, true, true, true, true, true, true, true, true, true, true, true, true, true, true, true, false] rfl rfl (any_of HT_.out (by kernel_rfl)) (fun _ _ _ h => h) (Or.inl ⟨by rfl, ?_⟩) ?_ ?_
        rotate_left
        · intro w'
          go_simp
          with_reducible rfl
        rotate_left
        · simp only [Act.put, List.setIfInBounds_toArray, List.set_cons_zero, List.set_cons_succ, i64_w, i32_w]
          rfl
        refine one_ (i := 16) (N := none) #[true, true, true, true, true, true, true, true, true, true, true, true, true, true, true, true, true] rfl rfl (one_of HT_.out (by kernel_rfl)) (by decide) (fun K hK => ?_)
        have q1 := blk_frozen HK2_3.out 4
        have q2 := blk_frozen HK2_3.out 5
        have q3 : v3.cell? ⟨w.heap.size + 1, 4, none⟩ = some (.int .i64 0) := (blk_cell HK2_3.out 4).trans rfl
        have q4 : v3.cell? ⟨w.heap.size + 1, 5, none⟩ = some (.int .i64 0) := (blk_cell HK2_3.out 5).trans rfl
        refine skip_ (w1 := ?_) (by rfl) rfl ?_ ?_
        rotate_left
        · go_simp
          rfl
        refine hK.out _ _ ⟨(cell_far (p := ⟨w.heap.size + 1, _, none⟩) nbf.out _).trans ((cell_far (p := ⟨w.heap.size + 1, _, none⟩) nbf.out _).trans hHeld.1), (cell_far (p := ⟨w.heap.size + 1, _, none⟩) nbf.out _).trans ((cell_far (p := ⟨w.heap.size + 1, _, none⟩) nbf.out _).trans hHeld.2)⟩ (fun hHeld => ?_)
        clear hK K
        refine done_ (done_of HT_.out (by kernel_rfl)) ?_
        go_wp2
        go_roundw
        case rel => exact ⟨3, by omega, rfl, blk_far (blk_far HK1_3.out nbf.out _) nbf.out _, blk_put (blk_put HK2_3.out 4 _ rfl) 5 _ rfl, (HB3.out.setCell (p := ⟨w.heap.size + 1, 4, none⟩) (Nat.le_succ _) _).setCell (p := ⟨w.heap.size + 1, 5, none⟩) (Nat.le_succ _) _⟩
        case measure => simp [intOf]
    · obtain rfl : k = 3 := by omega
      have hk2 := HK2_0.out
      rw [← HF.out.1, ← HF.out.2.1, ← HF.out.2.2] at hk2
      have Kf0 := Lib.hid (show wr.heap[w.heap.size + 1]? = some (.cells #[.int .i64 F0.1, .int .i64 F0.2, .int .i64 F1.1, .int .i64 F1.2, .int .i64 F2.1, .int .i64 F2.2] 57 (0, 0)) from hk2)
      have sp := smallB_spec HS.out.1
      have wn : wrap64 (-F0.1) = -F0.1 := w64 (by omega) (by omega)
      clear hk2 HK1_0 HK2_0 HF sp
      have c_Kf_0 := blk_cell Kf0.out 0
      have c_Kf_1 := blk_cell Kf0.out 1
      have c_Kf_2 := blk_cell Kf0.out 2
      have c_Kf_3 := blk_cell Kf0.out 3
      have c_Kf_4 := blk_cell Kf0.out 4
      have c_Kf_5 := blk_cell Kf0.out 5
      go_upto_region 7 with (go_at_call 33; refine (addC F0 F1 A HS.out.1 HS.out.2.1 HE.out.1 _).mono ?_; rintro e u0 ⟨rfl, hb0⟩)
      obtain ⟨W1, hW1⟩ : ∃ W, W = wrote u0 (A.1) (A.2) := ⟨_, rfl⟩
      have hW' := hW1
      unfold wrote at hW'
      rw [← hW']
      clear hW'
      have Kf1 := Lib.hid (show W1.heap[_]? = _ from hW1 ▸ wroteK Kf0.out hb0 _ _)
      have Kr0_1 := Lib.hid (show W1.heap[u0.heap.size]? = some (.cells #[.int .i64 (A.1), .int .i64 (A.2)] 26 (0, 0)) from hW1 ▸ wroteN u0 _ _)
      have HB1 := Lib.hid (show Below w.heap.size w W1 from hW1 ▸ wroteB HB0.out hb0 _ _)
      clear c_Kf_0 c_Kf_1 c_Kf_2 c_Kf_3 c_Kf_4 c_Kf_5
      obtain ⟨b0, hbn⟩ : ∃ b, b = u0.heap.size := ⟨_, rfl⟩
      rw [← hbn] at Kr0_1 ⊢
      clear hbn hW1 hb0
      have c_Kf_0 := blk_cell Kf1.out 0
      have c_Kf_1 := blk_cell Kf1.out 1
      have c_Kf_2 := blk_cell Kf1.out 2
      have c_Kf_3 := blk_cell Kf1.out 3
      have c_Kf_4 := blk_cell Kf1.out 4
      have c_Kf_5 := blk_cell Kf1.out 5
      have c_Kr0__0 := blk_cell Kr0_1.out 0
      have c_Kr0__1 := blk_cell Kr0_1.out 1
      go_upto_region 8 with (go_at_call 33; refine (addC F1 F0 A HS.out.2.1 HS.out.1 HE.out.2.1 _).mono ?_; rintro e u1 ⟨rfl, hb1⟩)
      obtain ⟨W2, hW2⟩ : ∃ W, W = wrote u1 (A.1) (A.2) := ⟨_, rfl⟩
      have hW' := hW2
      unfold wrote at hW'
      rw [← hW']
      clear hW'
      have Kf2 := Lib.hid (show W2.heap[_]? = _ from hW2 ▸ wroteK Kf1.out hb1 _ _)
      have Kr0_2 := Lib.hid (show W2.heap[_]? = _ from hW2 ▸ wroteK Kr0_1.out hb1 _ _)
      have Kr1_2 := Lib.hid (show W2.heap[u1.heap.size]? = some (.cells #[.int .i64 (A.1), .int .i64 (A.2)] 26 (0, 0)) from hW2 ▸ wroteN u1 _ _)
      have HB2 := Lib.hid (show Below w.heap.size w W2 from hW2 ▸ wroteB HB1.out hb1 _ _)
      clear c_Kf_0 c_Kf_1 c_Kf_2 c_Kf_3 c_Kf_4 c_Kf_5 c_Kr0__0 c_Kr0__1
      obtain ⟨b1, hbn⟩ : ∃ b, b = u1.heap.size := ⟨_, rfl⟩
      rw [← hbn] at Kr1_2 ⊢
      clear hbn hW2 hb1
      have c_Kf_0 := blk_cell Kf2.out 0
      have c_Kf_1 := blk_cell Kf2.out 1
      have c_Kf_2 := blk_cell Kf2.out 2
      have c_Kf_3 := blk_cell Kf2.out 3
      have c_Kf_4 := blk_cell Kf2.out 4
      have c_Kf_5 := blk_cell Kf2.out 5
      have c_Kr0__0 := blk_cell Kr0_2.out 0
      have c_Kr0__1 := blk_cell Kr0_2.out 1
      have c_Kr1__0 := blk_cell Kr1_2.out 0
      have c_Kr1__1 := blk_cell Kr1_2.out 1
      go_upto_region 9 with (go_at_call 33; refine (addC F1 F2 C HS.out.2.1 HS.out.2.2.1 HE.out.2.2.1 _).mono ?_; rintro e u2 ⟨rfl, hb2⟩)
      obtain ⟨W3, hW3⟩ : ∃ W, W = wrote u2 (C.1) (C.2) := ⟨_, rfl⟩
      have hW' := hW3
      unfold wrote at hW'
      rw [← hW']
      clear hW'
      have Kf3 := Lib.hid (show W3.heap[_]? = _ from hW3 ▸ wroteK Kf2.out hb2 _ _)
      have Kr0_3 := Lib.hid (show W3.heap[_]? = _ from hW3 ▸ wroteK Kr0_2.out hb2 _ _)
      have Kr1_3 := Lib.hid (show W3.heap[_]? = _ from hW3 ▸ wroteK Kr1_2.out hb2 _ _)
      have Kr2_3 := Lib.hid (show W3.heap[u2.heap.size]? = some (.cells #[.int .i64 (C.1), .int .i64 (C.2)] 26 (0, 0)) from hW3 ▸ wroteN u2 _ _)
      have HB3 := Lib.hid (show Below w.heap.size w W3 from hW3 ▸ wroteB HB2.out hb2 _ _)
      clear c_Kf_0 c_Kf_1 c_Kf_2 c_Kf_3 c_Kf_4 c_Kf_5 c_Kr0__0 c_Kr0__1 c_Kr1__0 c_Kr1__1
      obtain ⟨b2, hbn⟩ : ∃ b, b = u2.heap.size := ⟨_, rfl⟩
      rw [← hbn] at Kr2_3 ⊢
      clear hbn hW3 hb2
      have c_Kf_0 := blk_cell Kf3.out 0
      have c_Kf_1 := blk_cell Kf3.out 1
      have c_Kf_2 := blk_cell Kf3.out 2
      have c_Kf_3 := blk_cell Kf3.out 3
      have c_Kf_4 := blk_cell Kf3.out 4
      have c_Kf_5 := blk_cell Kf3.out 5
      have c_Kr0__0 := blk_cell Kr0_3.out 0
      have c_Kr0__1 := blk_cell Kr0_3.out 1
      have c_Kr1__0 := blk_cell Kr1_3.out 0
      have c_Kr1__1 := blk_cell Kr1_3.out 1
      have c_Kr2__0 := blk_cell Kr2_3.out 0
      have c_Kr2__1 := blk_cell Kr2_3.out 1
      go_upto_region 10 with (go_at_call 33; refine (addC A F2 X HS.out.2.2.2.1 HS.out.2.2.1 HE.out.2.2.2.1 _).mono ?_; rintro e u3 ⟨rfl, hb3⟩)
      obtain ⟨W4, hW4⟩ : ∃ W, W = wrote u3 (X.1) (X.2) := ⟨_, rfl⟩
      have hW' := hW4
      unfold wrote at hW'
      rw [← hW']
      clear hW'
      have Kf4 := Lib.hid (show W4.heap[_]? = _ from hW4 ▸ wroteK Kf3.out hb3 _ _)
      have Kr0_4 := Lib.hid (show W4.heap[_]? = _ from hW4 ▸ wroteK Kr0_3.out hb3 _ _)
      have Kr1_4 := Lib.hid (show W4.heap[_]? = _ from hW4 ▸ wroteK Kr1_3.out hb3 _ _)
      have Kr2_4 := Lib.hid (show W4.heap[_]? = _ from hW4 ▸ wroteK Kr2_3.out hb3 _ _)
      have Kr3_4 := Lib.hid (show W4.heap[u3.heap.size]? = some (.cells #[.int .i64 (X.1), .int .i64 (X.2)] 26 (0, 0)) from hW4 ▸ wroteN u3 _ _)
      have HB4 := Lib.hid (show Below w.heap.size w W4 from hW4 ▸ wroteB HB3.out hb3 _ _)
      clear c_Kf_0 c_Kf_1 c_Kf_2 c_Kf_3 c_Kf_4 c_Kf_5 c_Kr0__0 c_Kr0__1 c_Kr1__0 c_Kr1__1 c_Kr2__0 c_Kr2__1
      obtain ⟨b3, hbn⟩ : ∃ b, b = u3.heap.size := ⟨_, rfl⟩
      rw [← hbn] at Kr3_4 ⊢
      clear hbn hW4 hb3
      have c_Kf_0 := blk_cell Kf4.out 0
      have c_Kf_1 := blk_cell Kf4.out 1
      have c_Kf_2 := blk_cell Kf4.out 2
      have c_Kf_3 := blk_cell Kf4.out 3
      have c_Kf_4 := blk_cell Kf4.out 4
      have c_Kf_5 := blk_cell Kf4.out 5
      have c_Kr0__0 := blk_cell Kr0_4.out 0
      have c_Kr0__1 := blk_cell Kr0_4.out 1
      have c_Kr1__0 := blk_cell Kr1_4.out 0
      have c_Kr1__1 := blk_cell Kr1_4.out 1
      have c_Kr2__0 := blk_cell Kr2_4.out 0
      have c_Kr2__1 := blk_cell Kr2_4.out 1
      have c_Kr3__0 := blk_cell Kr3_4.out 0
      have c_Kr3__1 := blk_cell Kr3_4.out 1
      go_upto_region 11 with (go_at_call 33; refine (addC F0 C X HS.out.1 HS.out.2.2.2.2.1 HE.out.2.2.2.2.1 _).mono ?_; rintro e u4 ⟨rfl, hb4⟩)
      obtain ⟨W5, hW5⟩ : ∃ W, W = wrote u4 (X.1) (X.2) := ⟨_, rfl⟩
      have hW' := hW5
      unfold wrote at hW'
      rw [← hW']
      clear hW'
      have Kf5 := Lib.hid (show W5.heap[_]? = _ from hW5 ▸ wroteK Kf4.out hb4 _ _)
      have Kr0_5 := Lib.hid (show W5.heap[_]? = _ from hW5 ▸ wroteK Kr0_4.out hb4 _ _)
      have Kr1_5 := Lib.hid (show W5.heap[_]? = _ from hW5 ▸ wroteK Kr1_4.out hb4 _ _)
      have Kr2_5 := Lib.hid (show W5.heap[_]? = _ from hW5 ▸ wroteK Kr2_4.out hb4 _ _)
      have Kr3_5 := Lib.hid (show W5.heap[_]? = _ from hW5 ▸ wroteK Kr3_4.out hb4 _ _)
      have Kr4_5 := Lib.hid (show W5.heap[u4.heap.size]? = some (.cells #[.int .i64 (X.1), .int .i64 (X.2)] 26 (0, 0)) from hW5 ▸ wroteN u4 _ _)
      have HB5 := Lib.hid (show Below w.heap.size w W5 from hW5 ▸ wroteB HB4.out hb4 _ _)
      clear c_Kf_0 c_Kf_1 c_Kf_2 c_Kf_3 c_Kf_4 c_Kf_5 c_Kr0__0 c_Kr0__1 c_Kr1__0 c_Kr1__1 c_Kr2__0 c_Kr2__1 c_Kr3__0 c_Kr3__1
      obtain ⟨b4, hbn⟩ : ∃ b, b = u4.heap.size := ⟨_, rfl⟩
      rw [← hbn] at Kr4_5 ⊢
      clear hbn hW5 hb4
      have c_Kf_0 := blk_cell Kf5.out 0
      have c_Kf_1 := blk_cell Kf5.out 1
      have c_Kf_2 := blk_cell Kf5.out 2
      have c_Kf_3 := blk_cell Kf5.out 3
      have c_Kf_4 := blk_cell Kf5.out 4
      have c_Kf_5 := blk_cell Kf5.out 5
      have c_Kr0__0 := blk_cell Kr0_5.out 0
      have c_Kr0__1 := blk_cell Kr0_5.out 1
      have c_Kr1__0 := blk_cell Kr1_5.out 0
      have c_Kr1__1 := blk_cell Kr1_5.out 1
      have c_Kr2__0 := blk_cell Kr2_5.out 0
      have c_Kr2__1 := blk_cell Kr2_5.out 1
      have c_Kr3__0 := blk_cell Kr3_5.out 0
      have c_Kr3__1 := blk_cell Kr3_5.out 1
      have c_Kr4__0 := blk_cell Kr4_5.out 0
      have c_Kr4__1 := blk_cell Kr4_5.out 1
      go_upto_region 12 with (go_at_call 33; refine (addC F0 (0, 1) F0 HS.out.1 (by decide) HE.out.2.2.2.2.2.1 _).mono ?_; rintro e u5 ⟨rfl, hb5⟩)
      obtain ⟨W6, hW6⟩ : ∃ W, W = wrote u5 (F0.1) (F0.2) := ⟨_, rfl⟩
      have hW' := hW6
      unfold wrote at hW'
      rw [← hW']
      clear hW'
      have Kf6 := Lib.hid (show W6.heap[_]? = _ from hW6 ▸ wroteK Kf5.out hb5 _ _)
      have Kr0_6 := Lib.hid (show W6.heap[_]? = _ from hW6 ▸ wroteK Kr0_5.out hb5 _ _)
      have Kr1_6 := Lib.hid (show W6.heap[_]? = _ from hW6 ▸ wroteK Kr1_5.out hb5 _ _)
      have Kr2_6 := Lib.hid (show W6.heap[_]? = _ from hW6 ▸ wroteK Kr2_5.out hb5 _ _)
      have Kr3_6 := Lib.hid (show W6.heap[_]? = _ from hW6 ▸ wroteK Kr3_5.out hb5 _ _)
      have Kr4_6 := Lib.hid (show W6.heap[_]? = _ from hW6 ▸ wroteK Kr4_5.out hb5 _ _)
      have Kr5_6 := Lib.hid (show W6.heap[u5.heap.size]? = some (.cells #[.int .i64 (F0.1), .int .i64 (F0.2)] 26 (0, 0)) from hW6 ▸ wroteN u5 _ _)
      have HB6 := Lib.hid (show Below w.heap.size w W6 from hW6 ▸ wroteB HB5.out hb5 _ _)
      clear c_Kf_0 c_Kf_1 c_Kf_2 c_Kf_3 c_Kf_4 c_Kf_5 c_Kr0__0 c_Kr0__1 c_Kr1__0 c_Kr1__1 c_Kr2__0 c_Kr2__1 c_Kr3__0 c_Kr3__1 c_Kr4__0 c_Kr4__1
      obtain ⟨b5, hbn⟩ : ∃ b, b = u5.heap.size := ⟨_, rfl⟩
      rw [← hbn] at Kr5_6 ⊢
      clear hbn hW6 hb5
      have c_Kf_0 := blk_cell Kf6.out 0
      have c_Kf_1 := blk_cell Kf6.out 1
      have c_Kf_2 := blk_cell Kf6.out 2
      have c_Kf_3 := blk_cell Kf6.out 3
      have c_Kf_4 := blk_cell Kf6.out 4
      have c_Kf_5 := blk_cell Kf6.out 5
      have c_Kr0__0 := blk_cell Kr0_6.out 0
      have c_Kr0__1 := blk_cell Kr0_6.out 1
      have c_Kr1__0 := blk_cell Kr1_6.out 0
      have c_Kr1__1 := blk_cell Kr1_6.out 1
      have c_Kr2__0 := blk_cell Kr2_6.out 0
      have c_Kr2__1 := blk_cell Kr2_6.out 1
      have c_Kr3__0 := blk_cell Kr3_6.out 0
      have c_Kr3__1 := blk_cell Kr3_6.out 1
      have c_Kr4__0 := blk_cell Kr4_6.out 0
      have c_Kr4__1 := blk_cell Kr4_6.out 1
      have c_Kr5__0 := blk_cell Kr5_6.out 0
      have c_Kr5__1 := blk_cell Kr5_6.out 1
      go_upto_region 13 with (go_at_call 33; refine (addC F0 (-F0.1, F0.2) (0, 1) HS.out.1 HS.out.2.2.2.2.2 HE.out.2.2.2.2.2.2 _).mono ?_; rintro e u6 ⟨rfl, hb6⟩)
      obtain ⟨W7, hW7⟩ : ∃ W, W = wrote u6 (0) (1) := ⟨_, rfl⟩
      have hW' := hW7
      unfold wrote at hW'
      rw [← hW']
      clear hW'
      have Kf7 := Lib.hid (show W7.heap[_]? = _ from hW7 ▸ wroteK Kf6.out hb6 _ _)
      have Kr0_7 := Lib.hid (show W7.heap[_]? = _ from hW7 ▸ wroteK Kr0_6.out hb6 _ _)
      have Kr1_7 := Lib.hid (show W7.heap[_]? = _ from hW7 ▸ wroteK Kr1_6.out hb6 _ _)
      have Kr2_7 := Lib.hid (show W7.heap[_]? = _ from hW7 ▸ wroteK Kr2_6.out hb6 _ _)
      have Kr3_7 := Lib.hid (show W7.heap[_]? = _ from hW7 ▸ wroteK Kr3_6.out hb6 _ _)
      have Kr4_7 := Lib.hid (show W7.heap[_]? = _ from hW7 ▸ wroteK Kr4_6.out hb6 _ _)
      have Kr5_7 := Lib.hid (show W7.heap[_]? = _ from hW7 ▸ wroteK Kr5_6.out hb6 _ _)
      have Kr6_7 := Lib.hid (show W7.heap[u6.heap.size]? = some (.cells #[.int .i64 (0), .int .i64 (1)] 26 (0, 0)) from hW7 ▸ wroteN u6 _ _)
      have HB7 := Lib.hid (show Below w.heap.size w W7 from hW7 ▸ wroteB HB6.out hb6 _ _)
      clear c_Kf_0 c_Kf_1 c_Kf_2 c_Kf_3 c_Kf_4 c_Kf_5 c_Kr0__0 c_Kr0__1 c_Kr1__0 c_Kr1__1 c_Kr2__0 c_Kr2__1 c_Kr3__0 c_Kr3__1 c_Kr4__0 c_Kr4__1 c_Kr5__0 c_Kr5__1
      obtain ⟨b6, hbn⟩ : ∃ b, b = u6.heap.size := ⟨_, rfl⟩
      rw [← hbn] at Kr6_7 ⊢
      clear hbn hW7 hb6
      have c_Kf_0 := blk_cell Kf7.out 0
      have c_Kf_1 := blk_cell Kf7.out 1
      have c_Kf_2 := blk_cell Kf7.out 2
      have c_Kf_3 := blk_cell Kf7.out 3
      have c_Kf_4 := blk_cell Kf7.out 4
      have c_Kf_5 := blk_cell Kf7.out 5
      have c_Kr0__0 := blk_cell Kr0_7.out 0
      have c_Kr0__1 := blk_cell Kr0_7.out 1
      have c_Kr1__0 := blk_cell Kr1_7.out 0
      have c_Kr1__1 := blk_cell Kr1_7.out 1
      have c_Kr2__0 := blk_cell Kr2_7.out 0
      have c_Kr2__1 := blk_cell Kr2_7.out 1
      have c_Kr3__0 := blk_cell Kr3_7.out 0
      have c_Kr3__1 := blk_cell Kr3_7.out 1
      have c_Kr4__0 := blk_cell Kr4_7.out 0
      have c_Kr4__1 := blk_cell Kr4_7.out 1
      have c_Kr5__0 := blk_cell Kr5_7.out 0
      have c_Kr5__1 := blk_cell Kr5_7.out 1
      have c_Kr6__0 := blk_cell Kr6_7.out 0
      have c_Kr6__1 := blk_cell Kr6_7.out 1
      go_wp2_with (go_at_call 22; refine (awake_any _).mono ?_; rintro e u9 ⟨rfl, hb9⟩)
      go_ret
      exact ⟨rfl, below_then HB7.out HB7.out.size hb9⟩
end Go.Proofs.Ythngclneffngbaa.Pr
