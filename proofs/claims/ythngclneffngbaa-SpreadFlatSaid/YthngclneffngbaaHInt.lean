import Derived.Test.YthngclneffngbaaHDev
import Derived.Deep.RegionHeld3
namespace Go.Proofs.Ythngclneffngbaa.Pr
open Go.RowKit Go.Proofs.YthngclneffngbaaW.PrintWords Go.Proofs.YthngclneffngbaaW.PrintLast Go.Proofs.YthngclneffngbaaW.PrintMore
set_option linter.unusedVariables false
set_option linter.unusedSimpArgs false

/-- one row of intervals: those that begin at a, the first k of them -/
def rowW (s n : Int) (f : Int → Int) (a : Int) (acc : Int × Int × Int) : Nat → Int × Int × Int
  | 0 => acc
  | k + 1 => if (rowW s n f a acc k).1 < offL s n (f (a + 1 + k) - f a) (1 + k) then (offL s n (f (a + 1 + k) - f a) (1 + k), a, a + 1 + k) else rowW s n f a acc k
/-- the first rows -/
def intW (s n : Int) (f : Int → Int) : Nat → Int × Int × Int
  | 0 => (-1, 0, 0)
  | k + 1 => rowW s n f k (intW s n f k) (s - k).toNat
theorem rowW_bound (s : Int) (l : List Int) (a : Int) (acc : Int × Int × Int) (h1 : 0 ≤ s ∧ s ≤ 1000) (h2 : l.length ≤ 60) (ha : 0 ≤ a) (hacc : -1 ≤ acc.1 ∧ acc.1 ≤ 200000) : ∀ k : Nat, (k : Int) ≤ s - a → -1 ≤ (rowW s l.length (cnt l) a acc k).1 ∧ (rowW s l.length (cnt l) a acc k).1 ≤ 200000
  | 0, _ => hacc
  | k + 1, hk => by
    have ih := rowW_bound s l a acc h1 h2 ha hacc k (by omega)
    rw [rowW]
    split
    · have c1 := cnt_le l a
      have c2 := cnt_le l (a + 1 + k)
      have c3 : cnt l a ≤ cnt l (a + 1 + k) := by
        unfold cnt
        have : (l.filter (fun x => decide (x < a))).length ≤ (l.filter (fun x => decide (x < a + 1 + k))).length := by
          rw [← List.countP_eq_length_filter, ← List.countP_eq_length_filter]
          exact List.countP_mono_left (fun x _ h => by simp at h ⊢; omega)
        omega
      have := offL_bound s l.length (cnt l (a + 1 + k) - cnt l a) (1 + k) h1 (by omega) (by omega) (by omega)
      dsimp only
      omega
    · exact ih
theorem intW_bound (s : Int) (l : List Int) (h1 : 0 ≤ s ∧ s ≤ 1000) (h2 : l.length ≤ 60) : ∀ k : Nat, (k : Int) ≤ s → -1 ≤ (intW s l.length (cnt l) k).1 ∧ (intW s l.length (cnt l) k).1 ≤ 200000
  | 0, _ => by simp [intW]
  | k + 1, hk => by
    rw [intW]
    exact rowW_bound s l k _ h1 h2 (by omega) (intW_bound s l h1 h2 k (by omega)) _ (by omega)
def spread_Interval.f (a0 : Int) (l1 : List Int) : Option (Int × Int × Int × Int × Int) :=
  if okLine a0 l1 = true then some ((redF (intW a0 l1.length (cnt l1) a0.toNat).1 (l1.length * a0)).1, (redF (intW a0 l1.length (cnt l1) a0.toNat).1 (l1.length * a0)).2,
    (intW a0 l1.length (cnt l1) a0.toNat).2.1, (intW a0 l1.length (cnt l1) a0.toNat).2.2, 0)
  else some (0, 0, 0, 0, 2)
theorem results_cct {P : Program} {fn : Func} {p p' u : Tmp} {ty ty' : TypeId} (h : fn.results = #[.cell p ty, .cell p' ty', .tmp u]) (tmps : Array Value) (w : World) (g g' : Nat) (t t' : TypeId) (cs cs' : Array Value) (fr fr' : Nat × Nat) (d d' : TypeDesc)
    (hp : tmps.getD p undef = .pointer (some ⟨g, 0, none⟩)) (hp2 : tmps.getD p' undef = .pointer (some ⟨g', 0, none⟩)) (hg : w.heap[g]? = some (.cells cs t fr)) (hg2 : w.heap[g']? = some (.cells cs' t' fr'))
    (hu : P.underlying ty = some d) (hu2 : P.underlying ty' = some d') (hd : (match d with | .struct _ | .array _ _ => true | _ => false) = true) (hd2 : (match d' with | .struct _ | .array _ _ => true | _ => false) = true) (hi : (P.info? ty).map (·.size) = some cs.size) (hi2 : (P.info? ty').map (·.size) = some cs'.size) :
    (results fn tmps).run P w = .ok (.tuple #[.agg cs, .agg cs', tmps.getD u undef]) w := by
  have hp' : tmps[p]?.getD undef = .pointer (some ⟨g, 0, none⟩) := by simpa using hp
  have hp2' : tmps[p']?.getD undef = .pointer (some ⟨g', 0, none⟩) := by simpa using hp2
  simp [results, h, hp', hp2', asAddr, run_loadVar_row w g t ty cs fr d hg hu hd hi, run_loadVar_row w g' t' ty' cs' fr' d' hg2 hu2 hd2 hi2]
theorem zero2 (w : World) (t : TypeId) : (w.alloc (.cells #[.int .i64 0, .int .i64 0] t)).heap[w.heap.size]? = some (.cells #[.int .i64 0, .int .i64 0] t (0, 0)) := blk_new w _

theorem w64 {x : Int} (h1 : -9223372036854775808 ≤ x) (h2 : x ≤ 9223372036854775807) : wrap64 x = x := wr h1 h2
def intR.T : Bool × List (List Nat × List Nat) := (true, [([], []), ([], []), ([1], [1]), ([2], [2]), ([3], [3]), ([], []), ([4, 5], [4, 5]), ([0, 6], [0, 6]), ([], []), ([7, 7, 0, 1, 2, 3, 4, 5, 6, 7], [7]), ([8, 9, 0, 1, 2, 3, 4, 5, 6, 7, 8, 9], [8]), ([10, 0, 1, 2, 3, 4, 5, 6, 7, 8, 9, 10], [])])
def intR.B : List Nat := [0, 0, 2, 6, 14, 0, 62, 127, 0, 255, 1023, 2047]
theorem intR.tab : rtab .any (opsOf Try.f43 16) = intR.T := by kernel_rfl
theorem intR.bits : waitsOk intR.T.2 intR.B = true := by kernel_rfl
def RI (P : Int × Int × Int) (w1 : World) (m : Value) (wr : World) : Prop :=
  m = .int .i64 P.1 ∧ wr.heap[w1.heap.size]? = some (.cells #[.int .i64 P.2.1, .int .i64 P.2.2] 50 (0, 0)) ∧ Below w1.heap.size w1 wr
theorem off_quiet (b : Nat) (s n c t : Int) (f : Nat → Int) (w0 : World) (m : Nat) (hL : LineAt w0 b s n f) (h1 : 0 ≤ s ∧ s ≤ 1000) (h2 : 0 ≤ n ∧ n ≤ 60) (h3 : -60 ≤ c ∧ c ≤ 60) (h4 : 0 ≤ t ∧ t ≤ 1000) :
    Calls Try.prog 67 #[.pointer (some ⟨b, 0, none⟩), .int .i64 c, .int .i64 t] (w0.drewN m) fun e w' => e = .returned (.int .i64 (offL s n c t)) ∧ ∃ k, w' = (w0.drewN m).drewN k := by
  refine (off_any b s n c t _ f w0 _ hL ⟨⟨m, rfl⟩⟩ h1 h2 h3 h4 rfl).mono ?_
  rintro e w' ⟨rfl, ⟨k, rfl⟩⟩
  exact ⟨rfl, k, rfl⟩

set_option maxHeartbeats 4000000 in
set_option maxRecDepth 100000 in
theorem spread_Interval.calls (a0 : Int) (A1 : Option Addr) (c1 : Nat) (l1 : List Int) (r1 r2 r3 r4 r5 : Int) (w : World) (hr1 : Kd.C (Kd.int .i64) w A1 l1.length l1) (hc1 : l1.length ≤ c1) (h : spread_Interval.f a0 l1 = some (r1, r2, r3, r4, r5)) :
    Calls Try.prog 43 #[.int .i64 a0, .slice A1 l1.length c1] w fun e w' => e = .returned (.tuple #[.agg #[.int .i64 r1, .int .i64 r2], .agg #[.int .i64 r3, .int .i64 r4], .int .i64 r5]) ∧ Below w.heap.size w w' := by
  have HR := Lib.hid hr1
  clear hr1
  unfold spread_Interval.f at h
  by_cases ok : okLine a0 l1 = true
  · rw [if_pos ok] at h
    simp only [Option.some.injEq, Prod.mk.injEq] at h
    obtain ⟨rfl, rfl, rfl, rfl, rfl⟩ := h
    obtain ⟨b1, b2, b3, b4⟩ := okLine_bounds ok
    have OK := Lib.hid ok
    clear ok
    go_enter Try.func43, Try.ntmps43
    go_wp2_with (go_at_call 56; refine (newLine_any _ _ _ l1 _ (Kd.C_alloc (Kd.C_alloc HR.out _) _) hc1).mono ?_; rintro e w1 ⟨hb, ⟨hf, _⟩ | ⟨hf, b, hbl, rfl, hL⟩⟩; (exact absurd OK.out (by rw [hf]; simp)); have HB := Lib.hid hb; clear hb hf; have HL := Lib.hid hL; clear hL; have hbk := blk_below (blk_alloc (zero2 w 26) (.cells #[.int .i64 0, .int .i64 0] 50)) HB.out; have HK := Lib.hid hbk; clear hbk; have hbk := blk_below (zero2 (w.alloc (.cells #[.int .i64 0, .int .i64 0] 26)) 50) HB.out; have HK2 := Lib.hid hbk; clear hbk)
    obtain ⟨n, hn⟩ : ∃ n : Int, n = l1.length := ⟨_, rfl⟩
    have hnb : 1 ≤ n ∧ n ≤ 60 := by omega
    go_loopw [9, 25] (fun m i wr => ∃ k : Int, 0 ≤ k ∧ k ≤ a0 ∧ i = .int .i64 k ∧ RI (intW a0 l1.length (cnt l1) k.toNat) w1 m wr) (fun _ i _ => a0.toNat - (intOf i).toNat)
    case atStart => exact ⟨0, by omega, by omega, rfl, rfl, zero2 w1 50, below_alloc (Below.refl _ _) _⟩
    case round =>
      obtain ⟨a, ha0, ha1, rfl, rfl, hat, hbl1⟩ := hrel
      have HA := Lib.hid hat
      have HB1 := Lib.hid hbl1
      clear hat hbl1
      by_cases hlt : a < a0
      · obtain ⟨acc, hacc⟩ : ∃ acc, acc = intW a0 l1.length (cnt l1) a.toNat := ⟨_, rfl⟩
        rw [← hacc] at HA ⊢
        have HAC := Lib.hid hacc
        clear hacc
        have hw1 : wrap64 (a + 1) = a + 1 := w64 (by omega) (by omega)
        go_wp2
        obtain ⟨wo, hwo⟩ : ∃ wo : World, wo = wr := ⟨_, rfl⟩
        rw [← hwo] at HA HB1 ⊢
        clear hwo
        go_loopw [9, 12] (fun m tv w2 => ∃ k : Int, 0 ≤ k ∧ k ≤ a0 - a ∧ tv = .int .i64 (a + 1 + k) ∧ RI (rowW a0 l1.length (cnt l1) a acc k.toNat) w1 m w2) (fun _ tv _ => (a0 + 1).toNat - (intOf tv).toNat)
        case atStart => exact ⟨0, by omega, by omega, by simp, rfl, HA.out, HB1.out⟩
        case round =>
          obtain ⟨k, hk0, hk1, rfl, rfl, hat, hbl2⟩ := hrel
          have HA2 := Lib.hid hat
          have HB2 := Lib.hid hbl2
          clear hat hbl2
          by_cases htl : a + 1 + k ≤ a0
          · obtain ⟨t, ht⟩ : ∃ t, t = a + 1 + k := ⟨_, rfl⟩
            have hst : rowW a0 l1.length (cnt l1) a acc (k + 1).toNat = if (rowW a0 l1.length (cnt l1) a acc k.toNat).1 < offL a0 l1.length (cnt l1 t - cnt l1 a) (t - a) then (offL a0 l1.length (cnt l1 t - cnt l1 a) (t - a), a, t) else rowW a0 l1.length (cnt l1) a acc k.toNat := by
              rw [show (k + 1).toNat = k.toNat + 1 by omega, rowW, Int.toNat_of_nonneg hk0, ht, show a + 1 + k - a = 1 + k by omega]
            have HS := Lib.hid hst
            clear hst
            rw [← ht]
            rw [← ht] at htl
            have htr : 0 ≤ t ∧ a < t := by omega
            obtain ⟨ht0, hta⟩ := htr
            have HT := Lib.hid ht
            clear ht
            have hL2 : IsLine wr b a0 l1 := (LineAt.below (B := 0) HL.out HB2.out)
            have hc1 := LineAt.cell hL2 t.toNat (by omega)
            have hc2 := LineAt.cell hL2 a.toNat (by omega)
            simp only [Int.toNat_of_nonneg ht0, Int.toNat_of_nonneg ha0] at hc1 hc2
            have HL2 := Lib.hid hL2
            clear hL2
            obtain ⟨u, hu⟩ : ∃ u, u = cnt l1 t := ⟨_, rfl⟩
            obtain ⟨v, hv⟩ : ∃ v, v = cnt l1 a := ⟨_, rfl⟩
            have hub : 0 ≤ u ∧ u ≤ 60 := by have := cnt_le l1 t; omega
            have hvb : 0 ≤ v ∧ v ≤ 60 := by have := cnt_le l1 a; omega
            rw [← hu] at hc1
            rw [← hv] at hc2
            have HU := Lib.hid (And.intro hu hv)
            clear hu hv
            obtain ⟨hu0, hu1⟩ := hub
            obtain ⟨hv0, hv1⟩ := hvb
            have hw2 : wrap64 (u - v) = u - v := w64 (by omega) (by omega)
            have hw3 : wrap64 (t - a) = t - a := w64 (by omega) (by omega)
            have p1 : t.toNat < 1002 := by omega
            have p2 : a.toNat < 1002 := by omega
            have hlb : (0 : Int) ≤ l1.length ∧ (l1.length : Int) ≤ 60 := by omega
            have hca := blk_cell HA2.out 0
            have hcb := blk_cell HA2.out 1
            have hfa := blk_frozen HA2.out 0
            have hfb := blk_frozen HA2.out 1
            by_cases hgt : (rowW a0 l1.length (cnt l1) a acc k.toNat).1 < offL a0 l1.length (u - v) (t - a)
            · go_wp2
              go_quiet ((go_at_call 67; exact Calls.quiet_of (off_quiet b a0 l1.length _ _ _ wr _ HL2.out (by omega) (by omega) (by omega) (by omega))))
              go_wp2
              go_roundw
              case rel =>
                rw [HU.out.1, HU.out.2] at *
                refine ⟨k + 1, by omega, by have := HT.out; omega, by have := HT.out; congr 1; omega, ?_, ?_, ?_⟩
                · rw [HS.out, if_pos hgt]
                · rw [HS.out, if_pos hgt]
                  exact blk_drewN (blk_put (blk_put HA2.out 0 _ rfl) 1 _ rfl) _
                · exact pw_below_drewN ((HB2.out.setCell (p := ⟨w1.heap.size, 0, none⟩) (Nat.le_refl _) _).setCell (p := ⟨w1.heap.size, 1, none⟩) (Nat.le_refl _) _) _
              case measure => simp [intOf]; omega
            · go_wp2
              go_quiet ((go_at_call 67; exact Calls.quiet_of (off_quiet b a0 l1.length _ _ _ wr _ HL2.out (by omega) (by omega) (by omega) (by omega))))
              go_wp2
              go_roundw
              case rel =>
                rw [HU.out.1, HU.out.2] at *
                refine ⟨k + 1, by omega, by have := HT.out; omega, by have := HT.out; congr 1; omega, ?_, ?_, ?_⟩
                · rw [HS.out, if_neg (by omega)]
                · rw [HS.out, if_neg (by omega)]
                  exact blk_drewN HA2.out _
                · exact pw_below_drewN HB2.out _
              case measure => simp [intOf]; omega
          · have hk : k = a0 - a := by omega
            subst hk
            go_wp2
            go_roundw
            case rel =>
              have e : intW a0 l1.length (cnt l1) (a + 1).toNat = rowW a0 l1.length (cnt l1) a acc (a0 - a).toNat := by
                rw [show (a + 1).toNat = a.toNat + 1 by omega, intW, Int.toNat_of_nonneg ha0, HAC.out]
              refine ⟨a + 1, by omega, by omega, rfl, ?_, ?_, ?_⟩
              · rw [e]
              · rw [e]
                exact HA2.out
              · exact HB2.out
            case measure => simp [intOf]; omega
      · have ha : a = a0 := by omega
        subst ha
        have hL2 : IsLine wr b a l1 := (LineAt.below (B := 0) HL.out HB1.out)
        have hn1 := LineAt.n hL2
        have hca := blk_cell HA.out 0
        have hcb := blk_cell HA.out 1
        have hmul := bnd_mul (a := l1.length) (b := a) (A := 60) (B := 1000) (by omega) (by omega) (by omega) (by omega)
        have hmul1 : 1 ≤ (l1.length : Int) * a := by
          have := Int.mul_le_mul (a := 1) (b := 1) (c := (l1.length : Int)) (d := a) (by omega) (by omega) (by omega) (by omega)
          omega
        have hw2 : wrap64 (l1.length * a) = l1.length * a := w64 (by omega) (by omega)
        have HM := Lib.hid (And.intro hmul hmul1)
        clear hmul hmul1
        have hbd := intW_bound a l1 (by omega) (by omega) a.toNat (by omega)
        obtain ⟨hbd1, hbd2⟩ := hbd
        go_wp2
        have hz := HB.out.size
        simp only [World.size_alloc] at hz hbl
        have hz := HB.out.size
        simp only [World.size_alloc] at hz hbl
        have hz := HB.out.size
        simp only [World.size_alloc] at hz hbl
        have K1 := Lib.hid (blk_below HK.out HB1.out)
        have K2 := Lib.hid (blk_below HK2.out HB1.out)
        simp only [World.size_alloc] at K2
        have nb1 := Lib.hid (show b ≠ w.heap.size by omega)
        have nb2 := Lib.hid (show b ≠ w.heap.size + 1 by omega)
        have n31 := Lib.hid (show w1.heap.size ≠ w.heap.size by omega)
        have n32 := Lib.hid (show w1.heap.size ≠ w.heap.size + 1 by omega)
        have n12 : w.heap.size ≠ w.heap.size + 1 := by omega
        have n21 : w.heap.size + 1 ≠ w.heap.size := by omega
        clear hca hcb
        refine start_ (n := 12) (S := fun w' => w'.cell? ⟨b, 1, none⟩ = some (.int .i64 l1.length) ∧ w'.cell? ⟨w1.heap.size, 0, none⟩ = some (.int .i64 (intW a l1.length (cnt l1) a.toNat).2.1) ∧ w'.cell? ⟨w1.heap.size, 1, none⟩ = some (.int .i64 (intW a l1.length (cnt l1) a.toNat).2.2)) (ds := []) #[false, false, false, false, false, false, false, false, false, false, false, false] (by kernel_rfl) rfl rfl ⟨hn1, (blk_cell HA.out 0).trans rfl, (blk_cell HA.out 1).trans rfl⟩ (fun hHeld => ?_); refine with_tabW intR.tab intR.bits (fun HT_ HW_ => ?_)
        refine pure_ (i := 0) (N := (some 61)) (v := ?_) (a' := ?_) #[true, false, false, false, false, false, false, false, false, false, false, false] rfl rfl (any_of HT_.out (by kernel_rfl)) (fun _ _ _ h => h) (Or.inl ⟨by rfl, ?_⟩) ?_ ?_
        rotate_left
        · intro w'
          go_simp
          with_reducible rfl
        rotate_left
        · simp only [Act.put, List.setIfInBounds_toArray, List.set_cons_zero, List.set_cons_succ, i64_w, i32_w]
          rfl
        refine pure_ (i := 1) (N := (some 62)) (v := ?_) (a' := ?_) #[true, true, false, false, false, false, false, false, false, false, false, false] rfl rfl (any_of HT_.out (by kernel_rfl)) (fun _ _ _ h => h) (Or.inl ⟨by rfl, ?_⟩) ?_ ?_
        rotate_left
        · intro w'
          go_simp
          with_reducible rfl
        rotate_left
        · simp only [Act.put, List.setIfInBounds_toArray, List.set_cons_zero, List.set_cons_succ, i64_w, i32_w]
          rfl
        refine pure_ (i := 2) (N := (some 63)) (v := ?_) (a' := ?_) #[true, true, true, false, false, false, false, false, false, false, false, false] rfl rfl (any_of HT_.out (by kernel_rfl)) (fun _ _ _ h => h) (Or.inl ⟨by rfl, ?_⟩) ?_ ?_
        rotate_left
        · intro w'
          go_simp
          with_reducible rfl
        rotate_left
        · simp only [Act.put, List.setIfInBounds_toArray, List.set_cons_zero, List.set_cons_succ, i64_w, i32_w]
          rfl
        refine pure_ (i := 3) (N := (some 64)) (v := ?_) (a' := ?_) #[true, true, true, true, false, false, false, false, false, false, false, false] rfl rfl (any_of HT_.out (by kernel_rfl)) (fun _ _ _ h => h) (Or.inl ⟨by rfl, ?_⟩) ?_ ?_
        rotate_left
        · intro w'
          go_simp
          with_reducible rfl
        rotate_left
        · simp only [Act.put, List.setIfInBounds_toArray, List.set_cons_zero, List.set_cons_succ, i64_w, i32_w]
          rfl
        refine take_ (i := 4) (N := (some 65)) (v := ?_) (a' := ?_) #[true, true, true, true, true, false, false, false, false, false, false, false] rfl rfl (take_ofW HT_.out HW_.out (by kernel_rfl)) (fun _ _ _ h => h) (Or.inl ⟨by rfl, ?_⟩) hHeld ?_ ?_
        rotate_left
        · rintro w' ⟨s0, s1, s2⟩
          go_simp
          with_reducible rfl
        rotate_left
        · simp only [Act.put, List.setIfInBounds_toArray, List.set_cons_zero, List.set_cons_succ, i64_w, i32_w]
          rfl
        refine pure_ (i := 5) (N := (some 66)) (v := ?_) (a' := ?_) #[true, true, true, true, true, true, false, false, false, false, false, false] rfl rfl (any_of HT_.out (by kernel_rfl)) (fun _ _ _ h => h) (Or.inl ⟨by rfl, ?_⟩) ?_ ?_
        rotate_left
        · intro w'
          go_simp
          with_reducible rfl
        rotate_left
        · simp only [Act.put, List.setIfInBounds_toArray, List.set_cons_zero, List.set_cons_succ, i64_w, i32_w]
          rfl
        refine pure_ (i := 6) (N := (some 67)) (v := ?_) (a' := ?_) #[true, true, true, true, true, true, true, false, false, false, false, false] rfl rfl (any_of HT_.out (by kernel_rfl)) (fun _ _ _ h => h) (Or.inl ⟨by rfl, ?_⟩) ?_ ?_
        rotate_left
        · intro w'
          go_simp
          with_reducible rfl
        rotate_left
        · simp only [Act.put, List.setIfInBounds_toArray, List.set_cons_zero, List.set_cons_succ, i64_w, i32_w]
          rfl
        refine take_ (i := 8) (N := (some 69)) (v := ?_) (a' := ?_) #[true, true, true, true, true, true, true, false, true, false, false, false] rfl rfl (take_ofW HT_.out HW_.out (by kernel_rfl)) (fun _ _ _ h => h) (Or.inl ⟨by rfl, ?_⟩) hHeld ?_ ?_
        rotate_left
        · rintro w' ⟨s0, s1, s2⟩
          go_simp
          with_reducible rfl
        rotate_left
        · simp only [Act.put, List.setIfInBounds_toArray, List.set_cons_zero, List.set_cons_succ, i64_w, i32_w]
          rfl
        refine one_ (i := 7) (N := some 68) #[true, true, true, true, true, true, true, true, true, false, false, false] rfl rfl (one_of HT_.out (by kernel_rfl)) (by decide) (fun K hK => ?_)
        refine goes_ Try.func58 (by kernel_rfl) rfl #[.int .i64 (intW a l1.length (cnt l1) a.toNat).1, .int .i64 (l1.length * a)] (by rfl) rfl rfl (by (try simp only [List.map_toArray, List.map_cons, List.map_nil]); (try go_simp); first | done | rfl | (simp only [List.length_drop, List.length_take]; rfl)) ?_
        refine (frac_any (intW a l1.length (cnt l1) a.toNat).1 (l1.length * a) _ HM.out.2 (by have := HM.out; omega) (by omega) (by omega)).mono ?_
        rintro e w3 ⟨rfl, hb3⟩
        refine ⟨_, rfl, ?_⟩
        have HB3 := Lib.hid hb3
        clear hb3
        have G1 := Lib.hid (blk_below (blk_drew K1.out) HB3.out)
        have G2 := Lib.hid (blk_below (blk_drew K2.out) HB3.out)
        have G3 := Lib.hid (blk_below (blk_drew HA.out) HB3.out)
        have G4 := Lib.hid (LineAt.below (B := 0) (show LineAt wr.drew b a l1.length (fun t => cnt l1 t) from hL2) HB3.out)
        refine hK.out _ _ ⟨LineAt.n G4.out, (blk_cell G3.out 0).trans rfl, (blk_cell G3.out 1).trans rfl⟩ (fun hHeld => ?_)
        clear hK K
        refine norm_ (a' := ?_) ?_ ?_
        rotate_left
        · show Act.put _ (some 68) _ = _
          simp only [Act.put, List.setIfInBounds_toArray, List.set_cons_zero, List.set_cons_succ, i64_w, i32_w]
          rfl
        refine one_ (i := 9) (N := none) #[true, true, true, true, true, true, true, true, true, true, false, false] rfl rfl (one_of HT_.out (by kernel_rfl)) (by decide) (fun K hK => ?_)
        have q1 := (blk_cell G1.out 0)
        have q2 := (blk_cell G1.out 1)
        have q3 := blk_frozen G1.out 0
        have q4 := blk_frozen G1.out 1
        refine skip_ (w1 := ?_) (by rfl) rfl ?_ ?_
        rotate_left
        · go_simp
          rfl
        refine hK.out _ _ ⟨((cell_far (p := ⟨w.heap.size, _, none⟩) nb1.out _).trans ((cell_far (p := ⟨w.heap.size, _, none⟩) nb1.out _).trans (hHeld.1))), ((cell_far (p := ⟨w.heap.size, _, none⟩) n31.out _).trans ((cell_far (p := ⟨w.heap.size, _, none⟩) n31.out _).trans (hHeld.2.1))), ((cell_far (p := ⟨w.heap.size, _, none⟩) n31.out _).trans ((cell_far (p := ⟨w.heap.size, _, none⟩) n31.out _).trans (hHeld.2.2)))⟩ (fun hHeld => ?_)
        clear hK K
        refine one_ (i := 10) (N := none) #[true, true, true, true, true, true, true, true, true, true, true, false] rfl rfl (one_of HT_.out (by kernel_rfl)) (by decide) (fun K hK => ?_)
        clear q1 q2 q3 q4
        have q1 := blk_cell G2.out 0
        have q2 := (blk_cell G2.out 1)
        have q3 := blk_frozen G2.out 0
        have q4 := blk_frozen G2.out 1
        refine skip_ (w1 := ?_) (by rfl) rfl ?_ ?_
        rotate_left
        · go_simp
          rfl
        refine hK.out _ _ ⟨((cell_far (p := ⟨(w.heap.size + 1), _, none⟩) nb2.out _).trans ((cell_far (p := ⟨(w.heap.size + 1), _, none⟩) nb2.out _).trans (hHeld.1))), ((cell_far (p := ⟨(w.heap.size + 1), _, none⟩) n32.out _).trans ((cell_far (p := ⟨(w.heap.size + 1), _, none⟩) n32.out _).trans (hHeld.2.1))), ((cell_far (p := ⟨(w.heap.size + 1), _, none⟩) n32.out _).trans ((cell_far (p := ⟨(w.heap.size + 1), _, none⟩) n32.out _).trans (hHeld.2.2)))⟩ (fun hHeld => ?_)
        clear hK K
        refine pure_ (i := 11) (N := (some 6)) (v := ?_) (a' := ?_) #[true, true, true, true, true, true, true, true, true, true, true, true] rfl rfl (any_of HT_.out (by kernel_rfl)) (fun _ _ _ h => h) (Or.inl ⟨by rfl, ?_⟩) ?_ ?_
        rotate_left
        · intro w'
          go_simp
          with_reducible rfl
        rotate_left
        · simp only [Act.put, List.setIfInBounds_toArray, List.set_cons_zero, List.set_cons_succ, i64_w, i32_w]
          rfl
        refine done_ (done_of HT_.out (by kernel_rfl)) ?_
        go_wp2
        refine bodyPost_ret (results_cct rfl _ _ w.heap.size (w.heap.size + 1) 26 50 #[.int .i64 _, .int .i64 _] #[.int .i64 _, .int .i64 _] (0, 0) (0, 0) _ _ rfl rfl (blk_far (blk_far (blk_put (blk_put G1.out 0 _ rfl) 1 _ rfl) n12 _) n12 _) (blk_put (blk_put (blk_far (blk_far G2.out n21 _) n21 _) 0 _ rfl) 1 _ rfl) Try.underlying26 Try.underlying50 rfl rfl (by kernel_rfl) (by kernel_rfl)) rfl ⟨rfl, ?_⟩
        have hb0 : Below w.heap.size w w1 := (below_alloc (below_alloc (Below.refl _ w) _) _).trans (HB.out.mono (by simp; omega))
        have hb5 : Below w.heap.size w wr := below_then hb0 (by omega) HB1.out
        have hb6 : Below w.heap.size w w3 := below_then (below_drew hb5) hb5.size HB3.out
        exact (((hb6.setCell (p := ⟨w.heap.size, 0, none⟩) (Nat.le_refl _) _).setCell (p := ⟨w.heap.size, 1, none⟩) (Nat.le_refl _) _).setCell (p := ⟨w.heap.size + 1, 0, none⟩) (Nat.le_succ _) _).setCell (p := ⟨w.heap.size + 1, 1, none⟩) (Nat.le_succ _) _
  · rw [if_neg ok] at h
    simp only [Option.some.injEq, Prod.mk.injEq] at h
    obtain ⟨rfl, rfl, rfl, rfl, rfl⟩ := h
    have OK := Lib.hid ok
    clear ok
    go_enter Try.func43, Try.ntmps43
    go_wp2_with (go_at_call 56; refine (newLine_any _ _ _ l1 _ (Kd.C_alloc (Kd.C_alloc HR.out _) _) hc1).mono ?_; rintro e w' ⟨hb, ⟨hf, rfl⟩ | ⟨hf, _⟩⟩; rotate_left; (exact absurd hf OK.out); have HB := Lib.hid hb; clear hb hf; have hbk := blk_below (blk_alloc (zero2 w 26) (.cells #[.int .i64 0, .int .i64 0] 50)) HB.out; have hc0 := blk_cell hbk 0; have hc1' := blk_cell hbk 1; have hf0 := blk_frozen hbk 0; have hf1 := blk_frozen hbk 1; have HK := Lib.hid hbk; clear hbk; have hbk := blk_below (zero2 (w.alloc (.cells #[.int .i64 0, .int .i64 0] 26)) 50) HB.out; simp only [World.size_alloc] at hbk; have hc2 := blk_cell hbk 0; have hc3 := blk_cell hbk 1; have hf2 := blk_frozen hbk 0; have hf3 := blk_frozen hbk 1; have HK2 := Lib.hid hbk; clear hbk)
    have n12 : w.heap.size ≠ w.heap.size + 1 := by omega
    have n21 : w.heap.size + 1 ≠ w.heap.size := by omega
    refine bodyPost_ret (results_cct rfl _ _ w.heap.size (w.heap.size + 1) 26 50 #[.int .i64 0, .int .i64 0] #[.int .i64 0, .int .i64 0] (0, 0) (0, 0) _ _ rfl rfl (blk_far (blk_far (blk_put (blk_put HK.out 0 _ rfl) 1 _ rfl) n12 _) n12 _) (blk_put (blk_put (blk_far (blk_far HK2.out n21 _) n21 _) 0 _ rfl) 1 _ rfl) Try.underlying26 Try.underlying50 rfl rfl (by kernel_rfl) (by kernel_rfl)) rfl ⟨rfl, ?_⟩
    have hb6 : Below w.heap.size w w' := (below_alloc (below_alloc (Below.refl _ w) _) _).trans (HB.out.mono (by simp; omega))
    exact (((hb6.setCell (p := ⟨w.heap.size, 0, none⟩) (Nat.le_refl _) _).setCell (p := ⟨w.heap.size, 1, none⟩) (Nat.le_refl _) _).setCell (p := ⟨w.heap.size + 1, 0, none⟩) (Nat.le_succ _) _).setCell (p := ⟨w.heap.size + 1, 1, none⟩) (Nat.le_succ _) _
end Go.Proofs.Ythngclneffngbaa.Pr
