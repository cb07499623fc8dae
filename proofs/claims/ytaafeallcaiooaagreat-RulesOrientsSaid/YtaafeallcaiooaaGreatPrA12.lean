-- Laid by wip/tools/inj.py of this project, which drives the kit's printer. Lean checks it.
import Derived.Test.YtaafeallcaiooaaGreatPr0
namespace Go.Proofs.YtaafeallcaiooaaGreat.Pr
open Go.RowKit Go.Proofs.YtaafeallcaiooaaGreatW.PrintWords Go.Proofs.YtaafeallcaiooaaGreatW.PrintLast Go.Proofs.YtaafeallcaiooaaGreatW.PrintMore
attribute [local go_sem] max2_int min2_int max_two min_two max_three min_three max_four min_four   -- for this text's walks alone
set_option linter.unusedVariables false
set_option linter.unusedSimpArgs false

/-! ### numnahref08_precedences: function 91 -/
mutual
def numnahref08_precedences.l0 : Nat → ByteArray → List ByteArray → Int → Option (List ByteArray)
 | 0, _, _, _ => none
 | k + 1, x0, x3, x4 => if x4 < (x0.size : Int) then (if 0 ≤ x4 then (if x4 ≤ (x0.size : Int) then (if 0 ≤ (wrap64 (x4 + 1)) then (if (wrap64 (x4 + 1)) ≤ (x0.size : Int) then (if (x0.extract 0 (x4 : Int).toNat).size + (x0.extract ((wrap64 (x4 + 1)) : Int).toNat x0.size).size ≤ 9223372036854775807 then ((numnahref08_precedences.f k ((x0.extract 0 (x4 : Int).toNat) ++ (x0.extract ((wrap64 (x4 + 1)) : Int).toNat x0.size))).bind fun t398 => (numnahref08_precedences.l1 k x0 x3 x4 t398 0)) else (none)) else (none)) else (none)) else (none)) else (none)) else (some x3)
def numnahref08_precedences.l1 : Nat → ByteArray → List ByteArray → Int → List ByteArray → Int → Option (List ByteArray)
 | 0, _, _, _, _, _ => none
 | k + 1, x0, x3, x4, x5, x6 => if x6 < (x5.length : Int) then (if 0 ≤ x4 then (if x4 ≤ (wrap64 (x4 + 1)) then (if (wrap64 (x4 + 1)) ≤ (x0.size : Int) then (if 0 ≤ x6 then (if (x0.extract (x4 : Int).toNat ((wrap64 (x4 + 1)) : Int).toNat).size + (rdOf ByteArray.empty x5 x6).size ≤ 9223372036854775807 then (if x3.length < 8796093022208 then (numnahref08_precedences.l1 k x0 (x3 ++ [(x0.extract (x4 : Int).toNat ((wrap64 (x4 + 1)) : Int).toNat) ++ (rdOf ByteArray.empty x5 x6)]) x4 x5 (wrap64 (x6 + 1))) else (none)) else (none)) else (none)) else (none)) else (none)) else (none)) else (numnahref08_precedences.l0 k x0 x3 (wrap64 (x4 + 1)))
def numnahref08_precedences.f : Nat → ByteArray → Option (List ByteArray)
 | 0, _ => none
 | k + 1, a0 => if a0.toList = ([] : List UInt8) then (some (([(⟨#[]⟩ : ByteArray)] : List ByteArray))) else (numnahref08_precedences.l0 k a0 ([] : List ByteArray) 0)
end
theorem numnahref08_precedences.mono_l : ∀ k, (∀ y0, LeO (numnahref08_precedences.f k y0) (numnahref08_precedences.f (k + 1) y0)) ∧ (∀ y0 y1 y2, LeO (numnahref08_precedences.l0 k y0 y1 y2) (numnahref08_precedences.l0 (k + 1) y0 y1 y2)) ∧ (∀ y0 y1 y2 y3 y4, LeO (numnahref08_precedences.l1 k y0 y1 y2 y3 y4) (numnahref08_precedences.l1 (k + 1) y0 y1 y2 y3 y4))
 | 0 => ⟨fun _ r h => by simp [numnahref08_precedences.f] at h, fun _ _ _ r h => by simp [numnahref08_precedences.l0] at h, fun _ _ _ _ _ r h => by simp [numnahref08_precedences.l1] at h⟩
 | k + 1 => by
  obtain ⟨ih0, ih1, ih2⟩ := numnahref08_precedences.mono_l k
  refine ⟨?_, ?_, ?_⟩
  ·intro y0
   unfold numnahref08_precedences.f
   repeat' first
   | (with_reducible exact ih0 _)
   | (with_reducible exact ih1 _ _ _)
   | (with_reducible exact ih2 _ _ _ _ _)
   | (with_reducible exact LeO.refl _)
   | (with_reducible exact LeO.none _)
   | (with_reducible refine LeO.ite ?_ ?_)
   | (with_reducible refine LeO.bind ?_ (fun _ => ?_))
   | exact ih0 _
   | exact ih1 _ _ _
   | exact ih2 _ _ _ _ _
   | exact LeO.none _
   | refine LeO.ite ?_ ?_
   | refine LeO.bind ?_ (fun _ => ?_)
  ·intro y0 y1 y2
   unfold numnahref08_precedences.l0
   repeat' first
   | (with_reducible exact ih0 _)
   | (with_reducible exact ih1 _ _ _)
   | (with_reducible exact ih2 _ _ _ _ _)
   | (with_reducible exact LeO.refl _)
   | (with_reducible exact LeO.none _)
   | (with_reducible refine LeO.ite ?_ ?_)
   | (with_reducible refine LeO.bind ?_ (fun _ => ?_))
   | exact ih0 _
   | exact ih1 _ _ _
   | exact ih2 _ _ _ _ _
   | exact LeO.none _
   | refine LeO.ite ?_ ?_
   | refine LeO.bind ?_ (fun _ => ?_)
  ·intro y0 y1 y2 y3 y4
   unfold numnahref08_precedences.l1
   repeat' first
   | (with_reducible exact ih0 _)
   | (with_reducible exact ih1 _ _ _)
   | (with_reducible exact ih2 _ _ _ _ _)
   | (with_reducible exact LeO.refl _)
   | (with_reducible exact LeO.none _)
   | (with_reducible refine LeO.ite ?_ ?_)
   | (with_reducible refine LeO.bind ?_ (fun _ => ?_))
   | exact ih0 _
   | exact ih1 _ _ _
   | exact ih2 _ _ _ _ _
   | exact LeO.none _
   | refine LeO.ite ?_ ?_
   | refine LeO.bind ?_ (fun _ => ?_)
theorem numnahref08_precedences.mono : ∀ a0 k, LeO (numnahref08_precedences.f k a0) (numnahref08_precedences.f (k + 1) a0) := by
 intro a0 k
 obtain ⟨ih0, ih1, ih2⟩ := numnahref08_precedences.mono_l k
 exact ih0 a0
def numnahref08_precedences.T7 : Bool × List (List Nat × List Nat) := (true, [([], []), ([], []), ([0, 1], [0, 1]), ([], []), ([], []), ([4], [4]), ([3, 5], [3, 5]), ([2, 6], [2, 6]), ([7], [7]), ([8, 8, 0, 1, 2, 3, 4, 5, 6, 7, 8], [8])])
def numnahref08_precedences.B7 : List Nat := [0, 0, 3, 0, 0, 16, 56, 127, 255, 511]
theorem numnahref08_precedences.tab7 : rtab .any (opsOf Tryz.f91 7) = numnahref08_precedences.T7 := by kernel_rfl
theorem numnahref08_precedences.bits7 : waitsOk numnahref08_precedences.T7.2 numnahref08_precedences.B7 = true := by kernel_rfl
def numnahref08_precedences.T11 : Bool × List (List Nat × List Nat) := (true, [([], []), ([], []), ([], []), ([], []), ([3], [3]), ([1, 2, 4], [1, 2, 4]), ([], []), ([], []), ([6, 7], [6, 7]), ([8], [8]), ([5, 9], [5, 9]), ([10], [10]), ([0, 11], [0, 11]), ([12, 12, 0, 1, 2, 3, 4, 5, 6, 7, 8, 9, 10, 11, 12], [0, 12])])
def numnahref08_precedences.B11 : List Nat := [0, 0, 0, 0, 8, 30, 0, 0, 192, 448, 1022, 2046, 4095, 8191]
theorem numnahref08_precedences.tab11 : rtab .any (opsOf Tryz.f91 11) = numnahref08_precedences.T11 := by kernel_rfl
theorem numnahref08_precedences.bits11 : waitsOk numnahref08_precedences.T11.2 numnahref08_precedences.B11 = true := by kernel_rfl
set_option maxHeartbeats 8000000 in
set_option maxRecDepth 100000 in
theorem numnahref08_precedences.calls (k : Nat) : ∀ (a0 : ByteArray) (r : List ByteArray) (w : World) (h : numnahref08_precedences.f k a0 = some r),
  Calls Tryz.prog 91 #[.string a0] w fun e w' => ∃ v0_ : Value, e = .returned (v0_) ∧ Kd.R Kd.string 9 w' w.heap.size (fun _ => True) v0_ r ∧ Below w.heap.size w w' := by
 induction k using Nat.strongRecOn with
 | _ k ih =>
 intro a0 r w h
 cases k with
 | zero => exact absurd h (by simp [numnahref08_precedences.f])
 | succ k =>
 simp only [numnahref08_precedences.f] at h
 have HB := Aside0.mk (Below.refl w.heap.size w)
 have H : (if a0.toList = ([] : List UInt8) then (some (([(⟨#[]⟩ : ByteArray)] : List ByteArray))) else (numnahref08_precedences.l0 k a0 ([] : List ByteArray) 0)) = some r := h
 clear h
 by_cases c2 : a0.toList = ([] : List UInt8)
 ·rw [if_pos c2] at H
  have c2b0 : (a0.toList == ([] : List UInt8)) = true := beq_iff_eq.mpr c2
  have c2b1 : (a0.toList != ([] : List UInt8)) = false := bne_eq_false_iff_eq.mpr c2
  clear c2
  obtain ⟨y395, hy395⟩ : ∃ y_ : List ByteArray, y_ = (([(⟨#[]⟩ : ByteArray)] : List ByteArray)) := ⟨_, rfl⟩
  replace H : (some y395) = some r := by first | (rw [hy395]; with_reducible exact H) | (have H2_ := (Option.bind_some _ _).symm.trans H; rw [hy395]; with_reducible exact H2_) | (have H2_ := (Option.bind_some _ _).symm.trans H; with_reducible exact H2_) | with_reducible exact H | (rw [hy395]; exact H) | exact H
  have Ny395 := Aside0.mk hy395
  clear hy395
  obtain rfl := Option.some.inj H
  go_enter Tryz.func91, Tryz.ntmps91
  go_wp2_with (first | ((with_reducible refine gate_dst (N := 9) rfl ?_); refine Kd.R_lit Kd.string _ 9 ?hg (N := 9) ?hd (xs := ([(⟨#[]⟩ : ByteArray)] : List ByteArray)) (inner := [.string (⟨#[]⟩ : ByteArray)]) (ok := fun _ => True) (okp := fun _ => True) ?hr ?hp (fun _ hk => hk) trivial (Below.refl _ _) (Nat.le_refl _) (by simp) ?_; (case hd => rfl); (case hg => rfl); (case hr => first | (go_simp; done) | (go_simp; rfl)); (case hp => exact (Reps.one (show Kd.M Kd.string _ _ _ (⟨#[]⟩ : ByteArray) [.string (⟨#[]⟩ : ByteArray)] from rfl) (Reps.none _ _))); intro v396 w3 ho4 hb hg_ hnew_; clear hg_ hnew_; (first | rw [← Ny395.out] at ho4 | (simp only [Int.reduceToNat] at ho4; rw [← Ny395.out] at ho4)); have n0_ := Aside0.mk (Kd.R_lower ho4 (below_size (tB_ HB))); have n1_ := Aside0.mk (below_step (tB_ HB) hb); clear HB; have HO397 := n0_; have HB := n1_; clear n0_ n1_; clear hb ho4))
  go_ret
  exact ⟨_, by first | rfl | (simp [errW_none, errW_some] <;> rfl) | (simp [*, errW_none, errW_some] <;> rfl), by (with_reducible repeat (first | apply Kd.R_alloc | apply Kd.R_drewN | apply Kd.R_drew)); exact HO397.out, by repeat (first | (with_reducible first | exact HB.out | apply below_alloc | apply pw_below_drewN | apply below_drew1) | exact HB.out)⟩
 ·rw [if_neg c2] at H
  have c2b0 : (a0.toList == ([] : List UInt8)) = false := beq_eq_false_iff_ne.mpr c2
  have c2b1 : (a0.toList != ([] : List UInt8)) = true := bne_iff_ne.mpr c2
  have H' := Aside0.mk H
  clear H
  go_enter Tryz.func91, Tryz.ntmps91
  go_wp2
  go_loopg [3, 4] k (fun kq v3 v4 w' => ∃ (x3_1 : List ByteArray) (x4_1 : Int), v4 = .int .i64 x4_1 ∧ Aside0 (numnahref08_precedences.l0 kq a0 x3_1 x4_1 = some r) ∧ Aside0 (kq ≤ k) ∧ Aside0 (Kd.R Kd.string 9 w' w.heap.size (fun _ => True) v3 x3_1) ∧ Aside0 (Below w.heap.size w w'))
  case atStart => exact ⟨(([] : List ByteArray)), (0), tS_, H', ⟨Nat.le_refl _⟩, ⟨by first | exact Kd.R_nil _ _ _ _ _ | exact Kd.N_nil _ _ _ _ _ | exact Kd.V_nil _ _ _ _ _ | exact Kd.Q_nil _ _ _ _ _ | exact Kd.S_nil _ _ _ _ _⟩, ⟨by repeat (first | (with_reducible first | exact HB.out | apply below_alloc | apply pw_below_drewN | apply below_drew1) | exact HB.out)⟩⟩
  case round =>
   clear H'
   try clear c2
   try clear c2b0
   try clear c2b1
   try clear p2
   obtain ⟨x3_1, x4_1, rfl, HA, HK1, HO_3, HB⟩ := hrel
   cases gk with
   | zero => exact absurd HA.out (by simp [numnahref08_precedences.l0])
   | succ k1 =>
    have H := HA.out
    clear HA
    simp only [numnahref08_precedences.l0] at H
    by_cases c5 : x4_1 < (a0.size : Int)
    ·rw [if_pos c5] at H
     have c5b0 : decide (x4_1 < (a0.size : Int)) = true := decide_eq_true c5
     clear c5
     by_cases c6 : 0 ≤ x4_1
     ·rw [if_pos c6] at H
      have c6b0 := eq_true c6
      have c6b1 : decide (0 ≤ x4_1) = true := decide_eq_true c6
      clear c6
      by_cases c7 : x4_1 ≤ (a0.size : Int)
      ·rw [if_pos c7] at H
       have c7b0 := eq_true c7
       have c7b1 : decide (x4_1 ≤ (a0.size : Int)) = true := decide_eq_true c7
       clear c7
       obtain ⟨ji8, hji8⟩ : ∃ j_ : Int, (wrap64 (x4_1 + 1)) = j_ := ⟨_, rfl⟩
       replace H : (if 0 ≤ (ji8) then (if (ji8) ≤ (a0.size : Int) then (if (a0.extract 0 (x4_1 : Int).toNat).size + (a0.extract ((ji8) : Int).toNat a0.size).size ≤ 9223372036854775807 then ((numnahref08_precedences.f k1 ((a0.extract 0 (x4_1 : Int).toNat) ++ (a0.extract ((ji8) : Int).toNat a0.size))).bind fun t398 => (numnahref08_precedences.l1 k1 a0 x3_1 x4_1 t398 0)) else (none)) else (none)) else (none)) = some r := by first | (rw [hji8] at H; exact H) | (simp only [hji8] at H ⊢; exact H)
       have hji8w : (IntKind.i64.wrap (x4_1 + 1)) = ji8 := (i64_w _).trans hji8
       by_cases c9 : 0 ≤ (ji8)
       ·rw [if_pos c9] at H
        have c9b0 := eq_true c9
        have c9b1 : decide (0 ≤ (ji8)) = true := decide_eq_true c9
        clear c9
        by_cases c10 : (ji8) ≤ (a0.size : Int)
        ·rw [if_pos c10] at H
         have c10b0 := eq_true c10
         have c10b1 : decide ((ji8) ≤ (a0.size : Int)) = true := decide_eq_true c10
         clear c10
         by_cases c11 : (a0.extract 0 (x4_1 : Int).toNat).size + (a0.extract ((ji8) : Int).toNat a0.size).size ≤ 9223372036854775807
         ·rw [if_pos c11] at H
          have c11b0 := eq_true c11
          have c11b1 : decide ((a0.extract 0 (x4_1 : Int).toNat).size + (a0.extract ((ji8) : Int).toNat a0.size).size ≤ 9223372036854775807) = true := decide_eq_true c11
          try have c11b2 : (9223372036854775807 < (a0.extract 0 (x4_1 : Int).toNat).size + (a0.extract ((ji8) : Int).toNat a0.size).size) = False := eq_false (Nat.not_lt.2 c11)
          have c11b3 : (9223372036854775807 < x4_1.toNat + (a0.size - (ji8).toNat)) = False := eq_false (by have h_ := c11; simp only [ByteArray.size_append, ByteArray.size_extract] at h_; (try have h1_ := of_eq_true c1b0); (try have h2_ := of_eq_true c2b0); (try have h3_ := of_eq_true c3b0); (try have h4_ := of_eq_true c4b0); (try have h5_ := of_eq_true c5b0); (try have h6_ := of_eq_true c6b0); (try have h7_ := of_eq_true c7b0); (try have h8_ := of_eq_true c8b0); (try have h9_ := of_eq_true c9b0); (try have h10_ := of_eq_true c10b0); omega)
          replace H := Option.bind_eq_some_iff.mp H
          obtain ⟨t398, A120, H⟩ := H
          replace H : (numnahref08_precedences.l1 k1 a0 x3_1 x4_1 t398 0) = some r := H
          have A12 := Aside0.mk A120
          clear A120
          have H' := Aside0.mk H
          clear H
          try go_wp2
          have n0_ := Aside0.mk (Kd.R_drew HO_3.out)
          have n1_ := Aside0.mk (below_drew1 HB.out)
          clear HO_3
          clear HB
          have HO_3 := n0_
          have HB := n1_
          clear n0_ n1_
          refine start_ (n := 10) (S := fun w' => True) (ds := []) (bm 10 0) (by kernel_rfl) rfl rfl trivial (fun hHeld => ?_); refine with_tabW numnahref08_precedences.tab7 numnahref08_precedences.bits7 (fun HT_ HW_ => ?_)
          generalize wr.drew = w13 at HO_3 HB hHeld ⊢
          refine pure_ (i := 0) (N := some 16) (bm 10 1) rfl rfl (any_of HT_.out (by kernel_rfl)) (fun _ _ _ h => h) (.inl ⟨rfl, tY_⟩) tP_ ?_
          refine pure_ (i := 1) (N := some 17) (bm 10 3) rfl rfl (any_of HT_.out (by kernel_rfl)) (fun _ _ _ h => h) (.inl ⟨rfl, tY_⟩) tP_ ?_
          refine pure_ (i := 2) (N := some 18) (bm 10 7) rfl rfl (any_of HT_.out (by kernel_rfl)) (fun _ _ _ h => h) (.inl ⟨rfl, tY_⟩) tP_ ?_
          refine pure_ (i := 3) (N := some 19) (bm 10 15) rfl rfl (any_of HT_.out (by kernel_rfl)) (fun _ _ _ h => h) (.inl ⟨rfl, tY_⟩) tP_ ?_
          refine pure_ (i := 4) (N := some 20) (bm 10 31) rfl rfl (any_of HT_.out (by kernel_rfl)) (fun _ _ _ h => h) (.inl ⟨rfl, tY_⟩) tP_ ?_
          refine pure_ (i := 5) (N := some 21) (bm 10 63) rfl rfl (any_of HT_.out (by kernel_rfl)) (fun _ _ _ h => h) (.inl ⟨rfl, tY_⟩) tP_ ?_
          refine pure_ (i := 6) (N := some 22) (bm 10 127) rfl rfl (any_of HT_.out (by kernel_rfl)) (fun _ _ _ h => h) (.inl ⟨rfl, tY_⟩) tP_ ?_
          refine pure_ (i := 7) (N := some 23) (bm 10 255) rfl rfl (any_of HT_.out (by kernel_rfl)) (fun _ _ _ h => h) (.inl ⟨rfl, tY_⟩) tP_ ?_
          refine one_ (i := 8) (N := some 24) (bm 10 511) rfl rfl (one_of HT_.out (by kernel_rfl)) (by decide) (fun K hK => ?_)
          refine goes_ Tryz.func91 (by kernel_rfl) rfl #[.string ((a0.extract 0 (x4_1 : Int).toNat) ++ (a0.extract ((ji8) : Int).toNat a0.size))] (by rfl) rfl rfl (by (try simp only [List.map_toArray, List.map_cons, List.map_nil]); first | done | (simp only [hji8]; rfl) | rfl | (simp only [List.length_drop, List.length_take]; rfl)) ?_
          with_reducible refine (ih k1 (by have := HK1.out; omega) ((a0.extract 0 (x4_1 : Int).toNat) ++ (a0.extract ((ji8) : Int).toNat a0.size)) t398 _ A12.out).mono ?_
          rintro e w14 ⟨v399, rfl, ho0, hb⟩
          refine ⟨_, rfl, ?_⟩
          have n0_ := Aside0.mk (Kd.R_elder' (tR_ HO_3) (Kd.R_base ho0) hb)
          have n1_ := Aside0.mk (Kd.R_lower (Kd.R_new' ho0 (Kd.R_lt (tR_ HO_3))) (below_size (tB_ HB)))
          have n2_ := Aside0.mk (below_step (tB_ HB) hb)
          clear HO_3
          clear HB
          have HO_3 := n0_
          have HO400 := n1_
          have HB := n2_
          clear n0_ n1_ n2_
          (try clear hb)
          (try clear hb2)
          (try clear hk)
          (try clear hi)
          (try clear ho0)
          refine hK.out _ _ trivial (fun hHeld => ?_)
          clear hK K
          refine norm_ (a' := ?_) ?_ ?_; rotate_left; (show Act.put _ (some 24) _ = _; exact tP_)
          refine pure_ (i := 9) (N := some 5) (bm 10 1023) rfl rfl (any_of HT_.out (by kernel_rfl)) (fun _ _ _ h => h) (.inl ⟨rfl, tY_⟩) tP_ ?_
          refine done_ (done_of HT_.out (by kernel_rfl)) ?_
          try go_wp2
          go_loopg [3, 6] k1 (fun kq v3 v6 w' => ∃ (x3_2 : List ByteArray) (x6_2 : Int), v6 = .int .i64 x6_2 ∧ Aside0 (numnahref08_precedences.l1 kq a0 x3_2 x4_1 t398 x6_2 = some r) ∧ Aside0 (kq ≤ k1) ∧ Aside0 (Kd.R Kd.string 9 w' w.heap.size (fun k_ => some k_ ≠ (v399 : Value).ownBlock) v3 x3_2) ∧ Aside0 (Kd.R Kd.string 9 w' w.heap.size (fun k_ => some k_ ≠ (v3 : Value).ownBlock) v399 t398) ∧ Aside0 (Below w.heap.size w w'))
          case atStart => exact ⟨(x3_1), (0), tS_, H', ⟨Nat.le_refl _⟩, ⟨by (with_reducible repeat (first | apply Kd.R_alloc | apply Kd.R_drewN | apply Kd.R_drew)); exact Kd.R_mono HO_3.out (fun _ hk => hk.2)⟩, ⟨by (with_reducible repeat (first | apply Kd.R_alloc | apply Kd.R_drewN | apply Kd.R_drew)); exact Kd.R_mono HO400.out (fun _ hk => hk.2)⟩, ⟨by repeat (first | (with_reducible first | exact HB.out | apply below_alloc | apply pw_below_drewN | apply below_drew1) | exact HB.out)⟩⟩
          case round =>
           clear H'
           try clear c1
           try clear c2
           try clear c2b0
           try clear c2b1
           try clear p2
           try clear c5
           try clear c5b0
           try clear c6
           try clear c6b0
           try clear c6b1
           try clear p6
           try clear c7
           try clear c7b0
           try clear c7b1
           try clear c9
           try clear c9b0
           try clear c9b1
           try clear c10
           try clear c10b0
           try clear c10b1
           try clear c11
           try clear c11b0
           try clear c11b1
           try clear c11b2
           try clear p2
           obtain ⟨x3_2, x6_2, rfl, HA, HK2, HO_3, HO_5, HB⟩ := hrel
           cases gk with
           | zero => exact absurd HA.out (by simp [numnahref08_precedences.l1])
           | succ k2 =>
            have H := HA.out
            clear HA
            simp only [numnahref08_precedences.l1] at H
            try subst hji8
            by_cases c15 : x6_2 < (t398.length : Int)
            ·rw [if_pos c15] at H
             have c15b0 : decide (x6_2 < (t398.length : Int)) = true := decide_eq_true c15
             clear c15
             by_cases c16 : 0 ≤ x4_1
             ·rw [if_pos c16] at H
              have c16b0 := eq_true c16
              have c16b1 : decide (0 ≤ x4_1) = true := decide_eq_true c16
              clear c16
              by_cases c17 : x4_1 ≤ (wrap64 (x4_1 + 1))
              ·rw [if_pos c17] at H
               have c17b0 := eq_true c17
               try have c17b4 : (x4_1 ≤ ji8) = True := by rw [← hji8]; exact c17b0
               have c17b1 : decide (x4_1 ≤ (wrap64 (x4_1 + 1))) = true := decide_eq_true c17
               by_cases c18 : (wrap64 (x4_1 + 1)) ≤ (a0.size : Int)
               ·rw [if_pos c18] at H
                have c18b0 := eq_true c18
                try have c18b4 : (ji8 ≤ (a0.size : Int)) = True := by rw [← hji8]; exact c18b0
                have c18b1 : decide ((wrap64 (x4_1 + 1)) ≤ (a0.size : Int)) = true := decide_eq_true c18
                by_cases c19 : 0 ≤ x6_2
                ·rw [if_pos c19] at H
                 have c19b0 : decide (0 ≤ x6_2) = true := decide_eq_true c19
                 clear c19
                 by_cases c20 : (a0.extract (x4_1 : Int).toNat ((wrap64 (x4_1 + 1)) : Int).toNat).size + (rdOf ByteArray.empty t398 x6_2).size ≤ 9223372036854775807
                 ·rw [if_pos c20] at H
                  have c20b0 := eq_true c20
                  try have c20b4 : ((a0.extract (x4_1 : Int).toNat (ji8 : Int).toNat).size + (rdOf ByteArray.empty t398 x6_2).size ≤ 9223372036854775807) = True := by rw [← hji8]; exact c20b0
                  have c20b1 : decide ((a0.extract (x4_1 : Int).toNat ((wrap64 (x4_1 + 1)) : Int).toNat).size + (rdOf ByteArray.empty t398 x6_2).size ≤ 9223372036854775807) = true := decide_eq_true c20
                  try have c20b2 : (9223372036854775807 < (a0.extract (x4_1 : Int).toNat ((wrap64 (x4_1 + 1)) : Int).toNat).size + (rdOf ByteArray.empty t398 x6_2).size) = False := eq_false (Nat.not_lt.2 c20)
                  have c20b3 : (9223372036854775807 < (((wrap64 (x4_1 + 1))).toNat - x4_1.toNat) + (rdOf ByteArray.empty t398 x6_2).size) = False := eq_false (by have h_ := c20; simp only [ByteArray.size_append, ByteArray.size_extract] at h_; (try have h1_ := of_eq_true c1b0); (try have h2_ := of_eq_true c2b0); (try have h3_ := of_eq_true c3b0); (try have h4_ := of_eq_true c4b0); (try have h5_ := of_eq_true c5b0); (try have h6_ := of_eq_true c6b0); (try have h7_ := of_eq_true c7b0); (try have h8_ := of_eq_true c8b0); (try have h9_ := of_eq_true c9b0); (try have h10_ := of_eq_true c10b0); (try have h11_ := of_eq_true c11b0); (try have h12_ := of_eq_true c12b0); (try have h13_ := of_eq_true c13b0); (try have h14_ := of_eq_true c14b0); (try have h15_ := of_eq_true c15b0); (try have h16_ := of_eq_true c16b0); (try have h17_ := of_eq_true c17b0); (try have h18_ := of_eq_true c18b0); (try have h19_ := of_eq_true c19b0); omega)
                  try have c20b5 : (9223372036854775807 < ((ji8).toNat - x4_1.toNat) + (rdOf ByteArray.empty t398 x6_2).size) = False := by rw [← hji8]; exact c20b3
                  by_cases c21 : x3_2.length < 8796093022208
                  ·rw [if_pos c21] at H
                   have LMc21 := Aside0.mk c21
                   clear c21
                   obtain ⟨y402, hy402⟩ : ∃ y_ : List ByteArray, y_ = (x3_2 ++ [(a0.extract (x4_1 : Int).toNat ((wrap64 (x4_1 + 1)) : Int).toNat) ++ (rdOf ByteArray.empty t398 x6_2)]) := ⟨_, rfl⟩
                   replace H : (numnahref08_precedences.l1 k2 a0 y402 x4_1 t398 (wrap64 (x6_2 + 1))) = some r := by first | (rw [hy402]; with_reducible exact H) | (have H2_ := (Option.bind_some _ _).symm.trans H; rw [hy402]; with_reducible exact H2_) | (have H2_ := (Option.bind_some _ _).symm.trans H; with_reducible exact H2_) | with_reducible exact H | (rw [hy402]; exact H) | exact H
                   have Ny402 := Aside0.mk hy402
                   clear hy402
                   have H' := Aside0.mk H
                   clear H
                   obtain ⟨Ao22, co22, eo22⟩ := Kd.R_slice HO_5.out
                   subst eo22
                   try go_wp2
                   have n0_ := Aside0.mk (Kd.R_drew HO_3.out)
                   have n1_ := Aside0.mk (Kd.R_drew HO_5.out)
                   have n2_ := Aside0.mk (below_drew1 HB.out)
                   clear HO_3
                   clear HO_5
                   clear HB
                   have HO_3 := n0_
                   have HO_5 := n1_
                   have HB := n2_
                   clear n0_ n1_ n2_
                   have p401 : 0 ≤ (x6_2 : Int) := of_decide_eq_true tA_
                   have q401 : x6_2 < (t398.length : Int) := of_decide_eq_true tA_
                   obtain ⟨ad401, e401, hx401_0⟩ := Kd.at_string (Kd.R_reads' HO_5.out).2.2 x6_2 p401 q401
                   cases e401
                   replace p401 := eq_true p401
                   replace q401 := eq_true q401
                   refine start_ (n := 14) (S := fun w' => w'.cell? (ad401.add (x6_2).toNat) = some (.string (rdOf ByteArray.empty t398 x6_2))) (ds := [11, 12]) (bm 14 0) (by kernel_rfl) rfl rfl (hx401_0) (fun hHeld => ?_); refine with_tabW numnahref08_precedences.tab11 numnahref08_precedences.bits11 (fun HT_ HW_ => ?_)
                   generalize wr.drew = w23 at HO_3 HO_5 HB hx401_0 hHeld ⊢
                   refine pure_ (i := 0) (N := some 31) (bm 14 1) rfl rfl (any_of HT_.out (by kernel_rfl)) (fun _ _ _ h => h) (.inl ⟨rfl, tY_⟩) tP_ ?_
                   refine pure_ (i := 1) (N := some 32) (bm 14 3) rfl rfl (any_of HT_.out (by kernel_rfl)) (fun _ _ _ h => h) (.inl ⟨rfl, tY_⟩) tP_ ?_
                   refine pure_ (i := 2) (N := some 33) (bm 14 7) rfl rfl (any_of HT_.out (by kernel_rfl)) (fun _ _ _ h => h) (.inl ⟨rfl, tY_⟩) tP_ ?_
                   refine pure_ (i := 3) (N := some 34) (bm 14 15) rfl rfl (any_of HT_.out (by kernel_rfl)) (fun _ _ _ h => h) (.inl ⟨rfl, tY_⟩) tP_ ?_
                   refine pure_ (i := 4) (N := some 35) (bm 14 31) rfl rfl (any_of HT_.out (by kernel_rfl)) (fun _ _ _ h => h) (.inl ⟨rfl, tY_⟩) tP_ ?_
                   refine pure_ (i := 5) (N := some 36) (bm 14 63) rfl rfl (any_of HT_.out (by kernel_rfl)) (fun _ _ _ h => h) (.inl ⟨rfl, tY_⟩) tP_ ?_
                   refine pure_ (i := 6) (N := some 37) (bm 14 127) rfl rfl (any_of HT_.out (by kernel_rfl)) (fun _ _ _ h => h) (.inl ⟨rfl, tY_⟩) tP_ ?_
                   refine pure_ (i := 7) (N := some 38) (bm 14 255) rfl rfl (any_of HT_.out (by kernel_rfl)) (fun _ _ _ h => h) (.inl ⟨rfl, tY_⟩) tP_ ?_
                   refine pure_ (i := 8) (N := some 39) (bm 14 511) rfl rfl (any_of HT_.out (by kernel_rfl)) (fun _ _ _ h => h) (.inl ⟨rfl, tY_⟩) tP_ ?_
                   refine take_ (i := 9) (N := some 40) (v := ?_) (a' := ?_) (bm 14 1023) rfl rfl (take_ofW HT_.out HW_.out (by kernel_rfl)) (fun _ _ _ h => h) (Or.inl ⟨by rfl, ?_⟩) hHeld ?_ ?_; rotate_left
                   ·intro w' s0
                    go_simp
                    with_reducible rfl
                   rotate_left; exact tP_
                   refine pure_ (i := 10) (N := some 41) (bm 14 2047) rfl rfl (any_of HT_.out (by kernel_rfl)) (fun _ _ _ h => h) (.inl ⟨rfl, tY_⟩) tP_ ?_
                   refine last_ (i := 11) (N := some 42) (bm 14 4095) rfl rfl (one_of HT_.out (by kernel_rfl)) (by decide) (fun K hK => ?_)
                   refine value_ (w1 := ?_) (v := ?_) (by rfl) rfl ?_ ?_
                   rotate_left 2
                   ·go_simp
                    constructor
                    ·rfl
                    ·rfl
                   refine hK.out _ _ ?_
                   clear hK K
                   refine norm_ (a' := ?_) ?_ ?_; rotate_left; (show Act.put _ (some 42) _ = _; exact tP_)
                   refine last_ (i := 12) (N := some 43) (bm 14 8191) rfl rfl (one_of HT_.out (by kernel_rfl)) (by decide) (fun K hK => ?_)
                   refine Kd.R_append_step Kd.string (w0 := w) w.heap.size (by rfl) (.tmp 31) (.tmp 42) 36 9 (.string ⟨#[]⟩) 16 rfl Tryz.underlying36 info9 rfl (by decide) (by omega) u3 x3_2 ((a0.extract (x4_1 : Int).toNat ((wrap64 (x4_1 + 1)) : Int).toNat) ++ (rdOf ByteArray.empty t398 x6_2)) [.string ((a0.extract (x4_1 : Int).toNat ((wrap64 (x4_1 + 1)) : Int).toNat) ++ (rdOf ByteArray.empty t398 x6_2))] (fun k_ => some k_ ≠ (.slice (some ad401) t398.length co22 : Value).ownBlock) (fun _ => False) rfl rfl ?aP (fun _ hk => hk.elim) ?aF ?aO ?aB ?aS ?aL ?_
                   (case aP => exact rfl)
                   (case aB => exact (tB_ HB))
                   (case aF => exact (fun k_ hk => Kd.fresh' (Kd.R_lt (tR_ HO_5)) k_ hk))
                   (case aO => exact (tR_ HO_3))
                   (case aS => exact (below_size (tB_ HB)))
                   (case aL => have := LMc21.out; omega)
                   intro v403 w24 ho hb hg hat
                   rw [← Ny402.out] at ho
                   have n0_ := Aside0.mk (Kd.R_after (ok := (fun _ => True)) (by (with_reducible repeat (first | apply Kd.R_alloc | apply Kd.R_drewN | apply Kd.R_drew)); exact Kd.R_mono HO_5.out (fun _ hk => ⟨trivial, hk⟩)) hg hat)
                   have n1_ := Aside0.mk (hb)
                   have n2_ := Aside0.mk (ho)
                   clear HO_5
                   clear HB
                   clear HO_3
                   have HO_5 := n0_
                   have HB := n1_
                   have HO404 := n2_
                   clear n0_ n1_ n2_
                   clear ho hb hg hat
                   refine hK.out _ _ ?_
                   clear hK K
                   refine norm_ (a' := ?_) ?_ ?_; rotate_left; (show Act.put _ (some 43) _ = _; exact tP_)
                   refine pure_ (i := 13) (N := some 3) (bm 14 16383) rfl rfl (any_of HT_.out (by kernel_rfl)) (fun _ _ _ h => h) (.inl ⟨rfl, tY_⟩) tP_ ?_
                   refine done_ (done_of HT_.out (by kernel_rfl)) ?_
                   try go_wp2
                   go_roundg k2
                   case measure => have := HK1.out; have := HK2.out; omega
                   case rel => exact ⟨(y402), (wrap64 (x6_2 + 1)), tS_, H', ⟨by have := HK1.out; have := HK2.out; omega⟩, ⟨by (with_reducible repeat (first | apply Kd.R_alloc | apply Kd.R_drewN | apply Kd.R_drew)); exact HO404.out⟩, ⟨by (with_reducible repeat (first | apply Kd.R_alloc | apply Kd.R_drewN | apply Kd.R_drew)); exact Kd.R_mono HO_5.out (fun _ hk => hk.2)⟩, ⟨by repeat (first | (with_reducible first | exact HB.out | apply below_alloc | apply pw_below_drewN | apply below_drew1) | exact HB.out)⟩⟩
                  ·rw [if_neg c21] at H
                   exact absurd H (by simp)
                 ·rw [if_neg c20] at H
                  exact absurd H (by simp)
                ·rw [if_neg c19] at H
                 exact absurd H (by simp)
               ·rw [if_neg c18] at H
                exact absurd H (by simp)
              ·rw [if_neg c17] at H
               exact absurd H (by simp)
             ·rw [if_neg c16] at H
              exact absurd H (by simp)
            ·rw [if_neg c15] at H
             have c15b0 : decide (x6_2 < (t398.length : Int)) = false := decide_eq_false c15
             clear c15
             have H' := Aside0.mk H
             clear H
             obtain ⟨Ao25, co25, eo25⟩ := Kd.R_slice HO_5.out
             subst eo25
             go_wp2
             go_roundg k2
             case measure => have := HK1.out; have := HK2.out; omega
             case rel => exact ⟨(x3_2), (wrap64 (x4_1 + 1)), tS_, H', ⟨by have := HK1.out; have := HK2.out; omega⟩, ⟨by (with_reducible repeat (first | apply Kd.R_alloc | apply Kd.R_drewN | apply Kd.R_drew)); exact Kd.R_mono HO_3.out (fun _ hk => trivial)⟩, ⟨by repeat (first | (with_reducible first | exact HB.out | apply below_alloc | apply pw_below_drewN | apply below_drew1) | exact HB.out)⟩⟩
         ·rw [if_neg c11] at H
          exact absurd H (by simp)
        ·rw [if_neg c10] at H
         exact absurd H (by simp)
       ·rw [if_neg c9] at H
        exact absurd H (by simp)
      ·rw [if_neg c7] at H
       exact absurd H (by simp)
     ·rw [if_neg c6] at H
      exact absurd H (by simp)
    ·rw [if_neg c5] at H
     have c5b0 : decide (x4_1 < (a0.size : Int)) = false := decide_eq_false c5
     clear c5
     obtain rfl := Option.some.inj H
     go_wp2
     go_ret
     exact ⟨_, by first | rfl | (simp [errW_none, errW_some] <;> rfl) | (simp [*, errW_none, errW_some] <;> rfl), by (with_reducible repeat (first | apply Kd.R_alloc | apply Kd.R_drewN | apply Kd.R_drew)); exact HO_3.out, by repeat (first | (with_reducible first | exact HB.out | apply below_alloc | apply pw_below_drewN | apply below_drew1) | exact HB.out)⟩

end Go.Proofs.YtaafeallcaiooaaGreat.Pr
-- indented by one
