import Derived.Test.YtaafeallcaiooaaGreatPr0
import Derived.Test.YtaafeallcaiooaaGreatPrA5
import Derived.Test.YtaafeallcaiooaaGreatPrD1
import Derived.Test.YtaafeallcaiooaaGreatPrD2
import Derived.Test.YtaafeallcaiooaaGreatPrA3
import Derived.Test.YtaafeallcaiooaaGreatPrA4
import Derived.Test.YtaafeallcaiooaaGreatPrB1
-- Laid by wip/tools/inj.py of this project, which drives the kit's printer. Lean checks it.
namespace Go.Proofs.YtaafeallcaiooaaGreat.Pr
open Go.RowKit Go.Proofs.YtaafeallcaiooaaGreatW.PrintWords Go.Proofs.YtaafeallcaiooaaGreatW.PrintLast Go.Proofs.YtaafeallcaiooaaGreatW.PrintMore
attribute [local go_sem] max2_int min2_int max_two min_two max_three min_three max_four min_four   -- for this text's walks alone
set_option linter.unusedVariables false
set_option linter.unusedSimpArgs false

/-! ### numnahref08_Loop: function 32 -/
noncomputable def numnahref08_Loop.l0 : Nat → List (S94) → List ByteArray → Int → Option (Bool)
 | 0, _, _, _ => none
 | k + 1, x0, x1, x5 => if x5 < (x1.length : Int) then (if 0 ≤ (wrap64 (x5 - 1)) then (if (wrap64 (x5 - 1)) < (x1.length : Int) then ((numnahref08_Next.f k x0 (rdOf ByteArray.empty x1 (wrap64 (x5 - 1)))).bind fun t286 => (if 0 ≤ x5 then ((numnahref08_has.f k t286 (rdOf ByteArray.empty x1 x5)).bind fun t290 => (if t290 = true then (numnahref08_Loop.l0 k x0 x1 (wrap64 (x5 + 1))) else (some false))) else (none))) else (none)) else (none)) else (if (x1.length : Int) ≥ 2 then (if 0 < (x1.length : Int) then (if 0 ≤ (wrap64 ((x1.length : Int) - 1)) then (if (wrap64 ((x1.length : Int) - 1)) < (x1.length : Int) then ((numnahref08_Returns.f k (rdOf ByteArray.empty x1 0) (rdOf ByteArray.empty x1 (wrap64 ((x1.length : Int) - 1)))).bind fun t284 => (some t284)) else (none)) else (none)) else (none)) else (some false))
noncomputable def numnahref08_Loop.f (k : Nat) (l0 : List (S94)) (l1 : List ByteArray) : Option (Bool) := numnahref08_Loop.l0 k l0 l1 1
theorem numnahref08_Loop.mono_l : ∀ k, (∀ y0 y1 y2, LeO (numnahref08_Loop.l0 k y0 y1 y2) (numnahref08_Loop.l0 (k + 1) y0 y1 y2))
 | 0 => fun _ _ _ r h => by simp [numnahref08_Loop.l0] at h
 | k + 1 => by
  have ih0 := numnahref08_Loop.mono_l k
  ·intro y0 y1 y2
   unfold numnahref08_Loop.l0
   repeat' first
   | (with_reducible exact ih0 _ _ _)
   | (with_reducible exact numnahref08_Next.mono _ _ _)
   | (with_reducible exact numnahref08_Returns.mono _ _ _)
   | (with_reducible exact numnahref08_has.mono _ _ _)
   | (with_reducible exact LeO.refl _)
   | (with_reducible exact LeO.none _)
   | (with_reducible refine LeO.ite ?_ ?_)
   | (with_reducible refine LeO.bind ?_ (fun _ => ?_))
   | exact ih0 _ _ _
   | exact numnahref08_Next.mono _ _ _
   | exact numnahref08_Returns.mono _ _ _
   | exact numnahref08_has.mono _ _ _
   | exact LeO.none _
   | refine LeO.ite ?_ ?_
   | refine LeO.bind ?_ (fun _ => ?_)
theorem numnahref08_Loop.mono : ∀ a0 a1 k, LeO (numnahref08_Loop.f k a0 a1) (numnahref08_Loop.f (k + 1) a0 a1) := by
 intro a0 a1 k
 have ih0 := numnahref08_Loop.mono_l k
 unfold numnahref08_Loop.f
 repeat' first
   | (with_reducible exact ih0 _ _ _)
   | (with_reducible exact numnahref08_Next.mono _ _ _)
   | (with_reducible exact numnahref08_Returns.mono _ _ _)
   | (with_reducible exact numnahref08_has.mono _ _ _)
   | (with_reducible exact LeO.refl _)
   | (with_reducible exact LeO.none _)
   | (with_reducible refine LeO.ite ?_ ?_)
   | (with_reducible refine LeO.bind ?_ (fun _ => ?_))
   | exact ih0 _ _ _
   | exact numnahref08_Next.mono _ _ _
   | exact numnahref08_Returns.mono _ _ _
   | exact numnahref08_has.mono _ _ _
   | exact LeO.none _
   | refine LeO.ite ?_ ?_
   | refine LeO.bind ?_ (fun _ => ?_)
def numnahref08_Loop.T4 : Bool × List (List Nat × List Nat) := (true, [([], []), ([], []), ([], []), ([2], [2]), ([1, 3], [1, 3]), ([4], [4]), ([0, 5], [0, 5]), ([], []), ([], []), ([7, 8], [7, 8]), ([9], [9]), ([6, 10, 6], [6, 10]), ([11], [11])])
def numnahref08_Loop.B4 : List Nat := [0, 0, 0, 4, 14, 30, 63, 0, 0, 384, 896, 2047, 4095]
theorem numnahref08_Loop.tab4 : rtab .any (opsOf Tryz.f32 4) = numnahref08_Loop.T4 := by kernel_rfl
theorem numnahref08_Loop.bits4 : waitsOk numnahref08_Loop.T4.2 numnahref08_Loop.B4 = true := by kernel_rfl
def numnahref08_Loop.T6 : Bool × List (List Nat × List Nat) := (true, [([], []), ([0], [0]), ([1], [1]), ([2], [2]), ([3], [3]), ([4, 3], [3, 4]), ([5, 3], [3, 5]), ([3], [3]), ([3], [3]), ([8, 3], [3, 8]), ([9, 3], [3, 9]), ([7, 10, 3], [3, 7, 10]), ([11, 3], [3, 11]), ([6, 12, 3, 3], [3, 6, 12]), ([3, 13], [3, 13]), ([14, 13, 0, 1, 2, 3, 4, 5, 6, 7, 8, 9, 10, 11, 12, 13, 14], [14])])
def numnahref08_Loop.B6 : List Nat := [0, 1, 3, 7, 15, 31, 63, 15, 15, 271, 783, 1935, 3983, 8191, 16383, 32767]
theorem numnahref08_Loop.tab6 : rtab .any (opsOf Tryz.f32 6) = numnahref08_Loop.T6 := by kernel_rfl
theorem numnahref08_Loop.bits6 : waitsOk numnahref08_Loop.T6.2 numnahref08_Loop.B6 = true := by kernel_rfl
set_option maxHeartbeats 8000000 in
set_option maxRecDepth 100000 in
theorem numnahref08_Loop.calls (k : Nat) (A0 : Option Addr) (c0 : Nat) (l0 : List (S94)) (A1 : Option Addr) (c1 : Nat) (l1 : List ByteArray) (r : Bool) (w : World) (hr0 : Kd.C k94 w A0 l0.length l0) (hc0 : l0.length ≤ c0) (hr1 : Kd.C Kd.string w A1 l1.length l1) (hc1 : l1.length ≤ c1) (h : numnahref08_Loop.f k l0 l1 = some r) :
  Calls Tryz.prog 32 #[.slice A0 l0.length c0, .slice A1 l1.length c1] w fun e w' => e = .returned (.bool r) ∧ Below w.heap.size w w' := by
 have HR0 := Aside0.mk hr0
 have HC0 := Aside0.mk hc0
 clear hr0 hc0
 have HR1 := Aside0.mk hr1
 have HC1 := Aside0.mk hc1
 clear hr1 hc1
 have HB := Aside0.mk (Below.refl w.heap.size w)
 have H : (numnahref08_Loop.l0 k l0 l1 1) = some r := h
 clear h
 have H' := Aside0.mk H
 clear H
 go_enter Tryz.func32, Tryz.ntmps32
 go_wp2
 go_loopg [5] k (fun kq v5 w' => ∃ (x5_1 : Int), v5 = .int .i64 x5_1 ∧ Aside0 (numnahref08_Loop.l0 kq l0 l1 x5_1 = some r) ∧ Aside0 (kq ≤ k) ∧ Aside0 (Below w.heap.size w w'))
 case atStart => exact ⟨(1), tS_, H', ⟨Nat.le_refl _⟩, ⟨by repeat (first | (with_reducible first | exact HB.out | apply below_alloc | apply pw_below_drewN | apply below_drew1) | exact HB.out)⟩⟩
 case round =>
  clear H'
  try clear c1
  try clear p2
  obtain ⟨x5_1, rfl, HA, HK1, HB⟩ := hrel
  cases gk with
  | zero => exact absurd HA.out (by simp [numnahref08_Loop.l0])
  | succ k1 =>
   have H := HA.out
   clear HA
   simp only [numnahref08_Loop.l0] at H
   by_cases c3 : x5_1 < (l1.length : Int)
   ·rw [if_pos c3] at H
    have c3b0 : decide (x5_1 < (l1.length : Int)) = true := decide_eq_true c3
    clear c3
    obtain ⟨ji4, hji4⟩ : ∃ j_ : Int, (wrap64 (x5_1 - 1)) = j_ := ⟨_, rfl⟩
    replace H : (if 0 ≤ (ji4) then (if (ji4) < (l1.length : Int) then ((numnahref08_Next.f k1 l0 (rdOf ByteArray.empty l1 (ji4))).bind fun t286 => (if 0 ≤ x5_1 then ((numnahref08_has.f k1 t286 (rdOf ByteArray.empty l1 x5_1)).bind fun t290 => (if t290 = true then (numnahref08_Loop.l0 k1 l0 l1 (wrap64 (x5_1 + 1))) else (some false))) else (none))) else (none)) else (none)) = some r := by first | (rw [hji4] at H; exact H) | (simp only [hji4] at H ⊢; exact H)
    have hji4w : (IntKind.i64.wrap (x5_1 - 1)) = ji4 := (i64_w _).trans hji4
    by_cases c5 : 0 ≤ (ji4)
    ·rw [if_pos c5] at H
     have c5b0 : decide (0 ≤ (ji4)) = true := decide_eq_true c5
     clear c5
     by_cases c6 : (ji4) < (l1.length : Int)
     ·rw [if_pos c6] at H
      have c6b0 : decide ((ji4) < (l1.length : Int)) = true := decide_eq_true c6
      clear c6
      replace H := Option.bind_eq_some_iff.mp H
      obtain ⟨t286, A70, H⟩ := H
      replace H : (if 0 ≤ x5_1 then ((numnahref08_has.f k1 t286 (rdOf ByteArray.empty l1 x5_1)).bind fun t290 => (if t290 = true then (numnahref08_Loop.l0 k1 l0 l1 (wrap64 (x5_1 + 1))) else (some false))) else (none)) = some r := H
      have A7 := Aside0.mk A70
      clear A70
      by_cases c8 : 0 ≤ x5_1
      ·rw [if_pos c8] at H
       have c8b0 : decide (0 ≤ x5_1) = true := decide_eq_true c8
       clear c8
       replace H := Option.bind_eq_some_iff.mp H
       obtain ⟨t290, A90, H⟩ := H
       replace H : (if t290 = true then (numnahref08_Loop.l0 k1 l0 l1 (wrap64 (x5_1 + 1))) else (some false)) = some r := H
       have A9 := Aside0.mk A90
       clear A90
       by_cases c10 : t290 = true
       ·subst c10
        have H1 : (numnahref08_Loop.l0 k1 l0 l1 (wrap64 (x5_1 + 1))) = some r := by rw [if_pos rfl] at H; exact H
        clear H
        have H := H1
        clear H1
        have H' := Aside0.mk H
        clear H
        try go_wp2
        have n0_ := Aside0.mk (below_drew1 HB.out)
        clear HB
        have HB := n0_
        clear n0_
        have p285 : 0 ≤ ((ji4) : Int) := of_decide_eq_true tA_
        have q285 : (ji4) < (l1.length : Int) := of_decide_eq_true tA_
        obtain ⟨ad285, e285, hx285_0⟩ := Kd.at_string HR1.out (ji4) p285 q285
        have hw285_0 := hx285_0
        cases e285
        replace hx285_0 := (HB.out.cell (World.block_lt_of_cell? w _ hx285_0)).trans hx285_0
        replace p285 := eq_true p285
        replace q285 := eq_true q285
        have p289 : 0 ≤ (x5_1 : Int) := of_decide_eq_true tA_
        have q289 : x5_1 < (l1.length : Int) := of_decide_eq_true tA_
        obtain ⟨ad289, e289, hx289_0⟩ := Kd.at_string HR1.out x5_1 p289 q289
        have hw289_0 := hx289_0
        obtain rfl : ad285 = ad289 := (by injection e289)
        replace hx289_0 := (HB.out.cell (World.block_lt_of_cell? w _ hx289_0)).trans hx289_0
        replace p289 := eq_true p289
        replace q289 := eq_true q289
        refine start_ (n := 13) (S := fun w' => w'.cell? (ad285.add ((ji4)).toNat) = some (.string (rdOf ByteArray.empty l1 (ji4))) ∧ w'.cell? (ad285.add (x5_1).toNat) = some (.string (rdOf ByteArray.empty l1 x5_1))) (ds := []) (bm 13 0) (by kernel_rfl) rfl rfl ⟨((HB.out.cell (World.block_lt_of_cell? w _ hw285_0)).trans hw285_0), ((HB.out.cell (World.block_lt_of_cell? w _ hw289_0)).trans hw289_0)⟩ (fun hHeld => ?_); refine with_tabW numnahref08_Loop.tab4 numnahref08_Loop.bits4 (fun HT_ HW_ => ?_)
        generalize wr.drew = w11 at HB hx285_0 hx289_0 hHeld ⊢
        refine pure_ (i := 0) (N := some 12) (bm 13 1) rfl rfl (any_of HT_.out (by kernel_rfl)) (fun _ _ _ h => h) (.inl ⟨rfl, tY_⟩) tP_ ?_
        refine pure_ (i := 1) (N := some 13) (bm 13 3) rfl rfl (any_of HT_.out (by kernel_rfl)) (fun _ _ _ h => h) (.inl ⟨rfl, tY_⟩) tP_ ?_
        refine pure_ (i := 2) (N := some 14) (bm 13 7) rfl rfl (any_of HT_.out (by kernel_rfl)) (fun _ _ _ h => h) (.inl ⟨rfl, tY_⟩) tP_ ?_
        refine pure_ (i := 3) (N := some 15) (bm 13 15) rfl rfl (any_of HT_.out (by kernel_rfl)) (fun _ _ _ h => h) (.inl ⟨rfl, tY_⟩) tP_ ?_
        refine pure_ (i := 4) (N := some 16) (bm 13 31) rfl rfl (any_of HT_.out (by kernel_rfl)) (fun _ _ _ h => h) (.inl ⟨rfl, tY_⟩) tP_ ?_
        refine pure_ (i := 7) (N := some 19) (bm 13 159) rfl rfl (any_of HT_.out (by kernel_rfl)) (fun _ _ _ h => h) (.inl ⟨rfl, tY_⟩) tP_ ?_
        refine pure_ (i := 8) (N := some 20) (bm 13 415) rfl rfl (any_of HT_.out (by kernel_rfl)) (fun _ _ _ h => h) (.inl ⟨rfl, tY_⟩) tP_ ?_
        refine pure_ (i := 9) (N := some 21) (bm 13 927) rfl rfl (any_of HT_.out (by kernel_rfl)) (fun _ _ _ h => h) (.inl ⟨rfl, tY_⟩) tP_ ?_
        refine take_ (i := 5) (N := some 17) (v := ?_) (a' := ?_) (bm 13 959) rfl rfl (take_ofW HT_.out HW_.out (by kernel_rfl)) (fun _ _ _ h => h) (Or.inl ⟨by rfl, ?_⟩) hHeld ?_ ?_; rotate_left; (rintro w' ⟨s0, s1⟩; go_simp; with_reducible rfl); rotate_left; exact tP_
        refine take_ (i := 10) (N := some 22) (v := ?_) (a' := ?_) (bm 13 1983) rfl rfl (take_ofW HT_.out HW_.out (by kernel_rfl)) (fun _ _ _ h => h) (Or.inl ⟨by rfl, ?_⟩) hHeld ?_ ?_; rotate_left; (rintro w' ⟨s0, s1⟩; go_simp; with_reducible rfl); rotate_left; exact tP_
        refine one_ (i := 6) (N := some 18) (bm 13 2047) rfl rfl (one_of HT_.out (by kernel_rfl)) (by decide) (fun K hK => ?_)
        refine goes_ Tryz.func51 (by kernel_rfl) rfl #[.slice A0 l0.length c0, .string (rdOf ByteArray.empty l1 (ji4))] (by rfl) rfl rfl (by (try simp only [List.map_toArray, List.map_cons, List.map_nil]); first | done | (simp only [hji4]; rfl) | rfl | (simp only [List.length_drop, List.length_take]; rfl)) ?_
        with_reducible refine (numnahref08_Next.calls k1 _ _ l0 (rdOf ByteArray.empty l1 (ji4)) t286 _ ?side1 ?side2 A7.out).mono ?_
        (case side1 => repeat (first | exact (Kd.C_below HR0.out HB.out) | (with_reducible refine Kd.C_alloc ?_ _) | (with_reducible refine Kd.C_drewN ?_ _) | (with_reducible refine Kd.C_drew ?_)))
        (case side2 => exact HC0.out)
        rintro e w12 ⟨v287, rfl, ho0, hb⟩
        refine ⟨_, rfl, ?_⟩
        have n0_ := Aside0.mk (Kd.R_lower ho0 (below_size (tB_ HB)))
        have n1_ := Aside0.mk (below_step (tB_ HB) hb)
        clear HB
        have HO288 := n0_
        have HB := n1_
        clear n0_ n1_
        (try clear hb)
        (try clear hb2)
        (try clear hk)
        (try clear hi)
        (try clear ho0)
        obtain ⟨Ao13, co13, eo13⟩ := Kd.R_slice HO288.out
        (first | subst eo13 | (injection eo13 with f1_ f2_ f3_; have f4_ := f1_.symm; have f5_ := f3_.symm; clear f1_ f2_ f3_; subst f4_; subst f5_))
        refine hK.out _ _ ⟨((HB.out.cell (World.block_lt_of_cell? w _ hw285_0)).trans hw285_0), ((HB.out.cell (World.block_lt_of_cell? w _ hw289_0)).trans hw289_0)⟩ (fun hHeld => ?_)
        clear hK K
        refine norm_ (a' := ?_) ?_ ?_; rotate_left; (show Act.put _ (some 18) _ = _; exact tP_)
        refine one_ (i := 11) (N := some 23) (bm 13 4095) rfl rfl (one_of HT_.out (by kernel_rfl)) (by decide) (fun K hK => ?_)
        refine goes_ Tryz.func81 (by kernel_rfl) rfl #[.slice Ao13 t286.length co13, .string (rdOf ByteArray.empty l1 x5_1)] (by rfl) rfl rfl tM_ ?_
        with_reducible refine (numnahref08_has.calls k1 _ _ t286 (rdOf ByteArray.empty l1 x5_1) true _ ?side1 ?side2 A9.out).mono ?_
        (case side1 => repeat (first | exact (Kd.R_reads' HO288.out).2.2 | (with_reducible refine Kd.C_alloc ?_ _) | (with_reducible refine Kd.C_drewN ?_ _) | (with_reducible refine Kd.C_drew ?_)))
        (case side2 => exact (Kd.R_reads' HO288.out).2.1)
        rintro e w' ⟨rfl, ⟨nd, rfl⟩⟩
        refine ⟨_, rfl, ?_⟩
        refine hK.out _ _ ⟨((HB.out.cell (World.block_lt_of_cell? w _ hw285_0)).trans hw285_0), ((HB.out.cell (World.block_lt_of_cell? w _ hw289_0)).trans hw289_0)⟩ (fun hHeld => ?_)
        clear hK K
        refine norm_ (a' := ?_) ?_ ?_; rotate_left; (show Act.put _ (some 23) _ = _; exact tP_)
        refine pure_ (i := 12) (N := some 24) (bm 13 8191) rfl rfl (any_of HT_.out (by kernel_rfl)) (fun _ _ _ h => h) (.inl ⟨rfl, tY_⟩) tP_ ?_
        refine done_ (done_of HT_.out (by kernel_rfl)) ?_
        try go_wp2
        go_roundg k1
        case measure => have := HK1.out; omega
        case rel => exact ⟨(wrap64 (x5_1 + 1)), tS_, H', ⟨by have := HK1.out; omega⟩, ⟨by repeat (first | (with_reducible first | exact HB.out | apply below_alloc | apply pw_below_drewN | apply below_drew1) | exact HB.out)⟩⟩
       ·replace c10 := Bool.eq_false_iff.mpr c10
        subst c10
        have H1 : (some false) = some r := by rw [if_neg (show ¬ (false = true) by decide)] at H; exact H
        clear H
        have H := H1
        clear H1
        obtain rfl := Option.some.inj H
        try go_wp2
        have n0_ := Aside0.mk (below_drew1 HB.out)
        clear HB
        have HB := n0_
        clear n0_
        have p285 : 0 ≤ ((ji4) : Int) := of_decide_eq_true tA_
        have q285 : (ji4) < (l1.length : Int) := of_decide_eq_true tA_
        obtain ⟨ad285, e285, hx285_0⟩ := Kd.at_string HR1.out (ji4) p285 q285
        have hw285_0 := hx285_0
        cases e285
        replace hx285_0 := (HB.out.cell (World.block_lt_of_cell? w _ hx285_0)).trans hx285_0
        replace p285 := eq_true p285
        replace q285 := eq_true q285
        have p289 : 0 ≤ (x5_1 : Int) := of_decide_eq_true tA_
        have q289 : x5_1 < (l1.length : Int) := of_decide_eq_true tA_
        obtain ⟨ad289, e289, hx289_0⟩ := Kd.at_string HR1.out x5_1 p289 q289
        have hw289_0 := hx289_0
        obtain rfl : ad285 = ad289 := (by injection e289)
        replace hx289_0 := (HB.out.cell (World.block_lt_of_cell? w _ hx289_0)).trans hx289_0
        replace p289 := eq_true p289
        replace q289 := eq_true q289
        refine start_ (n := 13) (S := fun w' => w'.cell? (ad285.add ((ji4)).toNat) = some (.string (rdOf ByteArray.empty l1 (ji4))) ∧ w'.cell? (ad285.add (x5_1).toNat) = some (.string (rdOf ByteArray.empty l1 x5_1))) (ds := []) (bm 13 0) (by kernel_rfl) rfl rfl ⟨((HB.out.cell (World.block_lt_of_cell? w _ hw285_0)).trans hw285_0), ((HB.out.cell (World.block_lt_of_cell? w _ hw289_0)).trans hw289_0)⟩ (fun hHeld => ?_); refine with_tabW numnahref08_Loop.tab4 numnahref08_Loop.bits4 (fun HT_ HW_ => ?_)
        generalize wr.drew = w14 at HB hx285_0 hx289_0 hHeld ⊢
        refine pure_ (i := 0) (N := some 12) (bm 13 1) rfl rfl (any_of HT_.out (by kernel_rfl)) (fun _ _ _ h => h) (.inl ⟨rfl, tY_⟩) tP_ ?_
        refine pure_ (i := 1) (N := some 13) (bm 13 3) rfl rfl (any_of HT_.out (by kernel_rfl)) (fun _ _ _ h => h) (.inl ⟨rfl, tY_⟩) tP_ ?_
        refine pure_ (i := 2) (N := some 14) (bm 13 7) rfl rfl (any_of HT_.out (by kernel_rfl)) (fun _ _ _ h => h) (.inl ⟨rfl, tY_⟩) tP_ ?_
        refine pure_ (i := 3) (N := some 15) (bm 13 15) rfl rfl (any_of HT_.out (by kernel_rfl)) (fun _ _ _ h => h) (.inl ⟨rfl, tY_⟩) tP_ ?_
        refine pure_ (i := 4) (N := some 16) (bm 13 31) rfl rfl (any_of HT_.out (by kernel_rfl)) (fun _ _ _ h => h) (.inl ⟨rfl, tY_⟩) tP_ ?_
        refine pure_ (i := 7) (N := some 19) (bm 13 159) rfl rfl (any_of HT_.out (by kernel_rfl)) (fun _ _ _ h => h) (.inl ⟨rfl, tY_⟩) tP_ ?_
        refine pure_ (i := 8) (N := some 20) (bm 13 415) rfl rfl (any_of HT_.out (by kernel_rfl)) (fun _ _ _ h => h) (.inl ⟨rfl, tY_⟩) tP_ ?_
        refine pure_ (i := 9) (N := some 21) (bm 13 927) rfl rfl (any_of HT_.out (by kernel_rfl)) (fun _ _ _ h => h) (.inl ⟨rfl, tY_⟩) tP_ ?_
        refine take_ (i := 5) (N := some 17) (v := ?_) (a' := ?_) (bm 13 959) rfl rfl (take_ofW HT_.out HW_.out (by kernel_rfl)) (fun _ _ _ h => h) (Or.inl ⟨by rfl, ?_⟩) hHeld ?_ ?_; rotate_left; (rintro w' ⟨s0, s1⟩; go_simp; with_reducible rfl); rotate_left; exact tP_
        refine take_ (i := 10) (N := some 22) (v := ?_) (a' := ?_) (bm 13 1983) rfl rfl (take_ofW HT_.out HW_.out (by kernel_rfl)) (fun _ _ _ h => h) (Or.inl ⟨by rfl, ?_⟩) hHeld ?_ ?_; rotate_left; (rintro w' ⟨s0, s1⟩; go_simp; with_reducible rfl); rotate_left; exact tP_
        refine one_ (i := 6) (N := some 18) (bm 13 2047) rfl rfl (one_of HT_.out (by kernel_rfl)) (by decide) (fun K hK => ?_)
        refine goes_ Tryz.func51 (by kernel_rfl) rfl #[.slice A0 l0.length c0, .string (rdOf ByteArray.empty l1 (ji4))] (by rfl) rfl rfl (by (try simp only [List.map_toArray, List.map_cons, List.map_nil]); first | done | (simp only [hji4]; rfl) | rfl | (simp only [List.length_drop, List.length_take]; rfl)) ?_
        with_reducible refine (numnahref08_Next.calls k1 _ _ l0 (rdOf ByteArray.empty l1 (ji4)) t286 _ ?side1 ?side2 A7.out).mono ?_
        (case side1 => repeat (first | exact (Kd.C_below HR0.out HB.out) | (with_reducible refine Kd.C_alloc ?_ _) | (with_reducible refine Kd.C_drewN ?_ _) | (with_reducible refine Kd.C_drew ?_)))
        (case side2 => exact HC0.out)
        rintro e w15 ⟨v287, rfl, ho0, hb⟩
        refine ⟨_, rfl, ?_⟩
        have n0_ := Aside0.mk (Kd.R_lower ho0 (below_size (tB_ HB)))
        have n1_ := Aside0.mk (below_step (tB_ HB) hb)
        clear HB
        have HO288 := n0_
        have HB := n1_
        clear n0_ n1_
        (try clear hb)
        (try clear hb2)
        (try clear hk)
        (try clear hi)
        (try clear ho0)
        obtain ⟨Ao16, co16, eo16⟩ := Kd.R_slice HO288.out
        (first | subst eo16 | (injection eo16 with f1_ f2_ f3_; have f4_ := f1_.symm; have f5_ := f3_.symm; clear f1_ f2_ f3_; subst f4_; subst f5_))
        refine hK.out _ _ ⟨((HB.out.cell (World.block_lt_of_cell? w _ hw285_0)).trans hw285_0), ((HB.out.cell (World.block_lt_of_cell? w _ hw289_0)).trans hw289_0)⟩ (fun hHeld => ?_)
        clear hK K
        refine norm_ (a' := ?_) ?_ ?_; rotate_left; (show Act.put _ (some 18) _ = _; exact tP_)
        refine one_ (i := 11) (N := some 23) (bm 13 4095) rfl rfl (one_of HT_.out (by kernel_rfl)) (by decide) (fun K hK => ?_)
        refine goes_ Tryz.func81 (by kernel_rfl) rfl #[.slice Ao16 t286.length co16, .string (rdOf ByteArray.empty l1 x5_1)] (by rfl) rfl rfl tM_ ?_
        with_reducible refine (numnahref08_has.calls k1 _ _ t286 (rdOf ByteArray.empty l1 x5_1) false _ ?side1 ?side2 A9.out).mono ?_
        (case side1 => repeat (first | exact (Kd.R_reads' HO288.out).2.2 | (with_reducible refine Kd.C_alloc ?_ _) | (with_reducible refine Kd.C_drewN ?_ _) | (with_reducible refine Kd.C_drew ?_)))
        (case side2 => exact (Kd.R_reads' HO288.out).2.1)
        rintro e w' ⟨rfl, ⟨nd, rfl⟩⟩
        refine ⟨_, rfl, ?_⟩
        refine hK.out _ _ ⟨((HB.out.cell (World.block_lt_of_cell? w _ hw285_0)).trans hw285_0), ((HB.out.cell (World.block_lt_of_cell? w _ hw289_0)).trans hw289_0)⟩ (fun hHeld => ?_)
        clear hK K
        refine norm_ (a' := ?_) ?_ ?_; rotate_left; (show Act.put _ (some 23) _ = _; exact tP_)
        refine pure_ (i := 12) (N := some 24) (bm 13 8191) rfl rfl (any_of HT_.out (by kernel_rfl)) (fun _ _ _ h => h) (.inl ⟨rfl, tY_⟩) tP_ ?_
        refine done_ (done_of HT_.out (by kernel_rfl)) ?_
        try go_wp2
        go_ret
        exact ⟨by first | rfl | (simp [errW_none, errW_some] <;> rfl) | (simp only [← hji4]; first | rfl | (simp [errW_none, errW_some] <;> rfl)) | (simp [*, errW_none, errW_some] <;> rfl), by repeat (first | (with_reducible first | exact HB.out | apply below_alloc | apply pw_below_drewN | apply below_drew1) | exact HB.out)⟩
      ·rw [if_neg c8] at H
       exact absurd H (by simp)
     ·rw [if_neg c6] at H
      exact absurd H (by simp)
    ·rw [if_neg c5] at H
     exact absurd H (by simp)
   ·rw [if_neg c3] at H
    have c3b0 : decide (x5_1 < (l1.length : Int)) = false := decide_eq_false c3
    clear c3
    by_cases c17 : (l1.length : Int) ≥ 2
    ·rw [if_pos c17] at H
     have c17b0 : decide (2 ≤ (l1.length : Int)) = true := decide_eq_true c17
     have c17b1 : decide (2 ≤ l1.length) = true := decide_eq_true (by omega)
     clear c17
     by_cases c18 : 0 < (l1.length : Int)
     ·rw [if_pos c18] at H
      have c18b0 : decide (0 < (l1.length : Int)) = true := decide_eq_true c18
      have c18b1 : decide (0 < l1.length) = true := decide_eq_true (by omega)
      clear c18
      obtain ⟨ji19, hji19⟩ : ∃ j_ : Int, (wrap64 ((l1.length : Int) - 1)) = j_ := ⟨_, rfl⟩
      replace H : (if 0 ≤ (ji19) then (if (ji19) < (l1.length : Int) then ((numnahref08_Returns.f k1 (rdOf ByteArray.empty l1 0) (rdOf ByteArray.empty l1 (ji19))).bind fun t284 => (some t284)) else (none)) else (none)) = some r := by first | (rw [hji19] at H; exact H) | (simp only [hji19] at H ⊢; exact H)
      have hji19w : (IntKind.i64.wrap ((l1.length : Int) - 1)) = ji19 := (i64_w _).trans hji19
      by_cases c20 : 0 ≤ (ji19)
      ·rw [if_pos c20] at H
       have c20b0 : decide (0 ≤ (ji19)) = true := decide_eq_true c20
       clear c20
       by_cases c21 : (ji19) < (l1.length : Int)
       ·rw [if_pos c21] at H
        have c21b0 : decide ((ji19) < (l1.length : Int)) = true := decide_eq_true c21
        clear c21
        replace H := Option.bind_eq_some_iff.mp H
        obtain ⟨t284, A220, H⟩ := H
        replace H : (some t284) = some r := H
        have A22 := Aside0.mk A220
        clear A220
        obtain rfl := Option.some.inj H
        try go_wp2
        have n0_ := Aside0.mk (below_drew1 HB.out)
        clear HB
        have HB := n0_
        clear n0_
        have p282 : 0 ≤ (0 : Int) := (by omega)
        have q282 : 0 < (l1.length : Int) := of_decide_eq_true tA_
        obtain ⟨ad282, e282, hx282_0⟩ := Kd.at_string HR1.out 0 p282 q282
        have hw282_0 := hx282_0
        (try rw [show ((0 : Int)).toNat = 0 from rfl] at hw282_0)
        (try rw [show 0 * 1 = 0 from rfl] at hw282_0)
        (try rw [Addr.add_zero'] at hw282_0)
        cases e282
        have qi282 : (0 < l1.length) = True := eq_true (by omega)
        (try rw [show ((0 : Int)).toNat = 0 from rfl] at hx282_0)
        (try rw [Addr.add_zero'] at hx282_0)
        replace hx282_0 := (HB.out.cell (World.block_lt_of_cell? w _ hx282_0)).trans hx282_0
        replace p282 := eq_true p282
        replace q282 := eq_true q282
        have p283 : 0 ≤ ((ji19) : Int) := of_decide_eq_true tA_
        have q283 : (ji19) < (l1.length : Int) := of_decide_eq_true tA_
        obtain ⟨ad283, e283, hx283_0⟩ := Kd.at_string HR1.out (ji19) p283 q283
        have hw283_0 := hx283_0
        obtain rfl : ad282 = ad283 := (by injection e283)
        replace hx283_0 := (HB.out.cell (World.block_lt_of_cell? w _ hx283_0)).trans hx283_0
        replace p283 := eq_true p283
        replace q283 := eq_true q283
        refine start_ (n := 16) (S := fun w' => w'.cell? ad282 = some (.string (rdOf ByteArray.empty l1 0)) ∧ w'.cell? (ad282.add ((ji19)).toNat) = some (.string (rdOf ByteArray.empty l1 (ji19)))) (ds := []) (bm 16 0) (by kernel_rfl) rfl rfl ⟨((HB.out.cell (World.block_lt_of_cell? w _ hw282_0)).trans hw282_0), ((HB.out.cell (World.block_lt_of_cell? w _ hw283_0)).trans hw283_0)⟩ (fun hHeld => ?_); refine with_tabW numnahref08_Loop.tab6 numnahref08_Loop.bits6 (fun HT_ HW_ => ?_)
        generalize wr.drew = w23 at HB hx282_0 hx283_0 hHeld ⊢
        refine pure_ (i := 0) (N := some 25) (bm 16 1) rfl rfl (any_of HT_.out (by kernel_rfl)) (fun _ _ _ h => h) (.inl ⟨rfl, tY_⟩) tP_ ?_
        refine pure_ (i := 1) (N := some 26) (bm 16 3) rfl rfl (any_of HT_.out (by kernel_rfl)) (fun _ _ _ h => h) (.inl ⟨rfl, tY_⟩) tP_ ?_
        refine pure_ (i := 2) (N := some 27) (bm 16 7) rfl rfl (any_of HT_.out (by kernel_rfl)) (fun _ _ _ h => h) (.inl ⟨rfl, tY_⟩) tP_ ?_
        refine pure_ (i := 3) (N := some 28) (bm 16 15) rfl rfl (any_of HT_.out (by kernel_rfl)) (fun _ _ _ h => h) (.inl ⟨rfl, tY_⟩) tP_ ?_
        refine pure_ (i := 4) (N := some 29) (bm 16 31) rfl rfl (any_of HT_.out (by kernel_rfl)) (fun _ _ _ h => h) (.inl ⟨rfl, tY_⟩) tP_ ?_
        refine pure_ (i := 5) (N := some 30) (bm 16 63) rfl rfl (any_of HT_.out (by kernel_rfl)) (fun _ _ _ h => h) (.inl ⟨rfl, tY_⟩) tP_ ?_
        refine pure_ (i := 7) (N := some 32) (bm 16 191) rfl rfl (any_of HT_.out (by kernel_rfl)) (fun _ _ _ h => h) (.inl ⟨rfl, tY_⟩) tP_ ?_
        refine pure_ (i := 8) (N := some 33) (bm 16 447) rfl rfl (any_of HT_.out (by kernel_rfl)) (fun _ _ _ h => h) (.inl ⟨rfl, tY_⟩) tP_ ?_
        refine pure_ (i := 9) (N := some 34) (bm 16 959) rfl rfl (any_of HT_.out (by kernel_rfl)) (fun _ _ _ h => h) (.inl ⟨rfl, tY_⟩) tP_ ?_
        refine pure_ (i := 10) (N := some 35) (bm 16 1983) rfl rfl (any_of HT_.out (by kernel_rfl)) (fun _ _ _ h => h) (.inl ⟨rfl, tY_⟩) tP_ ?_
        refine pure_ (i := 11) (N := some 36) (bm 16 4031) rfl rfl (any_of HT_.out (by kernel_rfl)) (fun _ _ _ h => h) (.inl ⟨rfl, tY_⟩) tP_ ?_
        refine take_ (i := 6) (N := some 31) (v := ?_) (a' := ?_) (bm 16 4095) rfl rfl (take_ofW HT_.out HW_.out (by kernel_rfl)) (fun _ _ _ h => h) (Or.inl ⟨by rfl, ?_⟩) hHeld ?_ ?_; rotate_left; (rintro w' ⟨s0, s1⟩; go_simp; with_reducible rfl); rotate_left; exact tP_
        refine take_ (i := 12) (N := some 37) (v := ?_) (a' := ?_) (bm 16 8191) rfl rfl (take_ofW HT_.out HW_.out (by kernel_rfl)) (fun _ _ _ h => h) (Or.inl ⟨by rfl, ?_⟩) hHeld ?_ ?_; rotate_left; (rintro w' ⟨s0, s1⟩; go_simp; with_reducible rfl); rotate_left; exact tP_
        refine one_ (i := 13) (N := some 38) (bm 16 16383) rfl rfl (one_of HT_.out (by kernel_rfl)) (by decide) (fun K hK => ?_)
        refine goes_ Tryz.func82 (by kernel_rfl) rfl #[.string (rdOf ByteArray.empty l1 0), .string (rdOf ByteArray.empty l1 (ji19))] (by rfl) rfl rfl (by (try simp only [List.map_toArray, List.map_cons, List.map_nil]); first | done | (simp only [hji19]; rfl) | rfl | (simp only [List.length_drop, List.length_take]; rfl)) ?_
        with_reducible refine (numnahref08_Returns.calls k1 (rdOf ByteArray.empty l1 0) (rdOf ByteArray.empty l1 (ji19)) t284 _ A22.out).mono ?_
        rintro e w24 ⟨rfl, hb⟩
        refine ⟨_, rfl, ?_⟩
        have n0_ := Aside0.mk (below_step (tB_ HB) hb)
        clear HB
        have HB := n0_
        clear n0_
        (try clear hb)
        (try clear hb2)
        (try clear hk)
        (try clear hi)
        refine hK.out _ _ ⟨((HB.out.cell (World.block_lt_of_cell? w _ hw282_0)).trans hw282_0), ((HB.out.cell (World.block_lt_of_cell? w _ hw283_0)).trans hw283_0)⟩ (fun hHeld => ?_)
        clear hK K
        refine norm_ (a' := ?_) ?_ ?_; rotate_left; (show Act.put _ (some 38) _ = _; exact tP_)
        refine pure_ (i := 14) (N := some 39) (bm 16 32767) rfl rfl (any_of HT_.out (by kernel_rfl)) (fun _ _ _ h => h) (.inl ⟨rfl, tY_⟩) tP_ ?_
        refine pure_ (i := 15) (N := some 4) (bm 16 65535) rfl rfl (any_of HT_.out (by kernel_rfl)) (fun _ _ _ h => h) (.inl ⟨rfl, tY_⟩) tP_ ?_
        refine done_ (done_of HT_.out (by kernel_rfl)) ?_
        try go_wp2
        go_ret
        exact ⟨by first | rfl | (simp [errW_none, errW_some] <;> rfl) | (simp only [← hji19]; first | rfl | (simp [errW_none, errW_some] <;> rfl)) | (simp [*, errW_none, errW_some] <;> rfl), by repeat (first | (with_reducible first | exact HB.out | apply below_alloc | apply pw_below_drewN | apply below_drew1) | exact HB.out)⟩
       ·rw [if_neg c21] at H
        exact absurd H (by simp)
      ·rw [if_neg c20] at H
       exact absurd H (by simp)
     ·rw [if_neg c18] at H
      exact absurd H (by simp)
    ·rw [if_neg c17] at H
     have c17b0 : decide (2 ≤ (l1.length : Int)) = false := decide_eq_false c17
     have c17b1 : decide (2 ≤ l1.length) = false := decide_eq_false (by omega)
     clear c17
     obtain rfl := Option.some.inj H
     try go_wp2
     have n0_ := Aside0.mk (below_drew1 HB.out)
     clear HB
     have HB := n0_
     clear n0_
     refine start_ (n := 16) (S := fun w' => True) (ds := []) (bm 16 0) (by kernel_rfl) rfl rfl trivial (fun hHeld => ?_); refine with_tabW numnahref08_Loop.tab6 numnahref08_Loop.bits6 (fun HT_ HW_ => ?_)
     generalize wr.drew = w25 at HB hHeld ⊢
     refine pure_ (i := 0) (N := some 25) (bm 16 1) rfl rfl (any_of HT_.out (by kernel_rfl)) (fun _ _ _ h => h) (.inl ⟨rfl, tY_⟩) tP_ ?_
     refine pure_ (i := 1) (N := some 26) (bm 16 3) rfl rfl (any_of HT_.out (by kernel_rfl)) (fun _ _ _ h => h) (.inl ⟨rfl, tY_⟩) tP_ ?_
     refine pure_ (i := 2) (N := some 27) (bm 16 7) rfl rfl (any_of HT_.out (by kernel_rfl)) (fun _ _ _ h => h) (.inl ⟨rfl, tY_⟩) tP_ ?_
     refine pure_ (i := 3) (N := some 28) (bm 16 15) rfl rfl (any_of HT_.out (by kernel_rfl)) (fun _ _ _ h => h) (.inl ⟨rfl, tY_⟩) tP_ ?_
     refine pure_ (i := 4) (N := some 29) (v := undef) (a' := ?_) (bm 16 31) rfl rfl (any_of HT_.out (by kernel_rfl)) (fun _ _ _ h => h) (Or.inr ⟨by rfl, rfl⟩) ?_ ?_; rotate_left; exact tP_
     refine pure_ (i := 5) (N := some 30) (v := undef) (a' := ?_) (bm 16 63) rfl rfl (any_of HT_.out (by kernel_rfl)) (fun _ _ _ h => h) (Or.inr ⟨by rfl, rfl⟩) ?_ ?_; rotate_left; exact tP_
     refine pure_ (i := 6) (N := some 31) (v := undef) (a' := ?_) (bm 16 127) rfl rfl (any_of HT_.out (by kernel_rfl)) (fun _ _ _ h => h) (Or.inr ⟨by rfl, rfl⟩) ?_ ?_; rotate_left; exact tP_
     refine pure_ (i := 7) (N := some 32) (v := undef) (a' := ?_) (bm 16 255) rfl rfl (any_of HT_.out (by kernel_rfl)) (fun _ _ _ h => h) (Or.inr ⟨by rfl, rfl⟩) ?_ ?_; rotate_left; exact tP_
     refine pure_ (i := 8) (N := some 33) (v := undef) (a' := ?_) (bm 16 511) rfl rfl (any_of HT_.out (by kernel_rfl)) (fun _ _ _ h => h) (Or.inr ⟨by rfl, rfl⟩) ?_ ?_; rotate_left; exact tP_
     refine pure_ (i := 9) (N := some 34) (v := undef) (a' := ?_) (bm 16 1023) rfl rfl (any_of HT_.out (by kernel_rfl)) (fun _ _ _ h => h) (Or.inr ⟨by rfl, rfl⟩) ?_ ?_; rotate_left; exact tP_
     refine pure_ (i := 10) (N := some 35) (v := undef) (a' := ?_) (bm 16 2047) rfl rfl (any_of HT_.out (by kernel_rfl)) (fun _ _ _ h => h) (Or.inr ⟨by rfl, rfl⟩) ?_ ?_; rotate_left; exact tP_
     refine pure_ (i := 11) (N := some 36) (v := undef) (a' := ?_) (bm 16 4095) rfl rfl (any_of HT_.out (by kernel_rfl)) (fun _ _ _ h => h) (Or.inr ⟨by rfl, rfl⟩) ?_ ?_; rotate_left; exact tP_
     refine pure_ (i := 12) (N := some 37) (v := undef) (a' := ?_) (bm 16 8191) rfl rfl (any_of HT_.out (by kernel_rfl)) (fun _ _ _ h => h) (Or.inr ⟨by rfl, rfl⟩) ?_ ?_; rotate_left; exact tP_
     refine pure_ (i := 13) (N := some 38) (v := undef) (a' := ?_) (bm 16 16383) rfl rfl (any_of HT_.out (by kernel_rfl)) (fun _ _ _ h => h) (Or.inr ⟨by rfl, rfl⟩) ?_ ?_; rotate_left; exact tP_
     refine pure_ (i := 14) (N := some 39) (bm 16 32767) rfl rfl (any_of HT_.out (by kernel_rfl)) (fun _ _ _ h => h) (.inl ⟨rfl, tY_⟩) tP_ ?_
     refine pure_ (i := 15) (N := some 4) (bm 16 65535) rfl rfl (any_of HT_.out (by kernel_rfl)) (fun _ _ _ h => h) (.inl ⟨rfl, tY_⟩) tP_ ?_
     refine done_ (done_of HT_.out (by kernel_rfl)) ?_
     try go_wp2
     go_ret
     exact ⟨by first | rfl | (simp [errW_none, errW_some] <;> rfl) | (simp [*, errW_none, errW_some] <;> rfl), by repeat (first | (with_reducible first | exact HB.out | apply below_alloc | apply pw_below_drewN | apply below_drew1) | exact HB.out)⟩

end Go.Proofs.YtaafeallcaiooaaGreat.Pr
-- indented by one
-- Laid by wip/tools/inj.py of this project, which drives the kit's printer. Lean checks it.
namespace Go.Proofs.YtaafeallcaiooaaGreat.Pr
open Go.RowKit Go.Proofs.YtaafeallcaiooaaGreatW.PrintWords Go.Proofs.YtaafeallcaiooaaGreatW.PrintLast Go.Proofs.YtaafeallcaiooaaGreatW.PrintMore
attribute [local go_sem] max2_int min2_int max_two min_two max_three min_three max_four min_four   -- for this text's walks alone
set_option linter.unusedVariables false
set_option linter.unusedSimpArgs false

/-! ### numnahlaw08_RulesLoops: function 4 -/
noncomputable def numnahlaw08_RulesLoops.l0 : Nat → List (S94) → List ByteArray → Int → Int → Option (Bool)
 | 0, _, _, _, _ => none
 | k + 1, x5, x6, x7, x8 => if x8 < (x6.length : Int) then (if 0 ≤ x8 then ((numnahref08_Term.f k (rdOf ByteArray.empty x6 x8)).bind fun t301 => (if t301 = true then (numnahlaw08_RulesLoops.l0 k x5 x6 x7 (wrap64 (x8 + 1))) else (if x7 = 4 then ((numnahlaw08_awake.f k).bind fun t302 => (some t302)) else (some false)))) else (none)) else (if (x6.length : Int) > 20 then (if x7 = 2 then ((numnahlaw08_awake.f k).bind fun t303 => (some t303)) else (some false)) else ((numnahref08_Loop.f k x5 x6).bind fun t304 => (if t304 = true then (if x7 = 0 then ((numnahlaw08_awake.f k).bind fun t305 => (some t305)) else (some false)) else (if x7 = 10 then ((numnahlaw08_awake.f k).bind fun t306 => (some t306)) else (some false)))))
noncomputable def numnahlaw08_RulesLoops.f (k : Nat) (l0 : List (S94)) (l1 : List ByteArray) : Option (Bool) := (numnahlaw08_laws.f k l0).bind fun t291 => ((numnahlaw08_few.f k l1).bind fun t294 => ((rules_IsLoop.f t291 t294).bind fun t297 => ((numnahref08_Rules.f k t291).bind fun t298 => (if t298 = true then (numnahlaw08_RulesLoops.l0 k t291 t294 t297 0) else (if t297 = 2 then ((numnahlaw08_awake.f k).bind fun t299 => (some t299)) else (some false))))))
theorem numnahlaw08_RulesLoops.mono_l : ∀ k, (∀ y0 y1 y2 y3, LeO (numnahlaw08_RulesLoops.l0 k y0 y1 y2 y3) (numnahlaw08_RulesLoops.l0 (k + 1) y0 y1 y2 y3))
 | 0 => fun _ _ _ _ r h => by simp [numnahlaw08_RulesLoops.l0] at h
 | k + 1 => by
  have ih0 := numnahlaw08_RulesLoops.mono_l k
  ·intro y0 y1 y2 y3
   unfold numnahlaw08_RulesLoops.l0
   repeat' first
   | (with_reducible exact ih0 _ _ _ _)
   | (with_reducible exact numnahlaw08_awake.mono _)
   | (with_reducible exact numnahlaw08_few.mono _ _)
   | (with_reducible exact numnahlaw08_laws.mono _ _)
   | (with_reducible exact numnahref08_Loop.mono _ _ _)
   | (with_reducible exact numnahref08_Rules.mono _ _)
   | (with_reducible exact numnahref08_Term.mono _ _)
   | (with_reducible exact LeO.refl _)
   | (with_reducible exact LeO.none _)
   | (with_reducible refine LeO.ite ?_ ?_)
   | (with_reducible refine LeO.bind ?_ (fun _ => ?_))
   | exact ih0 _ _ _ _
   | exact numnahlaw08_awake.mono _
   | exact numnahlaw08_few.mono _ _
   | exact numnahlaw08_laws.mono _ _
   | exact numnahref08_Loop.mono _ _ _
   | exact numnahref08_Rules.mono _ _
   | exact numnahref08_Term.mono _ _
   | exact LeO.none _
   | refine LeO.ite ?_ ?_
   | refine LeO.bind ?_ (fun _ => ?_)
theorem numnahlaw08_RulesLoops.mono : ∀ a0 a1 k, LeO (numnahlaw08_RulesLoops.f k a0 a1) (numnahlaw08_RulesLoops.f (k + 1) a0 a1) := by
 intro a0 a1 k
 have ih0 := numnahlaw08_RulesLoops.mono_l k
 unfold numnahlaw08_RulesLoops.f
 repeat' first
   | (with_reducible exact ih0 _ _ _ _)
   | (with_reducible exact numnahlaw08_awake.mono _)
   | (with_reducible exact numnahlaw08_few.mono _ _)
   | (with_reducible exact numnahlaw08_laws.mono _ _)
   | (with_reducible exact numnahref08_Loop.mono _ _ _)
   | (with_reducible exact numnahref08_Rules.mono _ _)
   | (with_reducible exact numnahref08_Term.mono _ _)
   | (with_reducible exact LeO.refl _)
   | (with_reducible exact LeO.none _)
   | (with_reducible refine LeO.ite ?_ ?_)
   | (with_reducible refine LeO.bind ?_ (fun _ => ?_))
   | exact ih0 _ _ _ _
   | exact numnahlaw08_awake.mono _
   | exact numnahlaw08_few.mono _ _
   | exact numnahlaw08_laws.mono _ _
   | exact numnahref08_Loop.mono _ _ _
   | exact numnahref08_Rules.mono _ _
   | exact numnahref08_Term.mono _ _
   | exact LeO.none _
   | refine LeO.ite ?_ ?_
   | refine LeO.bind ?_ (fun _ => ?_)
set_option maxHeartbeats 8000000 in
set_option maxRecDepth 100000 in
theorem numnahlaw08_RulesLoops.calls (k : Nat) (A0 : Option Addr) (c0 : Nat) (l0 : List (S94)) (A1 : Option Addr) (c1 : Nat) (l1 : List ByteArray) (r : Bool) (w : World) (hr0 : Kd.C k94 w A0 l0.length l0) (hc0 : l0.length ≤ c0) (hr1 : Kd.C Kd.string w A1 l1.length l1) (hc1 : l1.length ≤ c1) (h : numnahlaw08_RulesLoops.f k l0 l1 = some r) (ht : r = true := by rfl) :
  Calls Tryz.prog 4 #[.slice A0 l0.length c0, .slice A1 l1.length c1] w fun e w' => e = .returned (.bool r) ∧ Below w.heap.size w w' := by
 have HT0_ := Aside0.mk ht
 clear ht
 have HR0 := Aside0.mk hr0
 have HC0 := Aside0.mk hc0
 clear hr0 hc0
 have HR1 := Aside0.mk hr1
 have HC1 := Aside0.mk hc1
 clear hr1 hc1
 have HB := Aside0.mk (Below.refl w.heap.size w)
 have H : ((numnahlaw08_laws.f k l0).bind fun t291 => ((numnahlaw08_few.f k l1).bind fun t294 => ((rules_IsLoop.f t291 t294).bind fun t297 => ((numnahref08_Rules.f k t291).bind fun t298 => (if t298 = true then (numnahlaw08_RulesLoops.l0 k t291 t294 t297 0) else (if t297 = 2 then ((numnahlaw08_awake.f k).bind fun t299 => (some t299)) else (some false))))))) = some r := h
 clear h
 replace H := Option.bind_eq_some_iff.mp H
 obtain ⟨t291, A30, H⟩ := H
 replace H : ((numnahlaw08_few.f k l1).bind fun t294 => ((rules_IsLoop.f t291 t294).bind fun t297 => ((numnahref08_Rules.f k t291).bind fun t298 => (if t298 = true then (numnahlaw08_RulesLoops.l0 k t291 t294 t297 0) else (if t297 = 2 then ((numnahlaw08_awake.f k).bind fun t299 => (some t299)) else (some false)))))) = some r := H
 have A3 := Aside0.mk A30
 clear A30
 replace H := Option.bind_eq_some_iff.mp H
 obtain ⟨t294, A40, H⟩ := H
 replace H : ((rules_IsLoop.f t291 t294).bind fun t297 => ((numnahref08_Rules.f k t291).bind fun t298 => (if t298 = true then (numnahlaw08_RulesLoops.l0 k t291 t294 t297 0) else (if t297 = 2 then ((numnahlaw08_awake.f k).bind fun t299 => (some t299)) else (some false))))) = some r := H
 have A4 := Aside0.mk A40
 clear A40
 replace H := Option.bind_eq_some_iff.mp H
 obtain ⟨t297, A50, H⟩ := H
 replace H : ((numnahref08_Rules.f k t291).bind fun t298 => (if t298 = true then (numnahlaw08_RulesLoops.l0 k t291 t294 t297 0) else (if t297 = 2 then ((numnahlaw08_awake.f k).bind fun t299 => (some t299)) else (some false)))) = some r := H
 have A5 := Aside0.mk A50
 clear A50
 replace H := Option.bind_eq_some_iff.mp H
 obtain ⟨t298, A60, H⟩ := H
 replace H : (if t298 = true then (numnahlaw08_RulesLoops.l0 k t291 t294 t297 0) else (if t297 = 2 then ((numnahlaw08_awake.f k).bind fun t299 => (some t299)) else (some false))) = some r := H
 have A6 := Aside0.mk A60
 clear A60
 by_cases c7 : t298 = true
 ·subst c7
  have H1 : (numnahlaw08_RulesLoops.l0 k t291 t294 t297 0) = some r := by rw [if_pos rfl] at H; exact H
  clear H
  have H := H1
  clear H1
  have H' := Aside0.mk H
  clear H
  go_enter Tryz.func4, Tryz.ntmps4
  go_wp2_with (first | ((with_reducible refine gate_callee (f := 28) rfl ?_); refine goesL_ (some 10) rfl rfl Tryz.func28 (by kernel_rfl) rfl #[.slice A0 l0.length c0] rfl tM_ ?_; (with_reducible refine (numnahlaw08_laws.calls k _ _ l0 t291 _ ?side1 ?side2 A3.out).mono ?_); (case side1 => repeat (first | exact HR0.out | (with_reducible refine Kd.C_alloc ?_ _) | (with_reducible refine Kd.C_drewN ?_ _) | (with_reducible refine Kd.C_drew ?_))); (case side2 => exact HC0.out); rintro e w8 ⟨v292, rfl, ho0, hb⟩; refine ⟨_, rfl, ?_⟩; have n0_ := Aside0.mk (Kd.R_lower ho0 (below_size (tB_ HB))); have n1_ := Aside0.mk (below_step (tB_ HB) hb); clear HB; have HO293 := n0_; have HB := n1_; clear n0_ n1_; (try clear hb); (try clear hb2); (try clear hk); (try clear hi); (try clear ho0)) | ((with_reducible refine gate_callee (f := 29) rfl ?_); refine goesL_ (some 12) rfl rfl Tryz.func29 (by kernel_rfl) rfl #[.slice A1 l1.length c1] rfl tM_ ?_; (with_reducible refine (numnahlaw08_few.calls k _ _ l1 t294 _ ?side1 ?side2 A4.out).mono ?_); (case side1 => repeat (first | exact (Kd.C_below HR1.out HB.out) | (with_reducible refine Kd.C_alloc ?_ _) | (with_reducible refine Kd.C_drewN ?_ _) | (with_reducible refine Kd.C_drew ?_))); (case side2 => exact HC1.out); rintro e w9 ⟨v295, rfl, ho0, hb⟩; refine ⟨_, rfl, ?_⟩; have n0_ := Aside0.mk (Kd.R_below (tR_ HO293) hb); have n1_ := Aside0.mk (Kd.R_lower ho0 (below_size (tB_ HB))); have n2_ := Aside0.mk (below_step (tB_ HB) hb); clear HO293; clear HB; have HO293 := n0_; have HO296 := n1_; have HB := n2_; clear n0_ n1_ n2_; (try clear hb); (try clear hb2); (try clear hk); (try clear hi); (try clear ho0); obtain ⟨Ao10, co10, eo10⟩ := Kd.R_slice HO293.out; subst eo10; obtain ⟨Ao11, co11, eo11⟩ := Kd.R_slice HO296.out; subst eo11) | ((with_reducible refine gate_callee (f := 30) rfl ?_); refine goesL_ (some 15) rfl rfl Tryz.func30 (by kernel_rfl) rfl #[.slice Ao10 t291.length co10, .slice Ao11 t294.length co11] rfl tM_ ?_; (with_reducible refine (rules_IsLoop.calls _ _ t291 _ _ t294 t297 _ ?side1 ?side2 ?side3 ?side4 A5.out).mono ?_); (case side1 => repeat (first | exact (Kd.R_reads' HO293.out).2.2 | (with_reducible refine Kd.C_alloc ?_ _) | (with_reducible refine Kd.C_drewN ?_ _) | (with_reducible refine Kd.C_drew ?_))); (case side2 => exact (Kd.R_reads' HO293.out).2.1); (case side3 => repeat (first | exact (Kd.R_reads' HO296.out).2.2 | (with_reducible refine Kd.C_alloc ?_ _) | (with_reducible refine Kd.C_drewN ?_ _) | (with_reducible refine Kd.C_drew ?_))); (case side4 => exact (Kd.R_reads' HO296.out).2.1); rintro e w12 ⟨rfl, hb⟩; refine ⟨_, rfl, ?_⟩; have n0_ := Aside0.mk (Kd.R_below (tR_ HO293) hb); have n1_ := Aside0.mk (Kd.R_below (tR_ HO296) hb); have n2_ := Aside0.mk (below_step (tB_ HB) hb); clear HO293; clear HO296; clear HB; have HO293 := n0_; have HO296 := n1_; have HB := n2_; clear n0_ n1_ n2_; (try clear hb); (try clear hb2); (try clear hk); (try clear hi)) | ((with_reducible refine gate_callee (f := 31) rfl ?_); refine goesL_ (some 17) rfl rfl Tryz.func31 (by kernel_rfl) rfl #[.slice Ao10 t291.length co10] rfl tM_ ?_; (with_reducible refine (numnahref08_Rules.calls k _ _ t291 true _ ?side1 ?side2 A6.out).mono ?_); (case side1 => repeat (first | exact (Kd.R_reads' HO293.out).2.2 | (with_reducible refine Kd.C_alloc ?_ _) | (with_reducible refine Kd.C_drewN ?_ _) | (with_reducible refine Kd.C_drew ?_))); (case side2 => exact (Kd.R_reads' HO293.out).2.1); rintro e w' ⟨rfl, ⟨nd, rfl⟩⟩; refine ⟨_, rfl, ?_⟩))
  go_loopg [8] k (fun kq v8 w' => ∃ (x8_1 : Int), v8 = .int .i64 x8_1 ∧ Aside0 (numnahlaw08_RulesLoops.l0 kq t291 t294 t297 x8_1 = some r) ∧ Aside0 (kq ≤ k) ∧ Aside0 (Kd.R k94 94 w' w.heap.size (fun _ => True) (.slice Ao10 t291.length co10) t291) ∧ Aside0 (Kd.R Kd.string 9 w' w.heap.size (fun _ => True) (.slice Ao11 t294.length co11) t294) ∧ Aside0 (Below w.heap.size w w'))
  case atStart => exact ⟨(0), tS_, H', ⟨Nat.le_refl _⟩, ⟨by (with_reducible repeat (first | apply Kd.R_alloc | apply Kd.R_drewN | apply Kd.R_drew)); exact HO293.out⟩, ⟨by (with_reducible repeat (first | apply Kd.R_alloc | apply Kd.R_drewN | apply Kd.R_drew)); exact HO296.out⟩, ⟨by repeat (first | (with_reducible first | exact HB.out | apply below_alloc | apply pw_below_drewN | apply below_drew1) | exact HB.out)⟩⟩
  case round =>
   clear H'
   try clear c1
   try clear c2
   try clear p2
   try clear c3
   try clear c4
   try clear c7
   obtain ⟨x8_1, rfl, HA, HK1, HO_5, HO_6, HB⟩ := hrel
   cases gk with
   | zero => exact absurd HA.out (by simp [numnahlaw08_RulesLoops.l0])
   | succ k1 =>
    have H := HA.out
    clear HA
    simp only [numnahlaw08_RulesLoops.l0] at H
    by_cases c13 : x8_1 < (t294.length : Int)
    ·rw [if_pos c13] at H
     have c13b0 : decide (x8_1 < (t294.length : Int)) = true := decide_eq_true c13
     clear c13
     by_cases c14 : 0 ≤ x8_1
     ·rw [if_pos c14] at H
      have c14b0 : decide (0 ≤ x8_1) = true := decide_eq_true c14
      clear c14
      replace H := Option.bind_eq_some_iff.mp H
      obtain ⟨t301, A150, H⟩ := H
      replace H : (if t301 = true then (numnahlaw08_RulesLoops.l0 k1 t291 t294 t297 (wrap64 (x8_1 + 1))) else (if t297 = 4 then ((numnahlaw08_awake.f k1).bind fun t302 => (some t302)) else (some false))) = some r := H
      have A15 := Aside0.mk A150
      clear A150
      by_cases c16 : t301 = true
      ·subst c16
       have H1 : (numnahlaw08_RulesLoops.l0 k1 t291 t294 t297 (wrap64 (x8_1 + 1))) = some r := by rw [if_pos rfl] at H; exact H
       clear H
       have H := H1
       clear H1
       have H' := Aside0.mk H
       clear H
       have p300 : 0 ≤ (x8_1 : Int) := of_decide_eq_true tA_
       have q300 : x8_1 < (t294.length : Int) := of_decide_eq_true tA_
       obtain ⟨ad300, e300, hx300_0⟩ := Kd.at_string (Kd.R_reads' HO_6.out).2.2 x8_1 p300 q300
       cases e300
       replace p300 := eq_true p300
       replace q300 := eq_true q300
       go_wp2_with (first | ((with_reducible refine gate_callee (f := 25) rfl ?_); refine goesL_ (some 34) rfl rfl Tryz.func25 (by kernel_rfl) rfl #[.string (rdOf ByteArray.empty t294 x8_1)] rfl tM_ ?_; (with_reducible refine (numnahref08_Term.calls k1 (rdOf ByteArray.empty t294 x8_1) true _ A15.out).mono ?_); rintro e w' ⟨rfl, ⟨nd, rfl⟩⟩; refine ⟨_, rfl, ?_⟩))
       go_roundg k1
       case measure => have := HK1.out; omega
       case rel => exact ⟨(wrap64 (x8_1 + 1)), tS_, H', ⟨by have := HK1.out; omega⟩, ⟨by (with_reducible repeat (first | apply Kd.R_alloc | apply Kd.R_drewN | apply Kd.R_drew)); exact HO_5.out⟩, ⟨by (with_reducible repeat (first | apply Kd.R_alloc | apply Kd.R_drewN | apply Kd.R_drew)); exact HO_6.out⟩, ⟨by repeat (first | (with_reducible first | exact HB.out | apply below_alloc | apply pw_below_drewN | apply below_drew1) | exact HB.out)⟩⟩
      ·replace c16 := Bool.eq_false_iff.mpr c16
       subst c16
       have H1 : (if t297 = 4 then ((numnahlaw08_awake.f k1).bind fun t302 => (some t302)) else (some false)) = some r := by rw [if_neg (show ¬ (false = true) by decide)] at H; exact H
       clear H
       have H := H1
       clear H1
       by_cases c17 : t297 = 4
       ·rw [if_pos c17] at H
        have c17b0 : (t297 == 4) = true := beq_iff_eq.mpr c17
        have c17b1 : (t297 != 4) = false := bne_eq_false_iff_eq.mpr c17
        clear c17
        replace H := Option.bind_eq_some_iff.mp H
        obtain ⟨t302, A180, H⟩ := H
        replace H : (some t302) = some r := H
        have A18 := Aside0.mk A180
        clear A180
        obtain rfl := Option.some.inj H
        have p300 : 0 ≤ (x8_1 : Int) := of_decide_eq_true tA_
        have q300 : x8_1 < (t294.length : Int) := of_decide_eq_true tA_
        obtain ⟨ad300, e300, hx300_0⟩ := Kd.at_string (Kd.R_reads' HO_6.out).2.2 x8_1 p300 q300
        cases e300
        replace p300 := eq_true p300
        replace q300 := eq_true q300
        go_wp2_with (first | ((with_reducible refine gate_callee (f := 25) rfl ?_); refine goesL_ (some 34) rfl rfl Tryz.func25 (by kernel_rfl) rfl #[.string (rdOf ByteArray.empty t294 x8_1)] rfl tM_ ?_; (with_reducible refine (numnahref08_Term.calls k1 (rdOf ByteArray.empty t294 x8_1) false _ A15.out).mono ?_); rintro e w' ⟨rfl, ⟨nd, rfl⟩⟩; refine ⟨_, rfl, ?_⟩) | (go_at_call 24; (with_reducible refine (numnahlaw08_awake.calls k1  t302 _ A18.out).mono ?_); rintro e w19 ⟨rfl, hb⟩; have n0_ := Aside0.mk (Kd.R_below (tR_ HO_5) hb); have n1_ := Aside0.mk (Kd.R_below (tR_ HO_6) hb); have n2_ := Aside0.mk (below_step (tB_ HB) hb); clear HO_5; clear HO_6; clear HB; have HO_5 := n0_; have HO_6 := n1_; have HB := n2_; clear n0_ n1_ n2_; (try clear hb); (try clear hb2); (try clear hk); (try clear hi)))
        go_ret
        exact ⟨by first | rfl | (simp [errW_none, errW_some] <;> rfl) | (simp [*, errW_none, errW_some] <;> rfl), by repeat (first | (with_reducible first | exact HB.out | apply below_alloc | apply pw_below_drewN | apply below_drew1) | exact HB.out)⟩
       ·rw [if_neg c17] at H
        exact absurd (H.trans (congrArg some HT0_.out)) (by simp)
     ·rw [if_neg c14] at H
      exact absurd H (by simp)
    ·rw [if_neg c13] at H
     have c13b0 : decide (x8_1 < (t294.length : Int)) = false := decide_eq_false c13
     clear c13
     by_cases c20 : (t294.length : Int) > 20
     ·rw [if_pos c20] at H
      have c20b0 : decide (20 < (t294.length : Int)) = true := decide_eq_true c20
      have c20b1 : decide (20 < t294.length) = true := decide_eq_true (by omega)
      clear c20
      by_cases c21 : t297 = 2
      ·rw [if_pos c21] at H
       have c21b0 : (t297 == 2) = true := beq_iff_eq.mpr c21
       have c21b1 : (t297 != 2) = false := bne_eq_false_iff_eq.mpr c21
       clear c21
       replace H := Option.bind_eq_some_iff.mp H
       obtain ⟨t303, A220, H⟩ := H
       replace H : (some t303) = some r := H
       have A22 := Aside0.mk A220
       clear A220
       obtain rfl := Option.some.inj H
       go_wp2_with (first | (go_at_call 24; (with_reducible refine (numnahlaw08_awake.calls k1  t303 _ A22.out).mono ?_); rintro e w23 ⟨rfl, hb⟩; have n0_ := Aside0.mk (Kd.R_below (tR_ HO_5) hb); have n1_ := Aside0.mk (Kd.R_below (tR_ HO_6) hb); have n2_ := Aside0.mk (below_step (tB_ HB) hb); clear HO_5; clear HO_6; clear HB; have HO_5 := n0_; have HO_6 := n1_; have HB := n2_; clear n0_ n1_ n2_; (try clear hb); (try clear hb2); (try clear hk); (try clear hi)))
       go_ret
       exact ⟨by first | rfl | (simp [errW_none, errW_some] <;> rfl) | (simp [*, errW_none, errW_some] <;> rfl), by repeat (first | (with_reducible first | exact HB.out | apply below_alloc | apply pw_below_drewN | apply below_drew1) | exact HB.out)⟩
      ·rw [if_neg c21] at H
       exact absurd (H.trans (congrArg some HT0_.out)) (by simp)
     ·rw [if_neg c20] at H
      have c20b0 : decide (20 < (t294.length : Int)) = false := decide_eq_false c20
      have c20b1 : decide (20 < t294.length) = false := decide_eq_false (by omega)
      clear c20
      replace H := Option.bind_eq_some_iff.mp H
      obtain ⟨t304, A240, H⟩ := H
      replace H : (if t304 = true then (if t297 = 0 then ((numnahlaw08_awake.f k1).bind fun t305 => (some t305)) else (some false)) else (if t297 = 10 then ((numnahlaw08_awake.f k1).bind fun t306 => (some t306)) else (some false))) = some r := H
      have A24 := Aside0.mk A240
      clear A240
      by_cases c25 : t304 = true
      ·subst c25
       have H1 : (if t297 = 0 then ((numnahlaw08_awake.f k1).bind fun t305 => (some t305)) else (some false)) = some r := by rw [if_pos rfl] at H; exact H
       clear H
       have H := H1
       clear H1
       by_cases c26 : t297 = 0
       ·rw [if_pos c26] at H
        have c26b0 : (t297 == 0) = true := beq_iff_eq.mpr c26
        have c26b1 : (t297 != 0) = false := bne_eq_false_iff_eq.mpr c26
        clear c26
        replace H := Option.bind_eq_some_iff.mp H
        obtain ⟨t305, A270, H⟩ := H
        replace H : (some t305) = some r := H
        have A27 := Aside0.mk A270
        clear A270
        obtain rfl := Option.some.inj H
        go_wp2_with (first | ((with_reducible refine gate_callee (f := 32) rfl ?_); refine goesL_ (some 51) rfl rfl Tryz.func32 (by kernel_rfl) rfl #[.slice Ao10 t291.length co10, .slice Ao11 t294.length co11] rfl tM_ ?_; (with_reducible refine (numnahref08_Loop.calls k1 _ _ t291 _ _ t294 true _ ?side1 ?side2 ?side3 ?side4 A24.out).mono ?_); (case side1 => repeat (first | exact (Kd.R_reads' HO_5.out).2.2 | (with_reducible refine Kd.C_alloc ?_ _) | (with_reducible refine Kd.C_drewN ?_ _) | (with_reducible refine Kd.C_drew ?_))); (case side2 => exact (Kd.R_reads' HO_5.out).2.1); (case side3 => repeat (first | exact (Kd.R_reads' HO_6.out).2.2 | (with_reducible refine Kd.C_alloc ?_ _) | (with_reducible refine Kd.C_drewN ?_ _) | (with_reducible refine Kd.C_drew ?_))); (case side4 => exact (Kd.R_reads' HO_6.out).2.1); rintro e w28 ⟨rfl, hb⟩; refine ⟨_, rfl, ?_⟩; have n0_ := Aside0.mk (Kd.R_below (tR_ HO_5) hb); have n1_ := Aside0.mk (Kd.R_below (tR_ HO_6) hb); have n2_ := Aside0.mk (below_step (tB_ HB) hb); clear HO_5; clear HO_6; clear HB; have HO_5 := n0_; have HO_6 := n1_; have HB := n2_; clear n0_ n1_ n2_; (try clear hb); (try clear hb2); (try clear hk); (try clear hi)) | (go_at_call 24; (with_reducible refine (numnahlaw08_awake.calls k1  t305 _ A27.out).mono ?_); rintro e w29 ⟨rfl, hb⟩; have n0_ := Aside0.mk (Kd.R_below (tR_ HO_5) hb); have n1_ := Aside0.mk (Kd.R_below (tR_ HO_6) hb); have n2_ := Aside0.mk (below_step (tB_ HB) hb); clear HO_5; clear HO_6; clear HB; have HO_5 := n0_; have HO_6 := n1_; have HB := n2_; clear n0_ n1_ n2_; (try clear hb); (try clear hb2); (try clear hk); (try clear hi)))
        go_ret
        exact ⟨by first | rfl | (simp [errW_none, errW_some] <;> rfl) | (simp [*, errW_none, errW_some] <;> rfl), by repeat (first | (with_reducible first | exact HB.out | apply below_alloc | apply pw_below_drewN | apply below_drew1) | exact HB.out)⟩
       ·rw [if_neg c26] at H
        exact absurd (H.trans (congrArg some HT0_.out)) (by simp)
      ·replace c25 := Bool.eq_false_iff.mpr c25
       subst c25
       have H1 : (if t297 = 10 then ((numnahlaw08_awake.f k1).bind fun t306 => (some t306)) else (some false)) = some r := by rw [if_neg (show ¬ (false = true) by decide)] at H; exact H
       clear H
       have H := H1
       clear H1
       by_cases c31 : t297 = 10
       ·rw [if_pos c31] at H
        have c31b0 : (t297 == 10) = true := beq_iff_eq.mpr c31
        have c31b1 : (t297 != 10) = false := bne_eq_false_iff_eq.mpr c31
        clear c31
        replace H := Option.bind_eq_some_iff.mp H
        obtain ⟨t306, A320, H⟩ := H
        replace H : (some t306) = some r := H
        have A32 := Aside0.mk A320
        clear A320
        obtain rfl := Option.some.inj H
        go_wp2_with (first | ((with_reducible refine gate_callee (f := 32) rfl ?_); refine goesL_ (some 51) rfl rfl Tryz.func32 (by kernel_rfl) rfl #[.slice Ao10 t291.length co10, .slice Ao11 t294.length co11] rfl tM_ ?_; (with_reducible refine (numnahref08_Loop.calls k1 _ _ t291 _ _ t294 false _ ?side1 ?side2 ?side3 ?side4 A24.out).mono ?_); (case side1 => repeat (first | exact (Kd.R_reads' HO_5.out).2.2 | (with_reducible refine Kd.C_alloc ?_ _) | (with_reducible refine Kd.C_drewN ?_ _) | (with_reducible refine Kd.C_drew ?_))); (case side2 => exact (Kd.R_reads' HO_5.out).2.1); (case side3 => repeat (first | exact (Kd.R_reads' HO_6.out).2.2 | (with_reducible refine Kd.C_alloc ?_ _) | (with_reducible refine Kd.C_drewN ?_ _) | (with_reducible refine Kd.C_drew ?_))); (case side4 => exact (Kd.R_reads' HO_6.out).2.1); rintro e w33 ⟨rfl, hb⟩; refine ⟨_, rfl, ?_⟩; have n0_ := Aside0.mk (Kd.R_below (tR_ HO_5) hb); have n1_ := Aside0.mk (Kd.R_below (tR_ HO_6) hb); have n2_ := Aside0.mk (below_step (tB_ HB) hb); clear HO_5; clear HO_6; clear HB; have HO_5 := n0_; have HO_6 := n1_; have HB := n2_; clear n0_ n1_ n2_; (try clear hb); (try clear hb2); (try clear hk); (try clear hi)) | (go_at_call 24; (with_reducible refine (numnahlaw08_awake.calls k1  t306 _ A32.out).mono ?_); rintro e w34 ⟨rfl, hb⟩; have n0_ := Aside0.mk (Kd.R_below (tR_ HO_5) hb); have n1_ := Aside0.mk (Kd.R_below (tR_ HO_6) hb); have n2_ := Aside0.mk (below_step (tB_ HB) hb); clear HO_5; clear HO_6; clear HB; have HO_5 := n0_; have HO_6 := n1_; have HB := n2_; clear n0_ n1_ n2_; (try clear hb); (try clear hb2); (try clear hk); (try clear hi)))
        go_ret
        exact ⟨by first | rfl | (simp [errW_none, errW_some] <;> rfl) | (simp [*, errW_none, errW_some] <;> rfl), by repeat (first | (with_reducible first | exact HB.out | apply below_alloc | apply pw_below_drewN | apply below_drew1) | exact HB.out)⟩
       ·rw [if_neg c31] at H
        exact absurd (H.trans (congrArg some HT0_.out)) (by simp)
 ·replace c7 := Bool.eq_false_iff.mpr c7
  subst c7
  have H1 : (if t297 = 2 then ((numnahlaw08_awake.f k).bind fun t299 => (some t299)) else (some false)) = some r := by rw [if_neg (show ¬ (false = true) by decide)] at H; exact H
  clear H
  have H := H1
  clear H1
  by_cases c36 : t297 = 2
  ·rw [if_pos c36] at H
   have c36b0 : (t297 == 2) = true := beq_iff_eq.mpr c36
   have c36b1 : (t297 != 2) = false := bne_eq_false_iff_eq.mpr c36
   clear c36
   replace H := Option.bind_eq_some_iff.mp H
   obtain ⟨t299, A370, H⟩ := H
   replace H : (some t299) = some r := H
   have A37 := Aside0.mk A370
   clear A370
   obtain rfl := Option.some.inj H
   go_enter Tryz.func4, Tryz.ntmps4
   go_wp2_with (first | ((with_reducible refine gate_callee (f := 28) rfl ?_); refine goesL_ (some 10) rfl rfl Tryz.func28 (by kernel_rfl) rfl #[.slice A0 l0.length c0] rfl tM_ ?_; (with_reducible refine (numnahlaw08_laws.calls k _ _ l0 t291 _ ?side1 ?side2 A3.out).mono ?_); (case side1 => repeat (first | exact HR0.out | (with_reducible refine Kd.C_alloc ?_ _) | (with_reducible refine Kd.C_drewN ?_ _) | (with_reducible refine Kd.C_drew ?_))); (case side2 => exact HC0.out); rintro e w38 ⟨v292, rfl, ho0, hb⟩; refine ⟨_, rfl, ?_⟩; have n0_ := Aside0.mk (Kd.R_lower ho0 (below_size (tB_ HB))); have n1_ := Aside0.mk (below_step (tB_ HB) hb); clear HB; have HO293 := n0_; have HB := n1_; clear n0_ n1_; (try clear hb); (try clear hb2); (try clear hk); (try clear hi); (try clear ho0)) | ((with_reducible refine gate_callee (f := 29) rfl ?_); refine goesL_ (some 12) rfl rfl Tryz.func29 (by kernel_rfl) rfl #[.slice A1 l1.length c1] rfl tM_ ?_; (with_reducible refine (numnahlaw08_few.calls k _ _ l1 t294 _ ?side1 ?side2 A4.out).mono ?_); (case side1 => repeat (first | exact (Kd.C_below HR1.out HB.out) | (with_reducible refine Kd.C_alloc ?_ _) | (with_reducible refine Kd.C_drewN ?_ _) | (with_reducible refine Kd.C_drew ?_))); (case side2 => exact HC1.out); rintro e w39 ⟨v295, rfl, ho0, hb⟩; refine ⟨_, rfl, ?_⟩; have n0_ := Aside0.mk (Kd.R_below (tR_ HO293) hb); have n1_ := Aside0.mk (Kd.R_lower ho0 (below_size (tB_ HB))); have n2_ := Aside0.mk (below_step (tB_ HB) hb); clear HO293; clear HB; have HO293 := n0_; have HO296 := n1_; have HB := n2_; clear n0_ n1_ n2_; (try clear hb); (try clear hb2); (try clear hk); (try clear hi); (try clear ho0); obtain ⟨Ao40, co40, eo40⟩ := Kd.R_slice HO293.out; subst eo40; obtain ⟨Ao41, co41, eo41⟩ := Kd.R_slice HO296.out; subst eo41) | ((with_reducible refine gate_callee (f := 30) rfl ?_); refine goesL_ (some 15) rfl rfl Tryz.func30 (by kernel_rfl) rfl #[.slice Ao40 t291.length co40, .slice Ao41 t294.length co41] rfl tM_ ?_; (with_reducible refine (rules_IsLoop.calls _ _ t291 _ _ t294 t297 _ ?side1 ?side2 ?side3 ?side4 A5.out).mono ?_); (case side1 => repeat (first | exact (Kd.R_reads' HO293.out).2.2 | (with_reducible refine Kd.C_alloc ?_ _) | (with_reducible refine Kd.C_drewN ?_ _) | (with_reducible refine Kd.C_drew ?_))); (case side2 => exact (Kd.R_reads' HO293.out).2.1); (case side3 => repeat (first | exact (Kd.R_reads' HO296.out).2.2 | (with_reducible refine Kd.C_alloc ?_ _) | (with_reducible refine Kd.C_drewN ?_ _) | (with_reducible refine Kd.C_drew ?_))); (case side4 => exact (Kd.R_reads' HO296.out).2.1); rintro e w42 ⟨rfl, hb⟩; refine ⟨_, rfl, ?_⟩; have n0_ := Aside0.mk (Kd.R_below (tR_ HO293) hb); have n1_ := Aside0.mk (Kd.R_below (tR_ HO296) hb); have n2_ := Aside0.mk (below_step (tB_ HB) hb); clear HO293; clear HO296; clear HB; have HO293 := n0_; have HO296 := n1_; have HB := n2_; clear n0_ n1_ n2_; (try clear hb); (try clear hb2); (try clear hk); (try clear hi)) | ((with_reducible refine gate_callee (f := 31) rfl ?_); refine goesL_ (some 17) rfl rfl Tryz.func31 (by kernel_rfl) rfl #[.slice Ao40 t291.length co40] rfl tM_ ?_; (with_reducible refine (numnahref08_Rules.calls k _ _ t291 false _ ?side1 ?side2 A6.out).mono ?_); (case side1 => repeat (first | exact (Kd.R_reads' HO293.out).2.2 | (with_reducible refine Kd.C_alloc ?_ _) | (with_reducible refine Kd.C_drewN ?_ _) | (with_reducible refine Kd.C_drew ?_))); (case side2 => exact (Kd.R_reads' HO293.out).2.1); rintro e w' ⟨rfl, ⟨nd, rfl⟩⟩; refine ⟨_, rfl, ?_⟩) | (go_at_call 24; (with_reducible refine (numnahlaw08_awake.calls k  t299 _ A37.out).mono ?_); rintro e w43 ⟨rfl, hb⟩; have n0_ := Aside0.mk (Kd.R_below (tR_ HO293) hb); have n1_ := Aside0.mk (Kd.R_below (tR_ HO296) hb); have n2_ := Aside0.mk (below_step (tB_ HB) hb); clear HO293; clear HO296; clear HB; have HO293 := n0_; have HO296 := n1_; have HB := n2_; clear n0_ n1_ n2_; (try clear hb); (try clear hb2); (try clear hk); (try clear hi)))
   go_ret
   exact ⟨by first | rfl | (simp [errW_none, errW_some] <;> rfl) | (simp [*, errW_none, errW_some] <;> rfl), by repeat (first | (with_reducible first | exact HB.out | apply below_alloc | apply pw_below_drewN | apply below_drew1) | exact HB.out)⟩
  ·rw [if_neg c36] at H
   exact absurd (H.trans (congrArg some HT0_.out)) (by simp)
end Go.Proofs.YtaafeallcaiooaaGreat.Pr
-- indented by one
