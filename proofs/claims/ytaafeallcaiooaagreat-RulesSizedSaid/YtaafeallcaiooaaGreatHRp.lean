/- reading makes readings. -/
import Derived.Test.YtaafeallcaiooaaGreatPr0
import Derived.Test.YtaafeallcaiooaaGreatPrA2
import Derived.Test.YtaafeallcaiooaaGreatHRf
import Derived.Test.YtaafeallcaiooaaGreatHRg
-- Laid by wip/tools/inj.py of this project, which drives the kit's printer. Lean checks it.
namespace Go.Proofs.YtaafeallcaiooaaGreat.Pr
open Go.RowKit Go.Proofs.YtaafeallcaiooaaGreatW.PrintWords Go.Proofs.YtaafeallcaiooaaGreatW.PrintLast Go.Proofs.YtaafeallcaiooaaGreatW.PrintMore
attribute [local go_sem] max2_int min2_int max_two min_two max_three min_three max_four min_four   -- for this text's walks alone
set_option linter.unusedVariables false
set_option linter.unusedSimpArgs false

/-! ### numnahlaw08_mod: function 55 -/
def numnahlaw08_mod.f (a0 : Int) (a1 : Int) : Option (Int) := if (IntKind.u64.wrap (a1)) = 0 then (none) else (some (wrap64 (Int.tmod (IntKind.u64.wrap (a0)) (IntKind.u64.wrap (a1)))))
set_option maxHeartbeats 8000000 in
set_option maxRecDepth 100000 in
theorem numnahlaw08_mod.calls (a0 : Int) (a1 : Int) (r : Int) (w : World) (h : numnahlaw08_mod.f a0 a1 = some r) :
  Calls Tryz.prog 55 #[.int .i64 a0, .int .i64 a1] w fun e w' => e = .returned (.int .i64 r) ∧ Drawn0 w w' := by
 have H : (if (IntKind.u64.wrap (a1)) = 0 then (none) else (some (wrap64 (Int.tmod (IntKind.u64.wrap (a0)) (IntKind.u64.wrap (a1)))))) = some r := h
 clear h
 by_cases c3 : (IntKind.u64.wrap (a1)) = 0
 ·rw [if_pos c3] at H
  exact absurd H (by simp)
 ·rw [if_neg c3] at H
  have c3b0 : ((IntKind.u64.wrap (a1)) == 0) = false := beq_eq_false_iff_ne.mpr c3
  have c3b1 : ((IntKind.u64.wrap (a1)) != 0) = true := bne_iff_ne.mpr c3
  obtain rfl := Option.some.inj H
  go_enter Tryz.func55, Tryz.ntmps55
  go_wp2
  go_ret
  exact ⟨by first | rfl | (simp; done) | (simp [*]; done), by repeat (first | exact Drawn0.refl _ | apply Drawn0.step)⟩

/-! ### numnahref08_rank: function 148 -/
def numnahref08_rank.l0 : Nat → ByteArray → Int → Int → Option (Int)
 | 0, _, _, _ => none
 | k + 1, x0, x1, x5 => if 0 ≤ x5 then (if x5 < (x0.size : Int) then (if (bt x0 x5) = x1 then (some x5) else (numnahref08_rank.l0 k x0 x1 (wrap64 (x5 + 1)))) else (none)) else (none)
def numnahref08_rank.f (k : Nat) (a0 : ByteArray) (a1 : Int) : Option (Int) := numnahref08_rank.l0 k a0 a1 0
theorem numnahref08_rank.mono_l : ∀ k, (∀ y0 y1 y2, LeO (numnahref08_rank.l0 k y0 y1 y2) (numnahref08_rank.l0 (k + 1) y0 y1 y2))
 | 0 => fun _ _ _ r h => by simp [numnahref08_rank.l0] at h
 | k + 1 => by
  have ih0 := numnahref08_rank.mono_l k
  ·intro y0 y1 y2
   unfold numnahref08_rank.l0
   repeat' first
   | (with_reducible exact ih0 _ _ _)
   | (with_reducible exact LeO.refl _)
   | (with_reducible exact LeO.none _)
   | (with_reducible refine LeO.ite ?_ ?_)
   | (with_reducible refine LeO.bind ?_ (fun _ => ?_))
   | exact ih0 _ _ _
   | exact LeO.none _
   | refine LeO.ite ?_ ?_
   | refine LeO.bind ?_ (fun _ => ?_)
theorem numnahref08_rank.mono : ∀ a0 a1 k, LeO (numnahref08_rank.f k a0 a1) (numnahref08_rank.f (k + 1) a0 a1) := by
 intro a0 a1 k
 have ih0 := numnahref08_rank.mono_l k
 unfold numnahref08_rank.f
 repeat' first
   | (with_reducible exact ih0 _ _ _)
   | (with_reducible exact LeO.refl _)
   | (with_reducible exact LeO.none _)
   | (with_reducible refine LeO.ite ?_ ?_)
   | (with_reducible refine LeO.bind ?_ (fun _ => ?_))
   | exact ih0 _ _ _
   | exact LeO.none _
   | refine LeO.ite ?_ ?_
   | refine LeO.bind ?_ (fun _ => ?_)
end Go.Proofs.YtaafeallcaiooaaGreat.Pr
-- indented by one
-- Laid by wip/tools/inj.py of this project, which drives the kit's printer. Lean checks it.
namespace Go.Proofs.YtaafeallcaiooaaGreat.Pr
open Go.RowKit Go.Proofs.YtaafeallcaiooaaGreatW.PrintWords Go.Proofs.YtaafeallcaiooaaGreatW.PrintLast Go.Proofs.YtaafeallcaiooaaGreatW.PrintMore
attribute [local go_sem] max2_int min2_int max_two min_two max_three min_three max_four min_four   -- for this text's walks alone
set_option linter.unusedVariables false
set_option linter.unusedSimpArgs false

/-! ### numnahlaw08_reading: function 34 -/
mutual
def numnahlaw08_reading.l0 : Nat → List Int → List (List Int) → Int → Int → Option ((List (List Int)))
 | 0, _, _, _, _ => none
 | k + 1, x0, x3, x4, x5 => if x5 < 6 then (numnahlaw08_reading.l1 k x0 x3 x4 x5 ([] : List Int) 0) else (some x3)
def numnahlaw08_reading.l1 : Nat → List Int → List (List Int) → Int → Int → List Int → Int → Option ((List (List Int)))
 | 0, _, _, _, _, _, _ => none
 | k + 1, x0, x3, x4, x5, x6, x7 => (numnahref08_Parts.f k ((wrap64 (97 + x5)) % 256)).bind fun t315 => (if x7 ≤ t315 then (if x4 < (x0.length : Int) then (if 0 ≤ x4 then ((numnahlaw08_mod.f (rd x0 x4) 6).bind fun t320 => (if x7 = 0 then (if x6.length < 17592186044416 then (numnahlaw08_reading.l1 k x0 x3 (wrap64 (x4 + 1)) x5 (x6 ++ [Int.tmod t320 3]) (wrap64 (x7 + 1))) else (none)) else (if x6.length < 17592186044416 then (numnahlaw08_reading.l1 k x0 x3 (wrap64 (x4 + 1)) x5 (x6 ++ [wrap64 (1 + (Int.tmod t320 2))]) (wrap64 (x7 + 1))) else (none)))) else (none)) else (if x7 = 0 then (if x6.length < 17592186044416 then (numnahlaw08_reading.l1 k x0 x3 (wrap64 (x4 + 1)) x5 (x6 ++ [(0 : Int) % 3]) (wrap64 (x7 + 1))) else (none)) else (if x6.length < 17592186044416 then (numnahlaw08_reading.l1 k x0 x3 (wrap64 (x4 + 1)) x5 (x6 ++ [1 + ((0 : Int) % 2)]) (wrap64 (x7 + 1))) else (none)))) else (if x3.length < 5864062014805 then (numnahlaw08_reading.l0 k x0 (x3 ++ [x6]) x4 (wrap64 (x5 + 1))) else (none)))
end
def numnahlaw08_reading.f (k : Nat) (l0 : List Int) : Option ((List (List Int))) := numnahlaw08_reading.l0 k l0 ([] : List (List Int)) 0 0
theorem numnahlaw08_reading.mono_l : ∀ k, (∀ y0 y1 y2 y3, LeO (numnahlaw08_reading.l0 k y0 y1 y2 y3) (numnahlaw08_reading.l0 (k + 1) y0 y1 y2 y3)) ∧ (∀ y0 y1 y2 y3 y4 y5, LeO (numnahlaw08_reading.l1 k y0 y1 y2 y3 y4 y5) (numnahlaw08_reading.l1 (k + 1) y0 y1 y2 y3 y4 y5))
 | 0 => ⟨fun _ _ _ _ r h => by simp [numnahlaw08_reading.l0] at h, fun _ _ _ _ _ _ r h => by simp [numnahlaw08_reading.l1] at h⟩
 | k + 1 => by
  obtain ⟨ih0, ih1⟩ := numnahlaw08_reading.mono_l k
  refine ⟨?_, ?_⟩
  ·intro y0 y1 y2 y3
   unfold numnahlaw08_reading.l0
   repeat' first
   | (with_reducible exact ih0 _ _ _ _)
   | (with_reducible exact ih1 _ _ _ _ _ _)
   | (with_reducible exact numnahref08_Parts.mono _ _)
   | (with_reducible exact LeO.refl _)
   | (with_reducible exact LeO.none _)
   | (with_reducible refine LeO.ite ?_ ?_)
   | (with_reducible refine LeO.bind ?_ (fun _ => ?_))
   | exact ih0 _ _ _ _
   | exact ih1 _ _ _ _ _ _
   | exact numnahref08_Parts.mono _ _
   | exact LeO.none _
   | refine LeO.ite ?_ ?_
   | refine LeO.bind ?_ (fun _ => ?_)
  ·intro y0 y1 y2 y3 y4 y5
   unfold numnahlaw08_reading.l1
   repeat' first
   | (with_reducible exact ih0 _ _ _ _)
   | (with_reducible exact ih1 _ _ _ _ _ _)
   | (with_reducible exact numnahref08_Parts.mono _ _)
   | (with_reducible exact LeO.refl _)
   | (with_reducible exact LeO.none _)
   | (with_reducible refine LeO.ite ?_ ?_)
   | (with_reducible refine LeO.bind ?_ (fun _ => ?_))
   | exact ih0 _ _ _ _
   | exact ih1 _ _ _ _ _ _
   | exact numnahref08_Parts.mono _ _
   | exact LeO.none _
   | refine LeO.ite ?_ ?_
   | refine LeO.bind ?_ (fun _ => ?_)
theorem numnahlaw08_reading.mono : ∀ a0 k, LeO (numnahlaw08_reading.f k a0) (numnahlaw08_reading.f (k + 1) a0) := by
 intro a0 k
 obtain ⟨ih0, ih1⟩ := numnahlaw08_reading.mono_l k
 unfold numnahlaw08_reading.f
 repeat' first
   | (with_reducible exact ih0 _ _ _ _)
   | (with_reducible exact ih1 _ _ _ _ _ _)
   | (with_reducible exact numnahref08_Parts.mono _ _)
   | (with_reducible exact LeO.refl _)
   | (with_reducible exact LeO.none _)
   | (with_reducible refine LeO.ite ?_ ?_)
   | (with_reducible refine LeO.bind ?_ (fun _ => ?_))
   | exact ih0 _ _ _ _
   | exact ih1 _ _ _ _ _ _
   | exact numnahref08_Parts.mono _ _
   | exact LeO.none _
   | refine LeO.ite ?_ ?_
   | refine LeO.bind ?_ (fun _ => ?_)
set_option maxHeartbeats 8000000 in
set_option maxRecDepth 100000 in
theorem numnahlaw08_reading.calls (k : Nat) (A0 : Option Addr) (c0 : Nat) (l0 : List Int) (r : List (List Int)) (w : World) (hr0 : Kd.C (Kd.int .i64) w A0 l0.length l0) (hc0 : l0.length ≤ c0) (h : numnahlaw08_reading.f k l0 = some r) :
  Calls Tryz.prog 34 #[.slice A0 l0.length c0] w fun e w' => ∃ v0_ : Value, e = .returned (v0_) ∧ Kd.S (Kd.slice 3 (Kd.int .i64)) 43 w' w.heap.size (fun _ => True) v0_ r ∧ Below w.heap.size w w' := by
 have HR0 := Aside0.mk hr0
 have HC0 := Aside0.mk hc0
 clear hr0 hc0
 have HB := Aside0.mk (Below.refl w.heap.size w)
 have H : (numnahlaw08_reading.l0 k l0 ([] : List (List Int)) 0 0) = some r := h
 clear h
 have H' := Aside0.mk H
 clear H
 go_enter Tryz.func34, Tryz.ntmps34
 go_wp2
 go_loopg [3, 4, 5] k (fun kq v3 v4 v5 w' => ∃ (x3_1 : List (List Int)) (x4_1 : Int) (x5_1 : Int), v4 = .int .i64 x4_1 ∧ v5 = .int .i64 x5_1 ∧ Aside0 (numnahlaw08_reading.l0 kq l0 x3_1 x4_1 x5_1 = some r) ∧ Aside0 (kq ≤ k) ∧ Aside0 (Kd.S (Kd.slice 3 (Kd.int .i64)) 43 w' w.heap.size (fun _ => True) v3 x3_1) ∧ Aside0 (Below w.heap.size w w'))
 case atStart => exact ⟨(([] : List (List Int))), (0), (0), tS_, tS_, H', ⟨Nat.le_refl _⟩, ⟨by first | exact Kd.S_nil _ _ _ _ _ | exact Kd.N_nil _ _ _ _ _ | exact Kd.V_nil _ _ _ _ _ | exact Kd.Q_nil _ _ _ _ _ | exact Kd.R_nil _ _ _ _ _⟩, ⟨by repeat (first | (with_reducible first | exact HB.out | apply below_alloc | apply pw_below_drewN | apply below_drew1) | exact HB.out)⟩⟩
 case round =>
  clear H'
  obtain ⟨x3_1, x4_1, x5_1, rfl, rfl, HA, HK1, HO_3, HB⟩ := hrel
  cases gk with
  | zero => exact absurd HA.out (by simp [numnahlaw08_reading.l0])
  | succ k1 =>
   have H := HA.out
   clear HA
   simp only [numnahlaw08_reading.l0] at H
   by_cases c2 : x5_1 < 6
   ·rw [if_pos c2] at H
    have c2b0 : decide (x5_1 < 6) = true := decide_eq_true c2
    clear c2
    have H' := Aside0.mk H
    clear H
    go_wp2
    go_loopg [4, 6, 7] k1 (fun kq v4 v6 v7 w' => ∃ (x4_2 : Int) (x6_2 : List Int) (x7_2 : Int), v4 = .int .i64 x4_2 ∧ v7 = .int .i64 x7_2 ∧ Aside0 (numnahlaw08_reading.l1 kq l0 x3_1 x4_2 x5_1 x6_2 x7_2 = some r) ∧ Aside0 (kq ≤ k1) ∧ Aside0 (Kd.S (Kd.slice 3 (Kd.int .i64)) 43 w' w.heap.size (fun k_ => some k_ ≠ (v6 : Value).ownBlock) u3 x3_1) ∧ Aside0 (Kd.R (Kd.int .i64) 3 w' w.heap.size (fun _ => True) v6 x6_2) ∧ Aside0 (Below w.heap.size w w'))
    case atStart => exact ⟨(x4_1), (([] : List Int)), (0), tS_, tS_, H', ⟨Nat.le_refl _⟩, ⟨by (with_reducible repeat (first | apply Kd.S_alloc | apply Kd.S_drewN | apply Kd.S_drew)); exact Kd.S_mono HO_3.out (fun _ hk => (by simp [Value.ownBlock]))⟩, ⟨by first | exact Kd.R_nil _ _ _ _ _ | exact Kd.N_nil _ _ _ _ _ | exact Kd.V_nil _ _ _ _ _ | exact Kd.Q_nil _ _ _ _ _ | exact Kd.S_nil _ _ _ _ _⟩, ⟨by repeat (first | (with_reducible first | exact HB.out | apply below_alloc | apply pw_below_drewN | apply below_drew1) | exact HB.out)⟩⟩
    case round =>
     clear H'
     try clear c2
     try clear c2b0
     try clear p2
     obtain ⟨x4_2, x6_2, x7_2, rfl, rfl, HA, HK2, HO_3, HO_6, HB⟩ := hrel
     cases gk with
     | zero => exact absurd HA.out (by simp [numnahlaw08_reading.l1])
     | succ k2 =>
      have H := HA.out
      clear HA
      simp only [numnahlaw08_reading.l1] at H
      replace H := Option.bind_eq_some_iff.mp H
      obtain ⟨t315, A30, H⟩ := H
      replace H : (if x7_2 ≤ t315 then (if x4_2 < (l0.length : Int) then (if 0 ≤ x4_2 then ((numnahlaw08_mod.f (rd l0 x4_2) 6).bind fun t320 => (if x7_2 = 0 then (if x6_2.length < 17592186044416 then (numnahlaw08_reading.l1 k2 l0 x3_1 (wrap64 (x4_2 + 1)) x5_1 (x6_2 ++ [Int.tmod t320 3]) (wrap64 (x7_2 + 1))) else (none)) else (if x6_2.length < 17592186044416 then (numnahlaw08_reading.l1 k2 l0 x3_1 (wrap64 (x4_2 + 1)) x5_1 (x6_2 ++ [wrap64 (1 + (Int.tmod t320 2))]) (wrap64 (x7_2 + 1))) else (none)))) else (none)) else (if x7_2 = 0 then (if x6_2.length < 17592186044416 then (numnahlaw08_reading.l1 k2 l0 x3_1 (wrap64 (x4_2 + 1)) x5_1 (x6_2 ++ [0]) (wrap64 (x7_2 + 1))) else (none)) else (if x6_2.length < 17592186044416 then (numnahlaw08_reading.l1 k2 l0 x3_1 (wrap64 (x4_2 + 1)) x5_1 (x6_2 ++ [1]) (wrap64 (x7_2 + 1))) else (none)))) else (if x3_1.length < 5864062014805 then (numnahlaw08_reading.l0 k2 l0 (x3_1 ++ [x6_2]) x4_2 (wrap64 (x5_1 + 1))) else (none))) = some r := H
      have A3 := Aside0.mk A30
      clear A30
      by_cases c4 : x7_2 ≤ t315
      ·rw [if_pos c4] at H
       have c4b0 : decide (x7_2 ≤ t315) = true := decide_eq_true c4
       clear c4
       by_cases c5 : x4_2 < (l0.length : Int)
       ·rw [if_pos c5] at H
        have c5b0 : decide (x4_2 < (l0.length : Int)) = true := decide_eq_true c5
        clear c5
        by_cases c6 : 0 ≤ x4_2
        ·rw [if_pos c6] at H
         have c6b0 : decide (0 ≤ x4_2) = true := decide_eq_true c6
         clear c6
         replace H := Option.bind_eq_some_iff.mp H
         obtain ⟨t320, A70, H⟩ := H
         replace H : (if x7_2 = 0 then (if x6_2.length < 17592186044416 then (numnahlaw08_reading.l1 k2 l0 x3_1 (wrap64 (x4_2 + 1)) x5_1 (x6_2 ++ [Int.tmod t320 3]) (wrap64 (x7_2 + 1))) else (none)) else (if x6_2.length < 17592186044416 then (numnahlaw08_reading.l1 k2 l0 x3_1 (wrap64 (x4_2 + 1)) x5_1 (x6_2 ++ [wrap64 (1 + (Int.tmod t320 2))]) (wrap64 (x7_2 + 1))) else (none))) = some r := H
         have A7 := Aside0.mk A70
         clear A70
         by_cases c8 : x7_2 = 0
         ·rw [if_pos c8] at H
          have c8b0 : (x7_2 == 0) = true := beq_iff_eq.mpr c8
          have c8b1 : (x7_2 != 0) = false := bne_eq_false_iff_eq.mpr c8
          clear c8
          by_cases c9 : x6_2.length < 17592186044416
          ·rw [if_pos c9] at H
           have LMc9 := Aside0.mk c9
           clear c9
           obtain ⟨y321, hy321⟩ : ∃ y_ : List Int, y_ = (x6_2 ++ [Int.tmod t320 3]) := ⟨_, rfl⟩
           replace H : (numnahlaw08_reading.l1 k2 l0 x3_1 (wrap64 (x4_2 + 1)) x5_1 y321 (wrap64 (x7_2 + 1))) = some r := by first | (rw [hy321]; with_reducible exact H) | (have H2_ := (Option.bind_some _ _).symm.trans H; rw [hy321]; with_reducible exact H2_) | (have H2_ := (Option.bind_some _ _).symm.trans H; with_reducible exact H2_) | with_reducible exact H | (rw [hy321]; exact H) | exact H
           have Ny321 := Aside0.mk hy321
           clear hy321
           have H' := Aside0.mk H
           clear H
           go_wp2_with (first | ((with_reducible refine gate_callee (f := 71) rfl ?_); refine goesL_ (some 17) rfl rfl Tryz.func71 (by kernel_rfl) rfl #[.int .u8 ((wrap64 (97 + x5_1)) % 256)] rfl tM_ ?_; (with_reducible refine (numnahref08_Parts.calls k2 ((wrap64 (97 + x5_1)) % 256) t315 _ A3.out).mono ?_); rintro e w' ⟨rfl, ⟨nd, rfl⟩⟩; refine ⟨_, rfl, ?_⟩; have p319 : 0 ≤ (x4_2 : Int) := of_decide_eq_true tA_; have q319 : x4_2 < (l0.length : Int) := of_decide_eq_true tA_; obtain ⟨ad319, e319, hx319_0⟩ := Kd.at_int HR0.out x4_2 p319 q319; cases e319; replace hx319_0 := (HB.out.cell (World.block_lt_of_cell? w _ hx319_0)).trans hx319_0; replace p319 := eq_true p319; replace q319 := eq_true q319) | ((with_reducible refine gate_callee (f := 55) rfl ?_); refine goesL_ (some 29) rfl rfl Tryz.func55 (by kernel_rfl) rfl #[.int .i64 (rd l0 x4_2), .int .i64 6] rfl tM_ ?_; (with_reducible refine (numnahlaw08_mod.calls (rd l0 x4_2) 6 t320 _ A7.out).mono ?_); rintro e w' ⟨rfl, ⟨nd, rfl⟩⟩; refine ⟨_, rfl, ?_⟩) | ((with_reducible refine gate_builtin (b := .append) (xs := #[.tmp 34, .tmp 37]) rfl ?_); at_builtin; refine Kd.R_append (Kd.int .i64) (w0 := w) w.heap.size rfl (.tmp 34) (.tmp 37) 43 3 (.int .i64 0) 8 rfl Tryz.underlying43 info3 rfl (by decide) (by omega) u6 x6_2 (Int.tmod t320 3) [.int .i64 (Int.tmod t320 3)] (fun _ => True) (fun _ => False) rfl rfl ?aP (fun _ hk => hk.elim) ?aF ?aO ?aB ?aS ?aL ?_; (case aP => exact rfl); (case aB => exact (tB_ HB)); (case aF => exact (fun _ _ => trivial)); (case aO => exact (tR_ HO_6)); (case aS => exact (below_size (tB_ HB))); (case aL => have := LMc9.out; omega); intro v322 w10 ho hb hg hat; rw [← Ny321.out] at ho; have n0_ := Aside0.mk (Kd.S_after (ok := (fun _ => True)) (by (with_reducible repeat (first | apply Kd.S_alloc | apply Kd.S_drewN | apply Kd.S_drew)); exact Kd.S_mono HO_3.out (fun _ hk => ⟨trivial, hk⟩)) hg hat); have n1_ := Aside0.mk (hb); have n2_ := Aside0.mk (ho); clear HO_3; clear HB; clear HO_6; have HO_3 := n0_; have HB := n1_; have HO323 := n2_; clear n0_ n1_ n2_; clear ho hb hg hat))
           go_roundg k2
           case measure => have := HK1.out; have := HK2.out; omega
           case rel => exact ⟨(wrap64 (x4_2 + 1)), (y321), (wrap64 (x7_2 + 1)), tS_, tS_, H', ⟨by have := HK1.out; have := HK2.out; omega⟩, ⟨by (with_reducible repeat (first | apply Kd.S_alloc | apply Kd.S_drewN | apply Kd.S_drew)); exact Kd.S_mono HO_3.out (fun _ hk => hk.2)⟩, ⟨by (with_reducible repeat (first | apply Kd.R_alloc | apply Kd.R_drewN | apply Kd.R_drew)); exact HO323.out⟩, ⟨by repeat (first | (with_reducible first | exact HB.out | apply below_alloc | apply pw_below_drewN | apply below_drew1) | exact HB.out)⟩⟩
          ·rw [if_neg c9] at H
           exact absurd H (by simp)
         ·rw [if_neg c8] at H
          have c8b0 : (x7_2 == 0) = false := beq_eq_false_iff_ne.mpr c8
          have c8b1 : (x7_2 != 0) = true := bne_iff_ne.mpr c8
          by_cases c11 : x6_2.length < 17592186044416
          ·rw [if_pos c11] at H
           have LMc11 := Aside0.mk c11
           clear c11
           obtain ⟨y324, hy324⟩ : ∃ y_ : List Int, y_ = (x6_2 ++ [wrap64 (1 + (Int.tmod t320 2))]) := ⟨_, rfl⟩
           replace H : (numnahlaw08_reading.l1 k2 l0 x3_1 (wrap64 (x4_2 + 1)) x5_1 y324 (wrap64 (x7_2 + 1))) = some r := by first | (rw [hy324]; with_reducible exact H) | (have H2_ := (Option.bind_some _ _).symm.trans H; rw [hy324]; with_reducible exact H2_) | (have H2_ := (Option.bind_some _ _).symm.trans H; with_reducible exact H2_) | with_reducible exact H | (rw [hy324]; exact H) | exact H
           have Ny324 := Aside0.mk hy324
           clear hy324
           have H' := Aside0.mk H
           clear H
           go_wp2_with (first | ((with_reducible refine gate_callee (f := 71) rfl ?_); refine goesL_ (some 17) rfl rfl Tryz.func71 (by kernel_rfl) rfl #[.int .u8 ((wrap64 (97 + x5_1)) % 256)] rfl tM_ ?_; (with_reducible refine (numnahref08_Parts.calls k2 ((wrap64 (97 + x5_1)) % 256) t315 _ A3.out).mono ?_); rintro e w' ⟨rfl, ⟨nd, rfl⟩⟩; refine ⟨_, rfl, ?_⟩; have p319 : 0 ≤ (x4_2 : Int) := of_decide_eq_true tA_; have q319 : x4_2 < (l0.length : Int) := of_decide_eq_true tA_; obtain ⟨ad319, e319, hx319_0⟩ := Kd.at_int HR0.out x4_2 p319 q319; cases e319; replace hx319_0 := (HB.out.cell (World.block_lt_of_cell? w _ hx319_0)).trans hx319_0; replace p319 := eq_true p319; replace q319 := eq_true q319) | ((with_reducible refine gate_callee (f := 55) rfl ?_); refine goesL_ (some 29) rfl rfl Tryz.func55 (by kernel_rfl) rfl #[.int .i64 (rd l0 x4_2), .int .i64 6] rfl tM_ ?_; (with_reducible refine (numnahlaw08_mod.calls (rd l0 x4_2) 6 t320 _ A7.out).mono ?_); rintro e w' ⟨rfl, ⟨nd, rfl⟩⟩; refine ⟨_, rfl, ?_⟩) | ((with_reducible refine gate_builtin (b := .append) (xs := #[.tmp 39, .tmp 43]) rfl ?_); at_builtin; refine Kd.R_append (Kd.int .i64) (w0 := w) w.heap.size rfl (.tmp 39) (.tmp 43) 43 3 (.int .i64 0) 8 rfl Tryz.underlying43 info3 rfl (by decide) (by omega) u6 x6_2 (wrap64 (1 + (Int.tmod t320 2))) [.int .i64 (wrap64 (1 + (Int.tmod t320 2)))] (fun _ => True) (fun _ => False) rfl rfl ?aP (fun _ hk => hk.elim) ?aF ?aO ?aB ?aS ?aL ?_; (case aP => exact rfl); (case aB => exact (tB_ HB)); (case aF => exact (fun _ _ => trivial)); (case aO => exact (tR_ HO_6)); (case aS => exact (below_size (tB_ HB))); (case aL => have := LMc11.out; omega); intro v325 w12 ho hb hg hat; rw [← Ny324.out] at ho; have n0_ := Aside0.mk (Kd.S_after (ok := (fun _ => True)) (by (with_reducible repeat (first | apply Kd.S_alloc | apply Kd.S_drewN | apply Kd.S_drew)); exact Kd.S_mono HO_3.out (fun _ hk => ⟨trivial, hk⟩)) hg hat); have n1_ := Aside0.mk (hb); have n2_ := Aside0.mk (ho); clear HO_3; clear HB; clear HO_6; have HO_3 := n0_; have HB := n1_; have HO326 := n2_; clear n0_ n1_ n2_; clear ho hb hg hat))
           go_roundg k2
           case measure => have := HK1.out; have := HK2.out; omega
           case rel => exact ⟨(wrap64 (x4_2 + 1)), (y324), (wrap64 (x7_2 + 1)), tS_, tS_, H', ⟨by have := HK1.out; have := HK2.out; omega⟩, ⟨by (with_reducible repeat (first | apply Kd.S_alloc | apply Kd.S_drewN | apply Kd.S_drew)); exact Kd.S_mono HO_3.out (fun _ hk => hk.2)⟩, ⟨by (with_reducible repeat (first | apply Kd.R_alloc | apply Kd.R_drewN | apply Kd.R_drew)); exact HO326.out⟩, ⟨by repeat (first | (with_reducible first | exact HB.out | apply below_alloc | apply pw_below_drewN | apply below_drew1) | exact HB.out)⟩⟩
          ·rw [if_neg c11] at H
           exact absurd H (by simp)
        ·rw [if_neg c6] at H
         exact absurd H (by simp)
       ·rw [if_neg c5] at H
        have c5b0 : decide (x4_2 < (l0.length : Int)) = false := decide_eq_false c5
        clear c5
        by_cases c13 : x7_2 = 0
        ·rw [if_pos c13] at H
         have c13b0 : (x7_2 == 0) = true := beq_iff_eq.mpr c13
         have c13b1 : (x7_2 != 0) = false := bne_eq_false_iff_eq.mpr c13
         clear c13
         by_cases c14 : x6_2.length < 17592186044416
         ·rw [if_pos c14] at H
          have LMc14 := Aside0.mk c14
          clear c14
          obtain ⟨y327, hy327⟩ : ∃ y_ : List Int, y_ = (x6_2 ++ [0]) := ⟨_, rfl⟩
          replace H : (numnahlaw08_reading.l1 k2 l0 x3_1 (wrap64 (x4_2 + 1)) x5_1 y327 (wrap64 (x7_2 + 1))) = some r := by first | (rw [hy327]; with_reducible exact H) | (have H2_ := (Option.bind_some _ _).symm.trans H; rw [hy327]; with_reducible exact H2_) | (have H2_ := (Option.bind_some _ _).symm.trans H; with_reducible exact H2_) | with_reducible exact H | (rw [hy327]; exact H) | exact H
          have Ny327 := Aside0.mk hy327
          clear hy327
          have H' := Aside0.mk H
          clear H
          go_wp2_with (first | ((with_reducible refine gate_callee (f := 71) rfl ?_); refine goesL_ (some 17) rfl rfl Tryz.func71 (by kernel_rfl) rfl #[.int .u8 ((wrap64 (97 + x5_1)) % 256)] rfl tM_ ?_; (with_reducible refine (numnahref08_Parts.calls k2 ((wrap64 (97 + x5_1)) % 256) t315 _ A3.out).mono ?_); rintro e w' ⟨rfl, ⟨nd, rfl⟩⟩; refine ⟨_, rfl, ?_⟩) | ((with_reducible refine gate_builtin (b := .append) (xs := #[.tmp 34, .tmp 37]) rfl ?_); at_builtin; refine Kd.R_append (Kd.int .i64) (w0 := w) w.heap.size rfl (.tmp 34) (.tmp 37) 43 3 (.int .i64 0) 8 rfl Tryz.underlying43 info3 rfl (by decide) (by omega) u6 x6_2 0 [.int .i64 0] (fun _ => True) (fun _ => False) rfl rfl ?aP (fun _ hk => hk.elim) ?aF ?aO ?aB ?aS ?aL ?_; (case aP => exact rfl); (case aB => exact (tB_ HB)); (case aF => exact (fun _ _ => trivial)); (case aO => exact (tR_ HO_6)); (case aS => exact (below_size (tB_ HB))); (case aL => have := LMc14.out; omega); intro v328 w15 ho hb hg hat; rw [← Ny327.out] at ho; have n0_ := Aside0.mk (Kd.S_after (ok := (fun _ => True)) (by (with_reducible repeat (first | apply Kd.S_alloc | apply Kd.S_drewN | apply Kd.S_drew)); exact Kd.S_mono HO_3.out (fun _ hk => ⟨trivial, hk⟩)) hg hat); have n1_ := Aside0.mk (hb); have n2_ := Aside0.mk (ho); clear HO_3; clear HB; clear HO_6; have HO_3 := n0_; have HB := n1_; have HO329 := n2_; clear n0_ n1_ n2_; clear ho hb hg hat))
          go_roundg k2
          case measure => have := HK1.out; have := HK2.out; omega
          case rel => exact ⟨(wrap64 (x4_2 + 1)), (y327), (wrap64 (x7_2 + 1)), tS_, tS_, H', ⟨by have := HK1.out; have := HK2.out; omega⟩, ⟨by (with_reducible repeat (first | apply Kd.S_alloc | apply Kd.S_drewN | apply Kd.S_drew)); exact Kd.S_mono HO_3.out (fun _ hk => hk.2)⟩, ⟨by (with_reducible repeat (first | apply Kd.R_alloc | apply Kd.R_drewN | apply Kd.R_drew)); exact HO329.out⟩, ⟨by repeat (first | (with_reducible first | exact HB.out | apply below_alloc | apply pw_below_drewN | apply below_drew1) | exact HB.out)⟩⟩
         ·rw [if_neg c14] at H
          exact absurd H (by simp)
        ·rw [if_neg c13] at H
         have c13b0 : (x7_2 == 0) = false := beq_eq_false_iff_ne.mpr c13
         have c13b1 : (x7_2 != 0) = true := bne_iff_ne.mpr c13
         by_cases c16 : x6_2.length < 17592186044416
         ·rw [if_pos c16] at H
          have LMc16 := Aside0.mk c16
          clear c16
          obtain ⟨y330, hy330⟩ : ∃ y_ : List Int, y_ = (x6_2 ++ [1]) := ⟨_, rfl⟩
          replace H : (numnahlaw08_reading.l1 k2 l0 x3_1 (wrap64 (x4_2 + 1)) x5_1 y330 (wrap64 (x7_2 + 1))) = some r := by first | (rw [hy330]; with_reducible exact H) | (have H2_ := (Option.bind_some _ _).symm.trans H; rw [hy330]; with_reducible exact H2_) | (have H2_ := (Option.bind_some _ _).symm.trans H; with_reducible exact H2_) | with_reducible exact H | (rw [hy330]; exact H) | exact H
          have Ny330 := Aside0.mk hy330
          clear hy330
          have H' := Aside0.mk H
          clear H
          go_wp2_with (first | ((with_reducible refine gate_callee (f := 71) rfl ?_); refine goesL_ (some 17) rfl rfl Tryz.func71 (by kernel_rfl) rfl #[.int .u8 ((wrap64 (97 + x5_1)) % 256)] rfl tM_ ?_; (with_reducible refine (numnahref08_Parts.calls k2 ((wrap64 (97 + x5_1)) % 256) t315 _ A3.out).mono ?_); rintro e w' ⟨rfl, ⟨nd, rfl⟩⟩; refine ⟨_, rfl, ?_⟩) | ((with_reducible refine gate_builtin (b := .append) (xs := #[.tmp 39, .tmp 43]) rfl ?_); at_builtin; refine Kd.R_append (Kd.int .i64) (w0 := w) w.heap.size rfl (.tmp 39) (.tmp 43) 43 3 (.int .i64 0) 8 rfl Tryz.underlying43 info3 rfl (by decide) (by omega) u6 x6_2 1 [.int .i64 1] (fun _ => True) (fun _ => False) rfl rfl ?aP (fun _ hk => hk.elim) ?aF ?aO ?aB ?aS ?aL ?_; (case aP => exact rfl); (case aB => exact (tB_ HB)); (case aF => exact (fun _ _ => trivial)); (case aO => exact (tR_ HO_6)); (case aS => exact (below_size (tB_ HB))); (case aL => have := LMc16.out; omega); intro v331 w17 ho hb hg hat; rw [← Ny330.out] at ho; have n0_ := Aside0.mk (Kd.S_after (ok := (fun _ => True)) (by (with_reducible repeat (first | apply Kd.S_alloc | apply Kd.S_drewN | apply Kd.S_drew)); exact Kd.S_mono HO_3.out (fun _ hk => ⟨trivial, hk⟩)) hg hat); have n1_ := Aside0.mk (hb); have n2_ := Aside0.mk (ho); clear HO_3; clear HB; clear HO_6; have HO_3 := n0_; have HB := n1_; have HO332 := n2_; clear n0_ n1_ n2_; clear ho hb hg hat))
          go_roundg k2
          case measure => have := HK1.out; have := HK2.out; omega
          case rel => exact ⟨(wrap64 (x4_2 + 1)), (y330), (wrap64 (x7_2 + 1)), tS_, tS_, H', ⟨by have := HK1.out; have := HK2.out; omega⟩, ⟨by (with_reducible repeat (first | apply Kd.S_alloc | apply Kd.S_drewN | apply Kd.S_drew)); exact Kd.S_mono HO_3.out (fun _ hk => hk.2)⟩, ⟨by (with_reducible repeat (first | apply Kd.R_alloc | apply Kd.R_drewN | apply Kd.R_drew)); exact HO332.out⟩, ⟨by repeat (first | (with_reducible first | exact HB.out | apply below_alloc | apply pw_below_drewN | apply below_drew1) | exact HB.out)⟩⟩
         ·rw [if_neg c16] at H
          exact absurd H (by simp)
      ·rw [if_neg c4] at H
       have c4b0 : decide (x7_2 ≤ t315) = false := decide_eq_false c4
       clear c4
       by_cases c18 : x3_1.length < 5864062014805
       ·rw [if_pos c18] at H
        have LMc18 := Aside0.mk c18
        clear c18
        obtain ⟨y316, hy316⟩ : ∃ y_ : List (List Int), y_ = (x3_1 ++ [x6_2]) := ⟨_, rfl⟩
        replace H : (numnahlaw08_reading.l0 k2 l0 y316 x4_2 (wrap64 (x5_1 + 1))) = some r := by first | (rw [hy316]; with_reducible exact H) | (have H2_ := (Option.bind_some _ _).symm.trans H; rw [hy316]; with_reducible exact H2_) | (have H2_ := (Option.bind_some _ _).symm.trans H; with_reducible exact H2_) | with_reducible exact H | (rw [hy316]; exact H) | exact H
        have Ny316 := Aside0.mk hy316
        clear hy316
        have H' := Aside0.mk H
        clear H
        go_wp2_with (first | ((with_reducible refine gate_callee (f := 71) rfl ?_); refine goesL_ (some 17) rfl rfl Tryz.func71 (by kernel_rfl) rfl #[.int .u8 ((wrap64 (97 + x5_1)) % 256)] rfl tM_ ?_; (with_reducible refine (numnahref08_Parts.calls k2 ((wrap64 (97 + x5_1)) % 256) t315 _ A3.out).mono ?_); rintro e w' ⟨rfl, ⟨nd, rfl⟩⟩; refine ⟨_, rfl, ?_⟩; obtain ⟨Ao20, co20, eo20⟩ := Kd.R_slice HO_6.out; subst eo20) | ((with_reducible refine gate_builtin (b := .append) (xs := #[.tmp 45, .tmp 47]) rfl ?_); at_builtin; refine Kd.S_append (Kd.slice 3 (Kd.int .i64)) (w0 := w) w.heap.size rfl (.tmp 45) (.tmp 47) 22 43 (.slice none 0 0) 24 rfl Tryz.underlying22 info43 rfl (by decide) (by omega) u3 x3_1 x6_2 [.slice Ao20 x6_2.length co20] (fun _ => True) (fun k_ => some k_ = (.slice Ao20 x6_2.length co20 : Value).ownBlock) rfl rfl ?aP (fun k_ hk_ => ((Kd.R_mono (ok' := fun k_ => ((fun _ => True)) k_ ∧ some k_ ≠ (u3 : Value).ownBlock) (Kd.R_apart' (HO_6.out) (Kd.S_typed HO_3.out) (by decide)) (fun k_ hk => ⟨trivial, hk.2⟩))).1 k_ hk_.symm) ?aF ?aO ?aB ?aS ?aL ?_; (case aP => exact Kd.M_row (Kd.R_mono (Kd.R_tight rfl (Kd.R_mono (ok' := fun k_ => ((fun _ => True)) k_ ∧ some k_ ≠ (u3 : Value).ownBlock) (Kd.R_apart' (HO_6.out) (Kd.S_typed HO_3.out) (by decide)) (fun k_ hk => ⟨trivial, hk.2⟩))) (fun _ h_ => h_))); (case aB => exact (tB_ HB)); (case aF => exact (fun _ _ => trivial)); (case aO => exact (by (with_reducible repeat (first | apply Kd.S_alloc | apply Kd.S_drewN | apply Kd.S_drew)); exact Kd.S_mono HO_3.out (fun k_ hk => ⟨trivial, fun e_ => hk e_⟩))); (case aS => exact (below_size (tB_ HB))); (case aL => have := LMc18.out; omega); intro v317 w19 ho hb hg hat; rw [← Ny316.out] at ho; have n0_ := Aside0.mk (hb); have n1_ := Aside0.mk (ho); clear HB; clear HO_3; clear HO_6; have HB := n0_; have HO318 := n1_; clear n0_ n1_; clear ho hb hg hat))
        go_roundg k2
        case measure => have := HK1.out; have := HK2.out; omega
        case rel => exact ⟨(y316), (x4_2), (wrap64 (x5_1 + 1)), tS_, tS_, H', ⟨by have := HK1.out; have := HK2.out; omega⟩, ⟨by (with_reducible repeat (first | apply Kd.S_alloc | apply Kd.S_drewN | apply Kd.S_drew)); exact HO318.out⟩, ⟨by repeat (first | (with_reducible first | exact HB.out | apply below_alloc | apply pw_below_drewN | apply below_drew1) | exact HB.out)⟩⟩
       ·rw [if_neg c18] at H
        exact absurd H (by simp)
   ·rw [if_neg c2] at H
    have c2b0 : decide (x5_1 < 6) = false := decide_eq_false c2
    clear c2
    obtain rfl := Option.some.inj H
    go_wp2
    go_ret
    exact ⟨_, by first | rfl | (simp [errW_none, errW_some] <;> rfl) | (simp [*, errW_none, errW_some] <;> rfl), by (with_reducible repeat (first | apply Kd.S_alloc | apply Kd.S_drewN | apply Kd.S_drew)); exact HO_3.out, by repeat (first | (with_reducible first | exact HB.out | apply below_alloc | apply pw_below_drewN | apply below_drew1) | exact HB.out)⟩

end Go.Proofs.YtaafeallcaiooaaGreat.Pr
-- indented by one
namespace Go.Proofs.YtaafeallcaiooaaGreat.Pr
open Go.RowKit Go.Proofs.YtaafeallcaiooaaGreatW.PrintWords Go.Proofs.YtaafeallcaiooaaGreatW.PrintLast Go.Proofs.YtaafeallcaiooaaGreatW.PrintMore
set_option linter.unusedVariables false
set_option linter.unusedSimpArgs false
theorem isRdF_app : ∀ (a b : List (List Int)) (i : Nat), isRdF i (a ++ b) = (isRdF i a && isRdF (i + a.length) b)
  | [], b, i => by rw [List.nil_append, isRdF, Bool.true_and]; rfl
  | r :: a, b, i => by
    rw [List.cons_append, isRdF, isRdF, isRdF_app a b (i + 1), Bool.and_assoc, List.length_cons, show i + 1 + a.length = i + (a.length + 1) by omega]
theorem mod_6 (x : Int) : ∃ m : Int, 0 ≤ m ∧ m < 6 ∧ numnahlaw08_mod.f x 6 = some m := by
  have hu0 : 0 ≤ IntKind.u64.wrap x := Int.emod_nonneg _ (by decide)
  have h6 : IntKind.u64.wrap 6 = 6 := by kernel_rfl
  have h1 : 0 ≤ IntKind.u64.wrap x % 6 := Int.emod_nonneg _ (by decide)
  have h2 : IntKind.u64.wrap x % 6 < 6 := Int.emod_lt_of_pos _ (by decide)
  refine ⟨IntKind.u64.wrap x % 6, h1, h2, ?_⟩
  unfold numnahlaw08_mod.f
  rw [h6, if_neg (by decide), Int.tmod_eq_emod_of_nonneg hu0]
  generalize IntKind.u64.wrap x % 6 = y at *
  rw [wr (by omega) (by omega)]
def PO (j : Nat) (row : List Int) : Prop := row.length = j ∧ (0 < j → withinB (row.getD 0 0) 0 2 = true) ∧ (row.drop 1).any (fun n => !withinB n 1 2) = false
theorem within_of {x a b : Int} (h1 : a ≤ x) (h2 : x ≤ b) : withinB x a b = true := by unfold withinB; rw [decide_eq_true (show x ≥ a from h1), decide_eq_true h2]; rfl
theorem PO.zero {x : Int} {row : List Int} (h : PO 0 row) (h1 : 0 ≤ x) (h2 : x ≤ 2) : PO 1 (row ++ [x]) := by
  obtain ⟨h3, _, _⟩ := h
  obtain rfl := List.length_eq_zero_iff.1 h3
  exact ⟨rfl, fun _ => within_of h1 h2, rfl⟩
theorem PO.succ {x : Int} {j : Nat} {row : List Int} (hj : j ≠ 0) (h : PO j row) (h1 : 1 ≤ x) (h2 : x ≤ 2) : PO (j + 1) (row ++ [x]) := by
  obtain ⟨h3, h4, h5⟩ := h
  refine ⟨by simp [h3], fun _ => ?_, ?_⟩
  · have := h4 (by omega)
    cases row with
    | nil => simp at h3; omega
    | cons a row => exact this
  · rw [List.drop_append_of_le_length (by omega), List.any_append, h5, Bool.false_or, List.any_cons, within_of h1 h2]
    rfl
def rdgB (k : Nat) (x0 : List Int) (x3 : List (List Int)) (x4 x5 : Int) (x6 : List Int) (x7 t315 : Int) : Option (List (List Int)) := (if x7 ≤ t315 then (if x4 < (x0.length : Int) then (if 0 ≤ x4 then ((numnahlaw08_mod.f (rd x0 x4) 6).bind fun t320 => (if x7 = 0 then (if x6.length < 17592186044416 then (numnahlaw08_reading.l1 k x0 x3 (wrap64 (x4 + 1)) x5 (x6 ++ [Int.tmod t320 3]) (wrap64 (x7 + 1))) else (none)) else (if x6.length < 17592186044416 then (numnahlaw08_reading.l1 k x0 x3 (wrap64 (x4 + 1)) x5 (x6 ++ [wrap64 (1 + (Int.tmod t320 2))]) (wrap64 (x7 + 1))) else (none)))) else (none)) else (if x7 = 0 then (if x6.length < 17592186044416 then (numnahlaw08_reading.l1 k x0 x3 (wrap64 (x4 + 1)) x5 (x6 ++ [(0 : Int) % 3]) (wrap64 (x7 + 1))) else (none)) else (if x6.length < 17592186044416 then (numnahlaw08_reading.l1 k x0 x3 (wrap64 (x4 + 1)) x5 (x6 ++ [1 + ((0 : Int) % 2)]) (wrap64 (x7 + 1))) else (none)))) else (if x3.length < 5864062014805 then (numnahlaw08_reading.l0 k x0 (x3 ++ [x6]) x4 (wrap64 (x5 + 1))) else (none)))
theorem rdg_step (l : List Int) (x3 : List (List Int)) (x4 : Int) (i : Nat) (hi : i < 6) (row : List Int) (j : Int) (k : Nat) : numnahlaw08_reading.l1 (k + 1) l x3 x4 (i : Int) row j = (numnahref08_Parts.f k (97 + (i : Int))).bind (rdgB k l x3 x4 (i : Int) row j) := by
  have hw2 : (wrap64 (97 + (i : Int))) % 256 = 97 + (i : Int) := by
    have : wrap64 (97 + (i : Int)) = 97 + (i : Int) := wr (by omega) (by omega)
    rw [this]
    omega
  rw [numnahlaw08_reading.l1, hw2]
  rfl
theorem rdg_l1 (l : List Int) (hl : l.length ≤ 9223372036854775807) (i : Nat) (hi : i < 6) (x3 : List (List Int)) (h3 : x3.length = i) (P : List (List Int) → Prop)
    (next : ∀ (row : List Int) (x4 : Int), 0 ≤ x4 → x4 ≤ 3 * i + 3 → rowOk i row = true → ∃ R, P R ∧ Evt (fun k => numnahlaw08_reading.l0 k l (x3 ++ [row]) x4 ((i + 1 : Nat) : Int)) R) :
    ∀ (n j : Nat) (x4 : Int) (row : List Int), j + n = i / 2 + 1 → PO j row → 0 ≤ x4 → x4 ≤ 3 * i + j → ∃ R, P R ∧ Evt (fun k => numnahlaw08_reading.l1 k l x3 x4 (i : Int) row (j : Int)) R := by
  have hp := partsE (97 + (i : Int))
  rw [prt_sym (by omega)] at hp
  have hnp : nParts (97 + (i : Int)) = ((i / 2 : Nat) : Int) := by unfold nParts; omega
  rw [hnp] at hp
  clear hnp
  intro n
  induction n with
  | zero =>
    intro j x4 row hj hP h0 h1
    have hw : wrap64 ((i : Int) + 1) = ((i + 1 : Nat) : Int) := (wr (by omega) (by omega)).trans (by omega)
    obtain ⟨R, hR, hE⟩ := next row x4 h0 (by omega) (by
      unfold rowOk
      have hnp : nParts (97 + (i : Int)) = ((i / 2 : Nat) : Int) := by unfold nParts; omega
      rw [hnp, decide_eq_true (by have := hP.1; omega), hP.2.1 (by omega), hP.2.2]
      rfl)
    refine ⟨R, hR, Evt.step (rdg_step l x3 x4 i hi row _) (Evt.bind hp (hE.congr fun k => ?_))⟩
    · unfold rdgB
      rw [if_neg (by omega), if_pos (by omega), hw]
  | succ n ih =>
    intro j x4 row hj hP h0 h1
    have hw : wrap64 ((j : Int) + 1) = ((j + 1 : Nat) : Int) := (wr (by omega) (by omega)).trans (by omega)
    have hw4 : wrap64 (x4 + 1) = x4 + 1 := wr (by omega) (by omega)
    have hlen := hP.1
    -- the number that is appended
    obtain ⟨m, hm0, hm6, hm⟩ := mod_6 (rd l x4)
    have t3 : Int.tmod m 3 = m % 3 := Int.tmod_eq_emod_of_nonneg hm0
    have t2 : Int.tmod m 2 = m % 2 := Int.tmod_eq_emod_of_nonneg hm0
    have hw5 : wrap64 (1 + m % 2) = 1 + m % 2 := wr (by omega) (by omega)
    by_cases hlt : x4 < (l.length : Int)
    · by_cases hj0 : j = 0
      · subst hj0
        obtain ⟨R, hR, hE⟩ := ih 1 (x4 + 1) (row ++ [m % 3]) (by omega) (hP.zero (by omega) (by omega)) (by omega) (by omega)
        refine ⟨R, hR, Evt.step (rdg_step l x3 x4 i hi row _) (Evt.bind hp (hE.congr fun k => ?_))⟩
        · unfold rdgB
          rw [if_pos (by omega), if_pos hlt, if_pos h0, hm, Option.bind_some, if_pos (by rfl), if_pos (by omega), hw4, hw, t3]
      · obtain ⟨R, hR, hE⟩ := ih (j + 1) (x4 + 1) (row ++ [1 + m % 2]) (by omega) (hP.succ hj0 (by omega) (by omega)) (by omega) (by omega)
        refine ⟨R, hR, Evt.step (rdg_step l x3 x4 i hi row _) (Evt.bind hp (hE.congr fun k => ?_))⟩
        · unfold rdgB
          rw [if_pos (by omega), if_pos hlt, if_pos h0, hm, Option.bind_some, if_neg (by omega), if_pos (by omega), hw4, hw, t2, hw5]
    · by_cases hj0 : j = 0
      · subst hj0
        obtain ⟨R, hR, hE⟩ := ih 1 (x4 + 1) (row ++ [(0 : Int) % 3]) (by omega) (hP.zero (by decide) (by decide)) (by omega) (by omega)
        refine ⟨R, hR, Evt.step (rdg_step l x3 x4 i hi row _) (Evt.bind hp (hE.congr fun k => ?_))⟩
        · unfold rdgB
          rw [if_pos (by omega), if_neg hlt, if_pos (by rfl), if_pos (by omega), hw4, hw]
      · obtain ⟨R, hR, hE⟩ := ih (j + 1) (x4 + 1) (row ++ [1 + ((0 : Int) % 2)]) (by omega) (hP.succ hj0 (by decide) (by decide)) (by omega) (by omega)
        refine ⟨R, hR, Evt.step (rdg_step l x3 x4 i hi row _) (Evt.bind hp (hE.congr fun k => ?_))⟩
        · unfold rdgB
          rw [if_pos (by omega), if_neg hlt, if_neg (by omega), if_pos (by omega), hw4, hw]
theorem rdg_l0 (l : List Int) (hl : l.length ≤ 9223372036854775807) : ∀ (n i : Nat) (x3 : List (List Int)) (x4 : Int), i + n = 6 → x3.length = i → isRdF 0 x3 = true → 0 ≤ x4 → x4 ≤ 3 * i → ∃ R, isRd R = true ∧ Evt (fun k => numnahlaw08_reading.l0 k l x3 x4 (i : Int)) R
  | 0, i, x3, x4, hi, h3, hF, h0, h1 => by
    refine ⟨x3, ?_, Evt.now fun k => ?_⟩
    · unfold isRd
      rw [hF, decide_eq_true (by omega)]
      rfl
    · rw [numnahlaw08_reading.l0, if_neg (by omega)]
  | n + 1, i, x3, x4, hi, h3, hF, h0, h1 => by
    obtain ⟨R, hR, hE⟩ := rdg_l1 l hl i (by omega) x3 h3 (fun R => isRd R = true) (fun row x4' h4 h5 hrow => rdg_l0 l hl n (i + 1) (x3 ++ [row]) x4' (by omega) (by simp [h3]) (by
        rw [isRdF_app, hF, Bool.true_and, isRdF, isRdF, Nat.zero_add, h3, hrow]; rfl) h4 (by omega)) (i / 2 + 1) 0 x4 [] (by omega) ⟨rfl, fun h => by omega, rfl⟩ h0 (by omega)
    refine ⟨R, hR, Evt.step (fun k => ?_) hE⟩
    rw [numnahlaw08_reading.l0, if_pos (by omega)]
    rfl
theorem readingE (l : List Int) (hl : l.length ≤ 9223372036854775807) : ∃ R, isRd R = true ∧ Evt (fun k => numnahlaw08_reading.f k l) R := rdg_l0 l hl 6 0 [] 0 rfl rfl rfl (by omega) (by omega)
end Go.Proofs.YtaafeallcaiooaaGreat.Pr
