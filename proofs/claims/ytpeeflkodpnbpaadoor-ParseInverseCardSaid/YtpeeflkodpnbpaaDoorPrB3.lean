-- Laid by wip/tools/inj.py of this project, which drives the kit's printer. Lean checks it.
import Derived.Test.YtpeeflkodpnbpaaDoorPr0
import Derived.Test.YtpeeflkodpnbpaaDoorHEarl
import Derived.Test.YtpeeflkodpnbpaaDoorPrA23
import Derived.Test.YtpeeflkodpnbpaaDoorPrB17
import Derived.Test.YtpeeflkodpnbpaaDoorPrB19
namespace Go.Proofs.YtpeeflkodpnbpaaDoor.Pr
open Go.RowKit Go.Proofs.YtpeeflkodpnbpaaDoorW.PrintWords Go.Proofs.YtpeeflkodpnbpaaDoorW.PrintLast Go.Proofs.YtpeeflkodpnbpaaDoorW.PrintMore
attribute [local go_sem] max2_int min2_int max_two min_two max_three min_three max_four min_four   -- for this text's walks alone
set_option linter.unusedVariables false
set_option linter.unusedSimpArgs false

/-! ### numnahlaw09_ParseInverse: function 5 -/
mutual
def numnahlaw09_ParseInverse.j0 : Nat → ByteArray → ByteArray → Int → Bool → Option (Bool)
  | 0, _, _, _, _ => none
  | k + 1, x3, x4, x5, x41 => if x41 = true then (some false) else (numnahlaw09_ParseInverse.l0 k x3 x4 x5 ([] : List Int) 97)
def numnahlaw09_ParseInverse.l0 : Nat → ByteArray → ByteArray → Int → List Int → Int → Option (Bool)
  | 0, _, _, _, _, _ => none
  | k + 1, x3, x4, x5, x7, x8 => if x8 ≤ 100 then (numnahlaw09_ParseInverse.l1 k x3 x4 x5 x7 x8 0) else (if (x7.length : Int) = (x3.size : Int) then (numnahlaw09_ParseInverse.l2 k x3 x4 x7 (⟨#[]⟩ : ByteArray) x5 0) else (some false))
def numnahlaw09_ParseInverse.l1 : Nat → ByteArray → ByteArray → Int → List Int → Int → Int → Option (Bool)
  | 0, _, _, _, _, _, _ => none
  | k + 1, x3, x4, x5, x7, x8, x9 => if x9 < (x4.size : Int) then (if 0 ≤ x9 then (if (bt x4 x9) = x8 then (if x7.length < 17592186044416 then (numnahlaw09_ParseInverse.l1 k x3 x4 x5 (x7 ++ [x9]) x8 (wrap64 (x9 + 1))) else (none)) else (numnahlaw09_ParseInverse.l1 k x3 x4 x5 x7 x8 (wrap64 (x9 + 1)))) else (none)) else (numnahlaw09_ParseInverse.l0 k x3 x4 x5 x7 ((x8 + 1) % 256))
def numnahlaw09_ParseInverse.l2 : Nat → ByteArray → ByteArray → List Int → ByteArray → Int → Int → Option (Bool)
  | 0, _, _, _, _, _, _ => none
  | k + 1, x3, x4, x7, x10, x11, x12 => if x12 < (x3.size : Int) then (if 0 ≤ x11 then (if x11 < (x7.length : Int) then (if 0 ≤ (rd x7 x11) then (if (rd x7 x11) ≤ (wrap64 ((rd x7 x11) + 1)) then (if (wrap64 ((rd x7 x11) + 1)) ≤ (x4.size : Int) then (if x10.size + (x4.extract ((rd x7 x11) : Int).toNat ((wrap64 ((rd x7 x11) + 1)) : Int).toNat).size ≤ 9223372036854775807 then (numnahlaw09_ParseInverse.l2 k x3 x4 x7 (x10 ++ (x4.extract ((rd x7 x11) : Int).toNat ((wrap64 ((rd x7 x11) + 1)) : Int).toNat)) (rd x7 x11) (wrap64 (x12 + 1))) else (none)) else (none)) else (none)) else (none)) else (none)) else (none)) else (if x10.toList = x3.toList then ((numnahlaw09_awake.f k).bind fun t342 => (some t342)) else (some false))
end
def numnahlaw09_ParseInverse.f (k : Nat) (a0 : ByteArray) : Option (Bool) := (numnahlaw09_tame.f k a0 160).bind fun t334 => ((parse_Turns.f k t334).bind fun bt335 => (if bt335.2.2 = 0 then (if (bt335.1.size : Int) = (t334.size : Int) then (if bt335.2.1 < 0 then (numnahlaw09_ParseInverse.j0 k t334 bt335.1 bt335.2.1 true) else (numnahlaw09_ParseInverse.j0 k t334 bt335.1 bt335.2.1 (decide (bt335.2.1 > (mx (wrap64 ((t334.size : Int) - 1)) 0))))) else (numnahlaw09_ParseInverse.j0 k t334 bt335.1 bt335.2.1 true)) else (numnahlaw09_ParseInverse.j0 k t334 bt335.1 bt335.2.1 true)))
theorem numnahlaw09_ParseInverse.mono_l : ∀ k, (∀ y0 y1 y2 y3, LeO (numnahlaw09_ParseInverse.j0 k y0 y1 y2 y3) (numnahlaw09_ParseInverse.j0 (k + 1) y0 y1 y2 y3)) ∧ (∀ y0 y1 y2 y3 y4, LeO (numnahlaw09_ParseInverse.l0 k y0 y1 y2 y3 y4) (numnahlaw09_ParseInverse.l0 (k + 1) y0 y1 y2 y3 y4)) ∧ (∀ y0 y1 y2 y3 y4 y5, LeO (numnahlaw09_ParseInverse.l1 k y0 y1 y2 y3 y4 y5) (numnahlaw09_ParseInverse.l1 (k + 1) y0 y1 y2 y3 y4 y5)) ∧ (∀ y0 y1 y2 y3 y4 y5, LeO (numnahlaw09_ParseInverse.l2 k y0 y1 y2 y3 y4 y5) (numnahlaw09_ParseInverse.l2 (k + 1) y0 y1 y2 y3 y4 y5))
  | 0 => ⟨fun _ _ _ _ r h => by simp [numnahlaw09_ParseInverse.j0] at h, fun _ _ _ _ _ r h => by simp [numnahlaw09_ParseInverse.l0] at h, fun _ _ _ _ _ _ r h => by simp [numnahlaw09_ParseInverse.l1] at h, fun _ _ _ _ _ _ r h => by simp [numnahlaw09_ParseInverse.l2] at h⟩
  | k + 1 => by
    obtain ⟨ih0, ih1, ih2, ih3⟩ := numnahlaw09_ParseInverse.mono_l k
    refine ⟨?_, ?_, ?_, ?_⟩
    · intro y0 y1 y2 y3
      unfold numnahlaw09_ParseInverse.j0
      repeat' first
      | (with_reducible exact ih0 _ _ _ _)
      | (with_reducible exact ih1 _ _ _ _ _)
      | (with_reducible exact ih2 _ _ _ _ _ _)
      | (with_reducible exact ih3 _ _ _ _ _ _)
      | (with_reducible exact numnahlaw09_awake.mono _)
      | (with_reducible exact numnahlaw09_tame.mono _ _ _)
      | (with_reducible exact parse_Turns.mono _ _)
      | (with_reducible exact LeO.refl _)
      | (with_reducible exact LeO.none _)
      | (with_reducible refine LeO.ite ?_ ?_)
      | (with_reducible refine LeO.bind ?_ (fun _ => ?_))
      | exact ih0 _ _ _ _
      | exact ih1 _ _ _ _ _
      | exact ih2 _ _ _ _ _ _
      | exact ih3 _ _ _ _ _ _
      | exact numnahlaw09_awake.mono _
      | exact numnahlaw09_tame.mono _ _ _
      | exact parse_Turns.mono _ _
      | exact LeO.none _
      | refine LeO.ite ?_ ?_
      | refine LeO.bind ?_ (fun _ => ?_)
    · intro y0 y1 y2 y3 y4
      unfold numnahlaw09_ParseInverse.l0
      repeat' first
      | (with_reducible exact ih0 _ _ _ _)
      | (with_reducible exact ih1 _ _ _ _ _)
      | (with_reducible exact ih2 _ _ _ _ _ _)
      | (with_reducible exact ih3 _ _ _ _ _ _)
      | (with_reducible exact numnahlaw09_awake.mono _)
      | (with_reducible exact numnahlaw09_tame.mono _ _ _)
      | (with_reducible exact parse_Turns.mono _ _)
      | (with_reducible exact LeO.refl _)
      | (with_reducible exact LeO.none _)
      | (with_reducible refine LeO.ite ?_ ?_)
      | (with_reducible refine LeO.bind ?_ (fun _ => ?_))
      | exact ih0 _ _ _ _
      | exact ih1 _ _ _ _ _
      | exact ih2 _ _ _ _ _ _
      | exact ih3 _ _ _ _ _ _
      | exact numnahlaw09_awake.mono _
      | exact numnahlaw09_tame.mono _ _ _
      | exact parse_Turns.mono _ _
      | exact LeO.none _
      | refine LeO.ite ?_ ?_
      | refine LeO.bind ?_ (fun _ => ?_)
    · intro y0 y1 y2 y3 y4 y5
      unfold numnahlaw09_ParseInverse.l1
      repeat' first
      | (with_reducible exact ih0 _ _ _ _)
      | (with_reducible exact ih1 _ _ _ _ _)
      | (with_reducible exact ih2 _ _ _ _ _ _)
      | (with_reducible exact ih3 _ _ _ _ _ _)
      | (with_reducible exact numnahlaw09_awake.mono _)
      | (with_reducible exact numnahlaw09_tame.mono _ _ _)
      | (with_reducible exact parse_Turns.mono _ _)
      | (with_reducible exact LeO.refl _)
      | (with_reducible exact LeO.none _)
      | (with_reducible refine LeO.ite ?_ ?_)
      | (with_reducible refine LeO.bind ?_ (fun _ => ?_))
      | exact ih0 _ _ _ _
      | exact ih1 _ _ _ _ _
      | exact ih2 _ _ _ _ _ _
      | exact ih3 _ _ _ _ _ _
      | exact numnahlaw09_awake.mono _
      | exact numnahlaw09_tame.mono _ _ _
      | exact parse_Turns.mono _ _
      | exact LeO.none _
      | refine LeO.ite ?_ ?_
      | refine LeO.bind ?_ (fun _ => ?_)
    · intro y0 y1 y2 y3 y4 y5
      unfold numnahlaw09_ParseInverse.l2
      repeat' first
      | (with_reducible exact ih0 _ _ _ _)
      | (with_reducible exact ih1 _ _ _ _ _)
      | (with_reducible exact ih2 _ _ _ _ _ _)
      | (with_reducible exact ih3 _ _ _ _ _ _)
      | (with_reducible exact numnahlaw09_awake.mono _)
      | (with_reducible exact numnahlaw09_tame.mono _ _ _)
      | (with_reducible exact parse_Turns.mono _ _)
      | (with_reducible exact LeO.refl _)
      | (with_reducible exact LeO.none _)
      | (with_reducible refine LeO.ite ?_ ?_)
      | (with_reducible refine LeO.bind ?_ (fun _ => ?_))
      | exact ih0 _ _ _ _
      | exact ih1 _ _ _ _ _
      | exact ih2 _ _ _ _ _ _
      | exact ih3 _ _ _ _ _ _
      | exact numnahlaw09_awake.mono _
      | exact numnahlaw09_tame.mono _ _ _
      | exact parse_Turns.mono _ _
      | exact LeO.none _
      | refine LeO.ite ?_ ?_
      | refine LeO.bind ?_ (fun _ => ?_)
theorem numnahlaw09_ParseInverse.mono : ∀ a0 k, LeO (numnahlaw09_ParseInverse.f k a0) (numnahlaw09_ParseInverse.f (k + 1) a0) := by
  intro a0 k
  obtain ⟨ih0, ih1, ih2, ih3⟩ := numnahlaw09_ParseInverse.mono_l k
  unfold numnahlaw09_ParseInverse.f
  repeat' first
      | (with_reducible exact ih0 _ _ _ _)
      | (with_reducible exact ih1 _ _ _ _ _)
      | (with_reducible exact ih2 _ _ _ _ _ _)
      | (with_reducible exact ih3 _ _ _ _ _ _)
      | (with_reducible exact numnahlaw09_awake.mono _)
      | (with_reducible exact numnahlaw09_tame.mono _ _ _)
      | (with_reducible exact parse_Turns.mono _ _)
      | (with_reducible exact LeO.refl _)
      | (with_reducible exact LeO.none _)
      | (with_reducible refine LeO.ite ?_ ?_)
      | (with_reducible refine LeO.bind ?_ (fun _ => ?_))
      | exact ih0 _ _ _ _
      | exact ih1 _ _ _ _ _
      | exact ih2 _ _ _ _ _ _
      | exact ih3 _ _ _ _ _ _
      | exact numnahlaw09_awake.mono _
      | exact numnahlaw09_tame.mono _ _ _
      | exact parse_Turns.mono _ _
      | exact LeO.none _
      | refine LeO.ite ?_ ?_
      | refine LeO.bind ?_ (fun _ => ?_)
set_option maxHeartbeats 8000000 in
set_option maxRecDepth 100000 in
theorem numnahlaw09_ParseInverse.calls (k : Nat) (a0 : ByteArray) (r : Bool) (w : World) (hG : GW w) (h : numnahlaw09_ParseInverse.f k a0 = some r) :
    Calls Tryd.prog 5 #[.string a0] w fun e w' => e = .returned (.bool r) ∧ Below w.heap.size w w' := by
  have HB := Aside0.mk (Below.refl w.heap.size w)
  have H : ((numnahlaw09_tame.f k a0 160).bind fun t334 => ((parse_Turns.f k t334).bind fun bt335 => (if bt335.2.2 = 0 then (if (bt335.1.size : Int) = (t334.size : Int) then (if bt335.2.1 < 0 then (numnahlaw09_ParseInverse.j0 k t334 bt335.1 bt335.2.1 true) else (numnahlaw09_ParseInverse.j0 k t334 bt335.1 bt335.2.1 (decide (bt335.2.1 > (mx (wrap64 ((t334.size : Int) - 1)) 0))))) else (numnahlaw09_ParseInverse.j0 k t334 bt335.1 bt335.2.1 true)) else (numnahlaw09_ParseInverse.j0 k t334 bt335.1 bt335.2.1 true)))) = some r := h
  clear h
  replace H := Option.bind_eq_some_iff.mp H
  obtain ⟨t334, A20, H⟩ := H
  replace H : ((parse_Turns.f k t334).bind fun bt335 => (if bt335.2.2 = 0 then (if (bt335.1.size : Int) = (t334.size : Int) then (if bt335.2.1 < 0 then (numnahlaw09_ParseInverse.j0 k t334 bt335.1 bt335.2.1 true) else (numnahlaw09_ParseInverse.j0 k t334 bt335.1 bt335.2.1 (decide (bt335.2.1 > (mx (wrap64 ((t334.size : Int) - 1)) 0))))) else (numnahlaw09_ParseInverse.j0 k t334 bt335.1 bt335.2.1 true)) else (numnahlaw09_ParseInverse.j0 k t334 bt335.1 bt335.2.1 true))) = some r := H
  have A2 := Aside0.mk A20
  clear A20
  replace H := Option.bind_eq_some_iff.mp H
  obtain ⟨⟨t335, t336, t337⟩, A30, H⟩ := H
  replace H : (if t337 = 0 then (if (t335.size : Int) = (t334.size : Int) then (if t336 < 0 then (numnahlaw09_ParseInverse.j0 k t334 t335 t336 true) else (numnahlaw09_ParseInverse.j0 k t334 t335 t336 (decide (t336 > (mx (wrap64 ((t334.size : Int) - 1)) 0))))) else (numnahlaw09_ParseInverse.j0 k t334 t335 t336 true)) else (numnahlaw09_ParseInverse.j0 k t334 t335 t336 true)) = some r := H
  have A3 := Aside0.mk A30
  clear A30
  have HC4 := Aside0.mk H
  clear H
  go_enter Tryd.func5, Tryd.ntmps5
  go_upto_region 3 with (first | ((with_reducible refine gate_callee (f := 29) rfl ?_); refine goesL_ (some 14) rfl rfl Tryd.func29 (by kernel_rfl) rfl #[.string a0, .int .i64 160] rfl (by (try simp only [List.map_toArray, List.map_cons, List.map_nil]); first | done | rfl | (simp only [List.length_drop, List.length_take]; rfl)) ?_; (with_reducible refine (numnahlaw09_tame.calls k a0 160 t334 _ A2.out).mono ?_); rintro e w5 ⟨rfl, hb⟩; refine ⟨_, rfl, ?_⟩; have n0_ := Aside0.mk (below_step (by repeat (first | (with_reducible first | exact HB.out | apply below_alloc | apply pw_below_drewN | apply below_drew1) | exact HB.out)) hb); clear HB; have HB := n0_; clear n0_; (try clear hb); (try clear hb2); (try clear hk); (try clear hi)) | ((with_reducible refine gate_callee (f := 30) rfl ?_); refine goesL_ (some 17) rfl rfl Tryd.func30 (by kernel_rfl) rfl #[.string t334] rfl (by (try simp only [List.map_toArray, List.map_cons, List.map_nil]); first | done | rfl | (simp only [List.length_drop, List.length_take]; rfl)) ?_; (with_reducible refine (parse_Turns.calls k t334 t335 t336 t337 _ A3.out).mono ?_); rintro e w6 ⟨rfl, hb⟩; refine ⟨_, rfl, ?_⟩; have n0_ := Aside0.mk (below_step (by repeat (first | (with_reducible first | exact HB.out | apply below_alloc | apply pw_below_drewN | apply below_drew1) | exact HB.out)) hb); clear HB; have HB := n0_; clear n0_; (try clear hb); (try clear hb2); (try clear hk); (try clear hi)))
  (try simp only [Act.put, List.setIfInBounds_toArray, List.set_cons_zero, List.set_cons_succ])
  go_cut [41] (fun v41 wc => ∃ (kq : Nat) (x41_3 : Bool), v41 = .bool x41_3 ∧ Aside0 (numnahlaw09_ParseInverse.j0 kq t334 t335 t336 x41_3 = some r) ∧ Aside0 (kq ≤ k) ∧ Aside0 (Below w.heap.size w wc))
  case first =>
    have H := HC4.out
    clear HC4
    by_cases c7 : t337 = 0
    · rw [if_pos c7] at H
      have c7b0 : (t337 == 0) = true := beq_iff_eq.mpr c7
      have c7b1 : (t337 != 0) = false := bne_eq_false_iff_eq.mpr c7
      clear c7
      (first | rw [c7b0] | (simp only [i64_w, i32_w]; rw [c7b0]) | skip)
      by_cases c8 : (t335.size : Int) = (t334.size : Int)
      · rw [if_pos c8] at H
        have c8b0 : ((t335.size : Int) == (t334.size : Int)) = true := beq_iff_eq.mpr c8
        have c8b1 : ((t335.size : Int) != (t334.size : Int)) = false := bne_eq_false_iff_eq.mpr c8
        have c8b2 : (t335.size == t334.size) = true := by first | simpa using c8 | (simp at c8 ⊢; omega)
        clear c8
        by_cases c9 : t336 < 0
        · rw [if_pos c9] at H
          have c9b0 : decide (t336 < 0) = true := decide_eq_true c9
          clear c9
          have H' := Aside0.mk H
          clear H
          go_wp2
          go_meet
          case rel => exact ⟨_, (true), (by first | rfl | (simp; done) | (simp [*]; done)), H', ⟨by first | omega | exact Nat.le_refl _⟩, ⟨by repeat (first | (with_reducible first | exact HB.out | apply below_alloc | apply pw_below_drewN | apply below_drew1) | exact HB.out)⟩⟩
        · rw [if_neg c9] at H
          have c9b0 : decide (t336 < 0) = false := decide_eq_false c9
          clear c9
          obtain ⟨ji10, hji10⟩ : ∃ j_ : Int, (mx (wrap64 ((t334.size : Int) - 1)) 0) = j_ := ⟨_, rfl⟩
          replace H : (numnahlaw09_ParseInverse.j0 k t334 t335 t336 (decide (t336 > (ji10)))) = some r := by first | (rw [hji10] at H; exact H) | (simp only [hji10] at H ⊢; exact H)
          (try (have hji10l : 0 ≤ ji10 := by (rw [← hji10]; unfold mx; (repeat' split) <;> omega)))
          (try (have hji10m : 0 ≤ ji10 := by omega))
          have hji10_ : (if (wrap64 ((t334.size : Int) - 1)) < 0 then 0 else (wrap64 ((t334.size : Int) - 1))) = ji10 := hji10
          have H' := Aside0.mk H
          clear H
          go_wp2
          go_meet
          case rel => exact ⟨_, (decide (t336 > (ji10))), (by first | rfl | (simp; done) | (simp only [← hji10] <;> (first | rfl | simp)) | (simp [*]; done)), H', ⟨by first | omega | exact Nat.le_refl _⟩, ⟨by repeat (first | (with_reducible first | exact HB.out | apply below_alloc | apply pw_below_drewN | apply below_drew1) | exact HB.out)⟩⟩
      · rw [if_neg c8] at H
        have c8b0 : ((t335.size : Int) == (t334.size : Int)) = false := beq_eq_false_iff_ne.mpr c8
        have c8b1 : ((t335.size : Int) != (t334.size : Int)) = true := bne_iff_ne.mpr c8
        have c8b2 : (t335.size == t334.size) = false := by first | simpa using c8 | (simp at c8 ⊢; omega)
        have H' := Aside0.mk H
        clear H
        go_wp2
        go_meet
        case rel => exact ⟨_, (true), (by first | rfl | (simp; done) | (simp [*]; done)), H', ⟨by first | omega | exact Nat.le_refl _⟩, ⟨by repeat (first | (with_reducible first | exact HB.out | apply below_alloc | apply pw_below_drewN | apply below_drew1) | exact HB.out)⟩⟩
    · rw [if_neg c7] at H
      have c7b0 : (t337 == 0) = false := beq_eq_false_iff_ne.mpr c7
      have c7b1 : (t337 != 0) = true := bne_iff_ne.mpr c7
      (first | rw [c7b0] | (simp only [i64_w, i32_w]; rw [c7b0]) | skip)
      have H' := Aside0.mk H
      clear H
      go_wp2
      go_meet
      case rel => exact ⟨_, (true), (by first | rfl | (simp; done) | (simp [*]; done)), H', ⟨by first | omega | exact Nat.le_refl _⟩, ⟨by repeat (first | (with_reducible first | exact HB.out | apply below_alloc | apply pw_below_drewN | apply below_drew1) | exact HB.out)⟩⟩
  case rest =>
    clear HC4
    try clear c2
    try clear p2
    try clear c3
    try clear c5
    try clear p6
    try clear c7
    try clear c7b0
    try clear c7b1
    try clear c8
    try clear c8b0
    try clear c8b1
    try clear c8b2
    try clear c9
    try clear c9b0
    obtain ⟨kq, x41_3, rfl, HA, HJ3, HB⟩ := hcut
    cases kq with
    | zero => exact absurd HA.out (by simp [numnahlaw09_ParseInverse.j0])
    | succ kj3 =>
      have H := HA.out
      clear HA
      simp only [numnahlaw09_ParseInverse.j0] at H
      by_cases c11 : x41_3 = true
      · subst c11
        have H1 : (some false) = some r := by rw [if_pos rfl] at H; exact H
        clear H
        have H := H1
        clear H1
        obtain rfl := Option.some.inj H
        go_wp2
        go_ret
        exact ⟨by first | rfl | (simp [errW_none, errW_some] <;> rfl) | (simp [*, errW_none, errW_some] <;> rfl), by repeat (first | (with_reducible first | exact HB.out | apply below_alloc | apply pw_below_drewN | apply below_drew1) | exact HB.out)⟩
      · replace c11 := Bool.eq_false_iff.mpr c11
        subst c11
        have H1 : (numnahlaw09_ParseInverse.l0 kj3 t334 t335 t336 ([] : List Int) 97) = some r := by rw [if_neg (show ¬ (false = true) by decide)] at H; exact H
        clear H
        have H := H1
        clear H1
        have H' := Aside0.mk H
        clear H
        go_wp2
        go_loopg [7, 8] kj3 (fun kq v7 v8 w' => ∃ (x7_2 : List Int) (x8_2 : Int), v8 = .int .u8 x8_2 ∧ Aside0 (numnahlaw09_ParseInverse.l0 kq t334 t335 t336 x7_2 x8_2 = some r) ∧ Aside0 (kq ≤ kj3) ∧ Aside0 (Kd.R (Kd.int .i64) 3 w' w.heap.size (fun _ => True) v7 x7_2) ∧ Aside0 (Below w.heap.size w w'))
        case atStart => exact ⟨(([] : List Int)), (97), (by first | rfl | (simp; done) | (simp [*]; done)), H', ⟨Nat.le_refl _⟩, ⟨by first | exact Kd.R_nil _ _ _ _ _ | exact Kd.N_nil _ _ _ _ _ | exact Kd.V_nil _ _ _ _ _ | exact Kd.Q_nil _ _ _ _ _ | exact Kd.S_nil _ _ _ _ _⟩, ⟨by repeat (first | (with_reducible first | exact HB.out | apply below_alloc | apply pw_below_drewN | apply below_drew1) | exact HB.out)⟩⟩
        case round =>
          clear H'
          try clear c1
          try clear c2
          try clear p2
          try clear c3
          try clear c5
          try clear p6
          try clear c7
          try clear c7b0
          try clear c7b1
          try clear c8
          try clear c8b0
          try clear c8b1
          try clear c8b2
          try clear c9
          try clear c9b0
          try clear c11
          try clear p2
          try clear p6
          obtain ⟨x7_2, x8_2, rfl, HA, HK2, HO_7, HB⟩ := hrel
          cases gk with
          | zero => exact absurd HA.out (by simp [numnahlaw09_ParseInverse.l0])
          | succ k2 =>
            have H := HA.out
            clear HA
            simp only [numnahlaw09_ParseInverse.l0] at H
            by_cases c12 : x8_2 ≤ 100
            · rw [if_pos c12] at H
              have c12b0 : decide (x8_2 ≤ 100) = true := decide_eq_true c12
              clear c12
              have H' := Aside0.mk H
              clear H
              go_wp2
              go_loopg [7, 9] k2 (fun kq v7 v9 w' => ∃ (x7_3 : List Int) (x9_3 : Int), v9 = .int .i64 x9_3 ∧ Aside0 (numnahlaw09_ParseInverse.l1 kq t334 t335 t336 x7_3 x8_2 x9_3 = some r) ∧ Aside0 (kq ≤ k2) ∧ Aside0 (Kd.R (Kd.int .i64) 3 w' w.heap.size (fun _ => True) v7 x7_3) ∧ Aside0 (Below w.heap.size w w'))
              case atStart => exact ⟨(x7_2), (0), (by first | rfl | (simp; done) | (simp [*]; done)), H', ⟨Nat.le_refl _⟩, ⟨by (with_reducible repeat (first | apply Kd.R_alloc | apply Kd.R_drewN | apply Kd.R_drew)); exact HO_7.out⟩, ⟨by repeat (first | (with_reducible first | exact HB.out | apply below_alloc | apply pw_below_drewN | apply below_drew1) | exact HB.out)⟩⟩
              case round =>
                clear H'
                try clear c1
                try clear c2
                try clear p2
                try clear c3
                try clear c5
                try clear p6
                try clear c7
                try clear c7b0
                try clear c7b1
                try clear c8
                try clear c8b0
                try clear c8b1
                try clear c8b2
                try clear c9
                try clear c9b0
                try clear c11
                try clear c12
                try clear c12b0
                try clear p2
                try clear p6
                obtain ⟨x7_3, x9_3, rfl, HA, HK3, HO_7, HB⟩ := hrel
                cases gk with
                | zero => exact absurd HA.out (by simp [numnahlaw09_ParseInverse.l1])
                | succ k3 =>
                  have H := HA.out
                  clear HA
                  simp only [numnahlaw09_ParseInverse.l1] at H
                  by_cases c13 : x9_3 < (t335.size : Int)
                  · rw [if_pos c13] at H
                    have c13b0 : decide (x9_3 < (t335.size : Int)) = true := decide_eq_true c13
                    clear c13
                    by_cases c14 : 0 ≤ x9_3
                    · rw [if_pos c14] at H
                      have c14b0 : decide (0 ≤ x9_3) = true := decide_eq_true c14
                      clear c14
                      by_cases c16 : (bt t335 x9_3) = x8_2
                      · rw [if_pos c16] at H
                        have c16b0 : ((bt t335 x9_3) == x8_2) = true := beq_iff_eq.mpr c16
                        have c16b1 : ((bt t335 x9_3) != x8_2) = false := bne_eq_false_iff_eq.mpr c16
                        clear c16
                        by_cases c17 : x7_3.length < 17592186044416
                        · rw [if_pos c17] at H
                          have LMc17 := Aside0.mk c17
                          clear c17
                          obtain ⟨y338, hy338⟩ : ∃ y_ : List Int, y_ = (x7_3 ++ [x9_3]) := ⟨_, rfl⟩
                          replace H : (numnahlaw09_ParseInverse.l1 k3 t334 t335 t336 y338 x8_2 (wrap64 (x9_3 + 1))) = some r := by first | (rw [hy338]; with_reducible exact H) | (have H2_ := (Option.bind_some _ _).symm.trans H; rw [hy338]; with_reducible exact H2_) | (have H2_ := (Option.bind_some _ _).symm.trans H; with_reducible exact H2_) | with_reducible exact H | (rw [hy338]; exact H) | exact H
                          have Ny338 := Aside0.mk hy338
                          clear hy338
                          have H' := Aside0.mk H
                          clear H
                          have p15 : 0 ≤ (x9_3 : Int) := of_decide_eq_true (by first | (with_reducible assumption) | assumption)
                          have q15 : x9_3 < (t335.size : Int) := of_decide_eq_true (by first | (with_reducible assumption) | assumption)
                          have hx15 := bt_at t335 x9_3
                          replace p15 := eq_true p15
                          replace q15 := eq_true q15
                          go_wp2_with (first | ((with_reducible refine gate_builtin (b := .append) (xs := #[.tmp 57, .tmp 59]) rfl ?_); (try (refine gate_guard (by rfl) ?_; dsimp only)); at_builtin; refine Kd.R_append (Kd.int .i64) (w0 := w) w.heap.size rfl (.tmp 57) (.tmp 59) 34 3 (.int .i64 0) 8 rfl Tryd.underlying34 info3 rfl (by decide) (by omega) u7 x7_3 x9_3 [.int .i64 x9_3] (fun _ => True) (fun _ => False) rfl rfl ?aP (fun _ hk => hk.elim) ?aF ?aO ?aB ?aS ?aL ?_; (case aP => exact rfl); (case aB => exact (by repeat (first | (with_reducible first | exact HB.out | apply below_alloc | apply pw_below_drewN | apply below_drew1) | exact HB.out))); (case aF => exact (fun _ _ => trivial)); (case aO => exact (by (with_reducible repeat (first | apply Kd.R_alloc | apply Kd.R_drewN | apply Kd.R_drew)); exact HO_7.out)); (case aS => exact (below_size (by repeat (first | (with_reducible first | exact HB.out | apply below_alloc | apply pw_below_drewN | apply below_drew1) | exact HB.out)))); (case aL => have := LMc17.out; omega); intro v339 w18 ho hb hg hat; rw [← Ny338.out] at ho; have n0_ := Aside0.mk (hb); have n1_ := Aside0.mk (ho); clear HB; clear HO_7; have HB := n0_; have HO340 := n1_; clear n0_ n1_; clear ho hb hg hat))
                          go_roundg k3
                          case measure => have := HJ3.out; have := HK2.out; have := HK3.out; omega
                          case rel => exact ⟨(y338), (wrap64 (x9_3 + 1)), (by first | rfl | (simp; done) | (simp [*]; done)), H', ⟨by have := HJ3.out; have := HK2.out; have := HK3.out; omega⟩, ⟨by (with_reducible repeat (first | apply Kd.R_alloc | apply Kd.R_drewN | apply Kd.R_drew)); exact HO340.out⟩, ⟨by repeat (first | (with_reducible first | exact HB.out | apply below_alloc | apply pw_below_drewN | apply below_drew1) | exact HB.out)⟩⟩
                        · rw [if_neg c17] at H
                          exact absurd H (by simp)
                      · rw [if_neg c16] at H
                        have c16b0 : ((bt t335 x9_3) == x8_2) = false := beq_eq_false_iff_ne.mpr c16
                        have c16b1 : ((bt t335 x9_3) != x8_2) = true := bne_iff_ne.mpr c16
                        have H' := Aside0.mk H
                        clear H
                        have p15 : 0 ≤ (x9_3 : Int) := of_decide_eq_true (by first | (with_reducible assumption) | assumption)
                        have q15 : x9_3 < (t335.size : Int) := of_decide_eq_true (by first | (with_reducible assumption) | assumption)
                        have hx15 := bt_at t335 x9_3
                        replace p15 := eq_true p15
                        replace q15 := eq_true q15
                        go_wp2
                        go_roundg k3
                        case measure => have := HJ3.out; have := HK2.out; have := HK3.out; omega
                        case rel => exact ⟨(x7_3), (wrap64 (x9_3 + 1)), (by first | rfl | (simp; done) | (simp [*]; done)), H', ⟨by have := HJ3.out; have := HK2.out; have := HK3.out; omega⟩, ⟨by (with_reducible repeat (first | apply Kd.R_alloc | apply Kd.R_drewN | apply Kd.R_drew)); exact HO_7.out⟩, ⟨by repeat (first | (with_reducible first | exact HB.out | apply below_alloc | apply pw_below_drewN | apply below_drew1) | exact HB.out)⟩⟩
                    · rw [if_neg c14] at H
                      exact absurd H (by simp)
                  · rw [if_neg c13] at H
                    have c13b0 : decide (x9_3 < (t335.size : Int)) = false := decide_eq_false c13
                    clear c13
                    have H' := Aside0.mk H
                    clear H
                    go_wp2
                    go_roundg k3
                    case measure => have := HJ3.out; have := HK2.out; have := HK3.out; omega
                    case rel => exact ⟨(x7_3), ((x8_2 + 1) % 256), (by first | rfl | (simp; done) | (simp [*]; done)), H', ⟨by have := HJ3.out; have := HK2.out; have := HK3.out; omega⟩, ⟨by (with_reducible repeat (first | apply Kd.R_alloc | apply Kd.R_drewN | apply Kd.R_drew)); exact HO_7.out⟩, ⟨by repeat (first | (with_reducible first | exact HB.out | apply below_alloc | apply pw_below_drewN | apply below_drew1) | exact HB.out)⟩⟩
            · rw [if_neg c12] at H
              have c12b0 : decide (x8_2 ≤ 100) = false := decide_eq_false c12
              clear c12
              by_cases c19 : (x7_2.length : Int) = (t334.size : Int)
              · rw [if_pos c19] at H
                have c19b0 : ((x7_2.length : Int) == (t334.size : Int)) = true := beq_iff_eq.mpr c19
                have c19b1 : ((x7_2.length : Int) != (t334.size : Int)) = false := bne_eq_false_iff_eq.mpr c19
                have c19b2 : (x7_2.length == t334.size) = true := by first | simpa using c19 | (simp at c19 ⊢; omega)
                clear c19
                have H' := Aside0.mk H
                clear H
                obtain ⟨Ao20, co20, eo20⟩ := Kd.R_slice HO_7.out
                subst eo20
                go_wp2
                go_loopg [10, 11, 12] k2 (fun kq v10 v11 v12 w' => ∃ (x10_3 : ByteArray) (x11_3 : Int) (x12_3 : Int), v10 = .string x10_3 ∧ v11 = .int .i64 x11_3 ∧ v12 = .int .i64 x12_3 ∧ Aside0 (numnahlaw09_ParseInverse.l2 kq t334 t335 x7_2 x10_3 x11_3 x12_3 = some r) ∧ Aside0 (kq ≤ k2) ∧ Aside0 (Kd.R (Kd.int .i64) 3 w' w.heap.size (fun _ => True) (.slice Ao20 x7_2.length co20) x7_2) ∧ Aside0 (Below w.heap.size w w'))
                case atStart => exact ⟨((⟨#[]⟩ : ByteArray)), (t336), (0), (by first | rfl | (simp; done) | (simp [*]; done)), (by first | rfl | (simp; done) | (simp [*]; done)), (by first | rfl | (simp; done) | (simp [*]; done)), H', ⟨Nat.le_refl _⟩, ⟨by (with_reducible repeat (first | apply Kd.R_alloc | apply Kd.R_drewN | apply Kd.R_drew)); exact HO_7.out⟩, ⟨by repeat (first | (with_reducible first | exact HB.out | apply below_alloc | apply pw_below_drewN | apply below_drew1) | exact HB.out)⟩⟩
                case round =>
                  clear H'
                  try clear c1
                  try clear p1
                  try clear q1
                  try clear hx1
                  try clear c2
                  try clear p2
                  try clear c3
                  try clear c5
                  try clear p6
                  try clear c7
                  try clear c7b0
                  try clear c7b1
                  try clear c8
                  try clear c8b0
                  try clear c8b1
                  try clear c8b2
                  try clear c9
                  try clear c9b0
                  try clear c11
                  try clear c12
                  try clear c12b0
                  try clear c13
                  try clear c13b0
                  try clear c14
                  try clear c14b0
                  try clear p15
                  try clear q15
                  try clear hx15
                  try clear c16
                  try clear c16b0
                  try clear c16b1
                  try clear c17
                  try clear c19
                  try clear c19b0
                  try clear c19b1
                  try clear c19b2
                  try clear p15
                  try clear p2
                  try clear p6
                  try clear q15
                  obtain ⟨x10_3, x11_3, x12_3, rfl, rfl, rfl, HA, HK3, HO_7, HB⟩ := hrel
                  cases gk with
                  | zero => exact absurd HA.out (by simp [numnahlaw09_ParseInverse.l2])
                  | succ k3 =>
                    have H := HA.out
                    clear HA
                    simp only [numnahlaw09_ParseInverse.l2] at H
                    by_cases c21 : x12_3 < (t334.size : Int)
                    · rw [if_pos c21] at H
                      have c21b0 : decide (x12_3 < (t334.size : Int)) = true := decide_eq_true c21
                      clear c21
                      by_cases c22 : 0 ≤ x11_3
                      · rw [if_pos c22] at H
                        have c22b0 : decide (0 ≤ x11_3) = true := decide_eq_true c22
                        clear c22
                        by_cases c23 : x11_3 < (x7_2.length : Int)
                        · rw [if_pos c23] at H
                          have c23b0 : decide (x11_3 < (x7_2.length : Int)) = true := decide_eq_true c23
                          clear c23
                          by_cases c24 : 0 ≤ (rd x7_2 x11_3)
                          · rw [if_pos c24] at H
                            have c24b0 := eq_true c24
                            have c24b1 : decide (0 ≤ (rd x7_2 x11_3)) = true := decide_eq_true c24
                            clear c24
                            by_cases c25 : (rd x7_2 x11_3) ≤ (wrap64 ((rd x7_2 x11_3) + 1))
                            · rw [if_pos c25] at H
                              have c25b0 := eq_true c25
                              have c25b1 : decide ((rd x7_2 x11_3) ≤ (wrap64 ((rd x7_2 x11_3) + 1))) = true := decide_eq_true c25
                              by_cases c26 : (wrap64 ((rd x7_2 x11_3) + 1)) ≤ (t335.size : Int)
                              · rw [if_pos c26] at H
                                have c26b0 := eq_true c26
                                have c26b1 : decide ((wrap64 ((rd x7_2 x11_3) + 1)) ≤ (t335.size : Int)) = true := decide_eq_true c26
                                by_cases c27 : x10_3.size + (t335.extract ((rd x7_2 x11_3) : Int).toNat ((wrap64 ((rd x7_2 x11_3) + 1)) : Int).toNat).size ≤ 9223372036854775807
                                · rw [if_pos c27] at H
                                  have c27b0 := eq_true c27
                                  have c27b1 : decide (x10_3.size + (t335.extract ((rd x7_2 x11_3) : Int).toNat ((wrap64 ((rd x7_2 x11_3) + 1)) : Int).toNat).size ≤ 9223372036854775807) = true := decide_eq_true c27
                                  try have c27b2 : (9223372036854775807 < x10_3.size + (t335.extract ((rd x7_2 x11_3) : Int).toNat ((wrap64 ((rd x7_2 x11_3) + 1)) : Int).toNat).size) = False := eq_false (Nat.not_lt.2 c27)
                                  have H' := Aside0.mk H
                                  clear H
                                  have p341 : 0 ≤ (x11_3 : Int) := of_decide_eq_true (by first | (with_reducible assumption) | assumption)
                                  have q341 : x11_3 < (x7_2.length : Int) := of_decide_eq_true (by first | (with_reducible assumption) | assumption)
                                  obtain ⟨ad341, e341, hx341_0⟩ := Kd.at_int (Kd.R_reads' HO_7.out).2.2 x11_3 p341 q341
                                  cases e341
                                  replace p341 := eq_true p341
                                  replace q341 := eq_true q341
                                  go_wp2
                                  go_roundg k3
                                  case measure => have := HJ3.out; have := HK2.out; have := HK3.out; omega
                                  case rel => exact ⟨(x10_3 ++ (t335.extract ((rd x7_2 x11_3) : Int).toNat ((wrap64 ((rd x7_2 x11_3) + 1)) : Int).toNat)), (rd x7_2 x11_3), (wrap64 (x12_3 + 1)), (by first | rfl | (simp; done) | (simp [*]; done)), (by first | rfl | (simp; done) | (simp [*]; done)), (by first | rfl | (simp; done) | (simp [*]; done)), H', ⟨by have := HJ3.out; have := HK2.out; have := HK3.out; omega⟩, ⟨by (with_reducible repeat (first | apply Kd.R_alloc | apply Kd.R_drewN | apply Kd.R_drew)); exact HO_7.out⟩, ⟨by repeat (first | (with_reducible first | exact HB.out | apply below_alloc | apply pw_below_drewN | apply below_drew1) | exact HB.out)⟩⟩
                                · rw [if_neg c27] at H
                                  exact absurd H (by simp)
                              · rw [if_neg c26] at H
                                exact absurd H (by simp)
                            · rw [if_neg c25] at H
                              exact absurd H (by simp)
                          · rw [if_neg c24] at H
                            exact absurd H (by simp)
                        · rw [if_neg c23] at H
                          exact absurd H (by simp)
                      · rw [if_neg c22] at H
                        exact absurd H (by simp)
                    · rw [if_neg c21] at H
                      have c21b0 : decide (x12_3 < (t334.size : Int)) = false := decide_eq_false c21
                      clear c21
                      by_cases c28 : x10_3.toList = t334.toList
                      · rw [if_pos c28] at H
                        have c28b0 : (x10_3.toList == t334.toList) = true := beq_iff_eq.mpr c28
                        have c28b1 : (x10_3.toList != t334.toList) = false := bne_eq_false_iff_eq.mpr c28
                        clear c28
                        replace H := Option.bind_eq_some_iff.mp H
                        obtain ⟨t342, A290, H⟩ := H
                        replace H : (some t342) = some r := H
                        have A29 := Aside0.mk A290
                        clear A290
                        obtain rfl := Option.some.inj H
                        go_wp2_with (first | (go_at_call 25; (with_reducible refine (numnahlaw09_awake.calls (hG := ?hg) k3  t342 _ A29.out).mono ?_); (case hg => exact gw_now hG (by repeat (first | (with_reducible first | exact HB.out | apply below_alloc | apply pw_below_drewN | apply below_drew1) | exact HB.out))); rintro e w30 ⟨rfl, hb⟩; have n0_ := Aside0.mk (Kd.R_below (by (with_reducible repeat (first | apply Kd.R_alloc | apply Kd.R_drewN | apply Kd.R_drew)); exact HO_7.out) hb); have n1_ := Aside0.mk (below_step (by repeat (first | (with_reducible first | exact HB.out | apply below_alloc | apply pw_below_drewN | apply below_drew1) | exact HB.out)) hb); clear HO_7; clear HB; have HO_7 := n0_; have HB := n1_; clear n0_ n1_; (try clear hb); (try clear hb2); (try clear hk); (try clear hi)))
                        go_ret
                        exact ⟨by first | rfl | (simp [errW_none, errW_some] <;> rfl) | (simp [*, errW_none, errW_some] <;> rfl), by repeat (first | (with_reducible first | exact HB.out | apply below_alloc | apply pw_below_drewN | apply below_drew1) | exact HB.out)⟩
                      · rw [if_neg c28] at H
                        have c28b0 : (x10_3.toList == t334.toList) = false := beq_eq_false_iff_ne.mpr c28
                        have c28b1 : (x10_3.toList != t334.toList) = true := bne_iff_ne.mpr c28
                        obtain rfl := Option.some.inj H
                        go_wp2
                        go_ret
                        exact ⟨by first | rfl | (simp [errW_none, errW_some] <;> rfl) | (simp [*, errW_none, errW_some] <;> rfl), by repeat (first | (with_reducible first | exact HB.out | apply below_alloc | apply pw_below_drewN | apply below_drew1) | exact HB.out)⟩
              · rw [if_neg c19] at H
                have c19b0 : ((x7_2.length : Int) == (t334.size : Int)) = false := beq_eq_false_iff_ne.mpr c19
                have c19b1 : ((x7_2.length : Int) != (t334.size : Int)) = true := bne_iff_ne.mpr c19
                have c19b2 : (x7_2.length == t334.size) = false := by first | simpa using c19 | (simp at c19 ⊢; omega)
                obtain rfl := Option.some.inj H
                obtain ⟨Ao31, co31, eo31⟩ := Kd.R_slice HO_7.out
                subst eo31
                go_wp2
                go_ret
                exact ⟨by first | rfl | (simp [errW_none, errW_some] <;> rfl) | (simp [*, errW_none, errW_some] <;> rfl), by repeat (first | (with_reducible first | exact HB.out | apply below_alloc | apply pw_below_drewN | apply below_drew1) | exact HB.out)⟩

/-- THE ONE PURE STATEMENT of numnahlaw09_ParseInverse: yours. -/
def numnahlaw09_ParseInverse.Pure : Prop := ∀ (a0 : ByteArray), a0.size ≤ 140737488351232 → ∃ k, numnahlaw09_ParseInverse.f k a0 = some true
theorem numnahlaw09_ParseInverse.walk (P : numnahlaw09_ParseInverse.Pure) (a0 : ByteArray) (w : World) (hG : GW w) (w0 : a0.size ≤ 140737488351232) :
    Calls Tryd.prog 5 #[.string a0] w fun e w' => e = .returned (.bool true) ∧ Below w.heap.size w w' := by
  obtain ⟨k, h⟩ := P a0 w0
  refine (numnahlaw09_ParseInverse.calls (hG := hG) k a0 true w h).mono ?_
  rintro e w' ⟨rfl, hd⟩
  exact ⟨rfl, hd⟩

end Go.Proofs.YtpeeflkodpnbpaaDoor.Pr
