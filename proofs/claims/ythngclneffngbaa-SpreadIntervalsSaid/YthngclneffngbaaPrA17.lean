-- Laid by wip/tools/inj.py of this project, which drives the kit's printer. Lean checks it.
import Derived.Test.YthngclneffngbaaPr0
namespace Go.Proofs.Ythngclneffngbaa.Pr
open Go.RowKit Go.Proofs.YthngclneffngbaaW.PrintWords Go.Proofs.YthngclneffngbaaW.PrintLast Go.Proofs.YthngclneffngbaaW.PrintMore
attribute [local go_sem] max2_int min2_int max_two min_two max_three min_three max_four min_four   -- for this text's walks alone
set_option linter.unusedVariables false
set_option linter.unusedSimpArgs false

/-! ### numnahref03_Move: function 54 -/
def numnahref03_Move.l0 : Nat → Int → List Int → Int → List Int → Int → Option (List Int)
  | 0, _, _, _, _, _ => none
  | k + 1, x0, x1, x7, x8, x9 => if x9 < (x1.length : Int) then (if 0 ≤ x9 then (if x0 = 0 then (none) else (if x8.length < 17592186044416 then (numnahref03_Move.l0 k x0 x1 x7 (x8 ++ [Int.tmod (wrap64 ((rd x1 x9) + x7)) x0]) (wrap64 (x9 + 1))) else (none))) else (none)) else (some x8)
def numnahref03_Move.f (k : Nat) (a0 : Int) (l1 : List Int) (a2 : Int) : Option (List Int) := if a0 = 0 then (none) else (numnahref03_Move.l0 k a0 l1 (Int.tmod (wrap64 ((Int.tmod a2 a0) + a0)) a0) ([] : List Int) 0)
theorem numnahref03_Move.mono_l : ∀ k, (∀ y0 y1 y2 y3 y4, LeO (numnahref03_Move.l0 k y0 y1 y2 y3 y4) (numnahref03_Move.l0 (k + 1) y0 y1 y2 y3 y4))
  | 0 => fun _ _ _ _ _ r h => by simp [numnahref03_Move.l0] at h
  | k + 1 => by
    have ih0 := numnahref03_Move.mono_l k
    · intro y0 y1 y2 y3 y4
      unfold numnahref03_Move.l0
      repeat' first
      | (with_reducible exact ih0 _ _ _ _ _)
      | (with_reducible exact LeO.refl _)
      | (with_reducible exact LeO.none _)
      | (with_reducible refine LeO.ite ?_ ?_)
      | (with_reducible refine LeO.bind ?_ (fun _ => ?_))
      | exact ih0 _ _ _ _ _
      | exact LeO.none _
      | refine LeO.ite ?_ ?_
      | refine LeO.bind ?_ (fun _ => ?_)
theorem numnahref03_Move.mono : ∀ a0 a1 a2 k, LeO (numnahref03_Move.f k a0 a1 a2) (numnahref03_Move.f (k + 1) a0 a1 a2) := by
  intro a0 a1 a2 k
  have ih0 := numnahref03_Move.mono_l k
  unfold numnahref03_Move.f
  repeat' first
      | (with_reducible exact ih0 _ _ _ _ _)
      | (with_reducible exact LeO.refl _)
      | (with_reducible exact LeO.none _)
      | (with_reducible refine LeO.ite ?_ ?_)
      | (with_reducible refine LeO.bind ?_ (fun _ => ?_))
      | exact ih0 _ _ _ _ _
      | exact LeO.none _
      | refine LeO.ite ?_ ?_
      | refine LeO.bind ?_ (fun _ => ?_)
set_option maxHeartbeats 8000000 in
set_option maxRecDepth 100000 in
theorem numnahref03_Move.calls (k : Nat) (a0 : Int) (A1 : Option Addr) (c1 : Nat) (l1 : List Int) (a2 : Int) (r : List Int) (w : World) (hr1 : Kd.C (Kd.int .i64) w A1 l1.length l1) (hc1 : l1.length ≤ c1) (h : numnahref03_Move.f k a0 l1 a2 = some r) :
    Calls Try.prog 54 #[.int .i64 a0, .slice A1 l1.length c1, .int .i64 a2] w fun e w' => ∃ v0_ : Value, e = .returned (v0_) ∧ Kd.R (Kd.int .i64) 3 w' w.heap.size (fun _ => True) v0_ r ∧ Below w.heap.size w w' := by
  have HR1 := Aside0.mk hr1
  have HC1 := Aside0.mk hc1
  clear hr1 hc1
  have HB := Aside0.mk (Below.refl w.heap.size w)
  have H : (if a0 = 0 then (none) else (numnahref03_Move.l0 k a0 l1 (Int.tmod (wrap64 ((Int.tmod a2 a0) + a0)) a0) ([] : List Int) 0)) = some r := h
  clear h
  by_cases c4 : a0 = 0
  · rw [if_pos c4] at H
    exact absurd H (by simp)
  · rw [if_neg c4] at H
    have c4b0 : (a0 == 0) = false := beq_eq_false_iff_ne.mpr c4
    have c4b1 : (a0 != 0) = true := bne_iff_ne.mpr c4
    have H' := Aside0.mk H
    clear H
    go_enter Try.func54, Try.ntmps54
    go_wp2
    go_loopg [8, 9] k (fun kq v8 v9 w' => ∃ (x8_1 : List Int) (x9_1 : Int), v9 = .int .i64 x9_1 ∧ Aside0 (numnahref03_Move.l0 kq a0 l1 (Int.tmod (wrap64 ((Int.tmod a2 a0) + a0)) a0) x8_1 x9_1 = some r) ∧ Aside0 (kq ≤ k) ∧ Aside0 (Kd.R (Kd.int .i64) 3 w' w.heap.size (fun _ => True) v8 x8_1) ∧ Aside0 (Below w.heap.size w w'))
    case atStart => exact ⟨(([] : List Int)), (0), (by first | rfl | (simp; done) | (simp [*]; done)), H', ⟨Nat.le_refl _⟩, ⟨by first | exact Kd.R_nil _ _ _ _ _ | exact Kd.N_nil _ _ _ _ _ | exact Kd.V_nil _ _ _ _ _ | exact Kd.Q_nil _ _ _ _ _ | exact Kd.S_nil _ _ _ _ _⟩, ⟨by repeat (first | (with_reducible first | exact HB.out | apply below_alloc | apply pw_below_drewN | apply below_drew1) | exact HB.out)⟩⟩
    case round =>
      clear H'
      try clear c1
      try clear p2
      try clear c4
      try clear c4b0
      try clear c4b1
      obtain ⟨x8_1, x9_1, rfl, HA, HK1, HO_8, HB⟩ := hrel
      cases gk with
      | zero => exact absurd HA.out (by simp [numnahref03_Move.l0])
      | succ k1 =>
        have H := HA.out
        clear HA
        simp only [numnahref03_Move.l0] at H
        by_cases c5 : x9_1 < (l1.length : Int)
        · rw [if_pos c5] at H
          have c5b0 : decide (x9_1 < (l1.length : Int)) = true := decide_eq_true c5
          clear c5
          by_cases c6 : 0 ≤ x9_1
          · rw [if_pos c6] at H
            have c6b0 : decide (0 ≤ x9_1) = true := decide_eq_true c6
            clear c6
            by_cases c7 : a0 = 0
            · rw [if_pos c7] at H
              exact absurd H (by simp)
            · rw [if_neg c7] at H
              have c7b0 : (a0 == 0) = false := beq_eq_false_iff_ne.mpr c7
              have c7b1 : (a0 != 0) = true := bne_iff_ne.mpr c7
              by_cases c8 : x8_1.length < 17592186044416
              · rw [if_pos c8] at H
                have LMc8 := Aside0.mk c8
                clear c8
                obtain ⟨y837, hy837⟩ : ∃ y_ : List Int, y_ = (x8_1 ++ [Int.tmod (wrap64 ((rd l1 x9_1) + (Int.tmod (wrap64 ((Int.tmod a2 a0) + a0)) a0))) a0]) := ⟨_, rfl⟩
                replace H : (numnahref03_Move.l0 k1 a0 l1 (Int.tmod (wrap64 ((Int.tmod a2 a0) + a0)) a0) y837 (wrap64 (x9_1 + 1))) = some r := by first | (rw [hy837]; with_reducible exact H) | (have H2_ := (Option.bind_some _ _).symm.trans H; rw [hy837]; with_reducible exact H2_) | (have H2_ := (Option.bind_some _ _).symm.trans H; with_reducible exact H2_) | with_reducible exact H | (rw [hy837]; exact H) | exact H
                have Ny837 := Aside0.mk hy837
                clear hy837
                have H' := Aside0.mk H
                clear H
                have p836 : 0 ≤ (x9_1 : Int) := of_decide_eq_true (by first | (with_reducible assumption) | assumption)
                have q836 : x9_1 < (l1.length : Int) := of_decide_eq_true (by first | (with_reducible assumption) | assumption)
                obtain ⟨ad836, e836, hx836_0⟩ := Kd.at_int HR1.out x9_1 p836 q836
                cases e836
                replace hx836_0 := (HB.out.cell (World.block_lt_of_cell? w _ hx836_0)).trans hx836_0
                replace p836 := eq_true p836
                replace q836 := eq_true q836
                go_wp2_with (first | ((with_reducible refine gate_builtin (b := .append) (xs := #[.tmp 23, .tmp 32]) rfl ?_); at_builtin; refine Kd.R_append (Kd.int .i64) (w0 := w) w.heap.size rfl (.tmp 23) (.tmp 32) 22 3 (.int .i64 0) 8 rfl Try.underlying22 info3 rfl (by decide) (by omega) u8 x8_1 (Int.tmod (wrap64 ((rd l1 x9_1) + (Int.tmod (wrap64 ((Int.tmod a2 a0) + a0)) a0))) a0) [.int .i64 (Int.tmod (wrap64 ((rd l1 x9_1) + (Int.tmod (wrap64 ((Int.tmod a2 a0) + a0)) a0))) a0)] (fun _ => True) (fun _ => False) rfl rfl ?aP (fun _ hk => hk.elim) ?aF ?aO ?aB ?aS ?aL ?_; (case aP => exact rfl); (case aB => exact (by repeat (first | (with_reducible first | exact HB.out | apply below_alloc | apply pw_below_drewN | apply below_drew1) | exact HB.out))); (case aF => exact (fun _ _ => trivial)); (case aO => exact (by (with_reducible repeat (first | apply Kd.R_alloc | apply Kd.R_drewN | apply Kd.R_drew)); exact HO_8.out)); (case aS => exact (below_size (by repeat (first | (with_reducible first | exact HB.out | apply below_alloc | apply pw_below_drewN | apply below_drew1) | exact HB.out)))); (case aL => have := LMc8.out; omega); intro v838 w9 ho hb hg hat; rw [← Ny837.out] at ho; have n0_ := Aside0.mk (hb); have n1_ := Aside0.mk (ho); clear HB; clear HO_8; have HB := n0_; have HO839 := n1_; clear n0_ n1_; clear ho hb hg hat))
                go_roundg k1
                case measure => have := HK1.out; omega
                case rel => exact ⟨(y837), (wrap64 (x9_1 + 1)), (by first | rfl | (simp; done) | (simp [*]; done)), H', ⟨by have := HK1.out; omega⟩, ⟨by (with_reducible repeat (first | apply Kd.R_alloc | apply Kd.R_drewN | apply Kd.R_drew)); exact HO839.out⟩, ⟨by repeat (first | (with_reducible first | exact HB.out | apply below_alloc | apply pw_below_drewN | apply below_drew1) | exact HB.out)⟩⟩
              · rw [if_neg c8] at H
                exact absurd H (by simp)
          · rw [if_neg c6] at H
            exact absurd H (by simp)
        · rw [if_neg c5] at H
          have c5b0 : decide (x9_1 < (l1.length : Int)) = false := decide_eq_false c5
          clear c5
          obtain rfl := Option.some.inj H
          go_wp2
          go_ret
          exact ⟨_, by first | rfl | (simp [errW_none, errW_some] <;> rfl) | (simp [*, errW_none, errW_some] <;> rfl), by (with_reducible repeat (first | apply Kd.R_alloc | apply Kd.R_drewN | apply Kd.R_drew)); exact HO_8.out, by repeat (first | (with_reducible first | exact HB.out | apply below_alloc | apply pw_below_drewN | apply below_drew1) | exact HB.out)⟩

end Go.Proofs.Ythngclneffngbaa.Pr
