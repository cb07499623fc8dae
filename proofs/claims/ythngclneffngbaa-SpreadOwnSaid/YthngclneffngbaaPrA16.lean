-- Laid by wip/tools/inj.py of this project, which drives the kit's printer. Lean checks it.
import Derived.Test.YthngclneffngbaaPr0
namespace Go.Proofs.Ythngclneffngbaa.Pr
open Go.RowKit Go.Proofs.YthngclneffngbaaW.PrintWords Go.Proofs.YthngclneffngbaaW.PrintLast Go.Proofs.YthngclneffngbaaW.PrintMore
attribute [local go_sem] max2_int min2_int max_two min_two max_three min_three max_four min_four   -- for this text's walks alone
set_option linter.unusedVariables false
set_option linter.unusedSimpArgs false

/-! ### numnahref03_Gaps: function 53 -/
mutual
def numnahref03_Gaps.l0 : Nat → Int → List Int → List Bool → Int → Option (List Int)
  | 0, _, _, _, _ => none
  | k + 1, x0, x1, x5, x6 => if x6 < (x1.length : Int) then (if 0 ≤ x6 then (if 0 ≤ (rd x1 x6) then (if (rd x1 x6) < (x5.length : Int) then (numnahref03_Gaps.l0 k x0 x1 (x5.set ((rd x1 x6) : Int).toNat true) (wrap64 (x6 + 1))) else (none)) else (none)) else (none)) else (if 0 ≤ (wrap64 (x0 + 1)) then (if (wrap64 (x0 + 1) : Int).toNat ≤ 281474976710656 then (numnahref03_Gaps.l1 k x0 x5 (List.replicate (wrap64 (x0 + 1) : Int).toNat false) 0) else (none)) else (none))
def numnahref03_Gaps.l1 : Nat → Int → List Bool → List Bool → Int → Option (List Int)
  | 0, _, _, _, _ => none
  | k + 1, x0, x5, x7, x8 => if x8 < x0 then (numnahref03_Gaps.l2 k x0 x5 x7 x8 1) else (numnahref03_Gaps.l3 k x0 x7 ([] : List Int) 1)
def numnahref03_Gaps.l2 : Nat → Int → List Bool → List Bool → Int → Int → Option (List Int)
  | 0, _, _, _, _, _ => none
  | k + 1, x0, x5, x7, x8, x9 => if x0 = 0 then (none) else (if 0 ≤ (Int.tmod (wrap64 (x8 + x9)) x0) then (if (Int.tmod (wrap64 (x8 + x9)) x0) < (x5.length : Int) then (if (rdOf false x5 (Int.tmod (wrap64 (x8 + x9)) x0) = true) then (if 0 ≤ x8 then (if x8 < (x5.length : Int) then (if rdOf false x5 x8 = true then (if 0 ≤ x9 then (if x9 < (x7.length : Int) then (numnahref03_Gaps.l1 k x0 x5 (x7.set (x9 : Int).toNat true) (wrap64 (x8 + 1))) else (none)) else (none)) else (numnahref03_Gaps.l1 k x0 x5 x7 (wrap64 (x8 + 1)))) else (none)) else (none)) else (if x9 < x0 then (numnahref03_Gaps.l2 k x0 x5 x7 x8 (wrap64 (x9 + 1))) else (if 0 ≤ x8 then (if x8 < (x5.length : Int) then (if rdOf false x5 x8 = true then (if 0 ≤ x9 then (if x9 < (x7.length : Int) then (numnahref03_Gaps.l1 k x0 x5 (x7.set (x9 : Int).toNat true) (wrap64 (x8 + 1))) else (none)) else (none)) else (numnahref03_Gaps.l1 k x0 x5 x7 (wrap64 (x8 + 1)))) else (none)) else (none)))) else (none)) else (none))
def numnahref03_Gaps.l3 : Nat → Int → List Bool → List Int → Int → Option (List Int)
  | 0, _, _, _, _ => none
  | k + 1, x0, x7, x10, x11 => if x11 ≤ x0 then (if 0 ≤ x11 then (if x11 < (x7.length : Int) then (if rdOf false x7 x11 = true then (if x10.length < 17592186044416 then (numnahref03_Gaps.l3 k x0 x7 (x10 ++ [x11]) (wrap64 (x11 + 1))) else (none)) else (numnahref03_Gaps.l3 k x0 x7 x10 (wrap64 (x11 + 1)))) else (none)) else (none)) else (some x10)
end
def numnahref03_Gaps.f (k : Nat) (a0 : Int) (l1 : List Int) : Option (List Int) := if 0 ≤ a0 then (if (a0 : Int).toNat ≤ 281474976710656 then (numnahref03_Gaps.l0 k a0 l1 (List.replicate (a0 : Int).toNat false) 0) else (none)) else (none)
theorem numnahref03_Gaps.mono_l : ∀ k, (∀ y0 y1 y2 y3, LeO (numnahref03_Gaps.l0 k y0 y1 y2 y3) (numnahref03_Gaps.l0 (k + 1) y0 y1 y2 y3)) ∧ (∀ y0 y1 y2 y3, LeO (numnahref03_Gaps.l1 k y0 y1 y2 y3) (numnahref03_Gaps.l1 (k + 1) y0 y1 y2 y3)) ∧ (∀ y0 y1 y2 y3 y4, LeO (numnahref03_Gaps.l2 k y0 y1 y2 y3 y4) (numnahref03_Gaps.l2 (k + 1) y0 y1 y2 y3 y4)) ∧ (∀ y0 y1 y2 y3, LeO (numnahref03_Gaps.l3 k y0 y1 y2 y3) (numnahref03_Gaps.l3 (k + 1) y0 y1 y2 y3))
  | 0 => ⟨fun _ _ _ _ r h => by simp [numnahref03_Gaps.l0] at h, fun _ _ _ _ r h => by simp [numnahref03_Gaps.l1] at h, fun _ _ _ _ _ r h => by simp [numnahref03_Gaps.l2] at h, fun _ _ _ _ r h => by simp [numnahref03_Gaps.l3] at h⟩
  | k + 1 => by
    obtain ⟨ih0, ih1, ih2, ih3⟩ := numnahref03_Gaps.mono_l k
    refine ⟨?_, ?_, ?_, ?_⟩
    · intro y0 y1 y2 y3
      unfold numnahref03_Gaps.l0
      repeat' first
      | (with_reducible exact ih0 _ _ _ _)
      | (with_reducible exact ih1 _ _ _ _)
      | (with_reducible exact ih2 _ _ _ _ _)
      | (with_reducible exact ih3 _ _ _ _)
      | (with_reducible exact LeO.refl _)
      | (with_reducible exact LeO.none _)
      | (with_reducible refine LeO.ite ?_ ?_)
      | (with_reducible refine LeO.bind ?_ (fun _ => ?_))
      | exact ih0 _ _ _ _
      | exact ih1 _ _ _ _
      | exact ih2 _ _ _ _ _
      | exact ih3 _ _ _ _
      | exact LeO.none _
      | refine LeO.ite ?_ ?_
      | refine LeO.bind ?_ (fun _ => ?_)
    · intro y0 y1 y2 y3
      unfold numnahref03_Gaps.l1
      repeat' first
      | (with_reducible exact ih0 _ _ _ _)
      | (with_reducible exact ih1 _ _ _ _)
      | (with_reducible exact ih2 _ _ _ _ _)
      | (with_reducible exact ih3 _ _ _ _)
      | (with_reducible exact LeO.refl _)
      | (with_reducible exact LeO.none _)
      | (with_reducible refine LeO.ite ?_ ?_)
      | (with_reducible refine LeO.bind ?_ (fun _ => ?_))
      | exact ih0 _ _ _ _
      | exact ih1 _ _ _ _
      | exact ih2 _ _ _ _ _
      | exact ih3 _ _ _ _
      | exact LeO.none _
      | refine LeO.ite ?_ ?_
      | refine LeO.bind ?_ (fun _ => ?_)
    · intro y0 y1 y2 y3 y4
      unfold numnahref03_Gaps.l2
      repeat' first
      | (with_reducible exact ih0 _ _ _ _)
      | (with_reducible exact ih1 _ _ _ _)
      | (with_reducible exact ih2 _ _ _ _ _)
      | (with_reducible exact ih3 _ _ _ _)
      | (with_reducible exact LeO.refl _)
      | (with_reducible exact LeO.none _)
      | (with_reducible refine LeO.ite ?_ ?_)
      | (with_reducible refine LeO.bind ?_ (fun _ => ?_))
      | exact ih0 _ _ _ _
      | exact ih1 _ _ _ _
      | exact ih2 _ _ _ _ _
      | exact ih3 _ _ _ _
      | exact LeO.none _
      | refine LeO.ite ?_ ?_
      | refine LeO.bind ?_ (fun _ => ?_)
    · intro y0 y1 y2 y3
      unfold numnahref03_Gaps.l3
      repeat' first
      | (with_reducible exact ih0 _ _ _ _)
      | (with_reducible exact ih1 _ _ _ _)
      | (with_reducible exact ih2 _ _ _ _ _)
      | (with_reducible exact ih3 _ _ _ _)
      | (with_reducible exact LeO.refl _)
      | (with_reducible exact LeO.none _)
      | (with_reducible refine LeO.ite ?_ ?_)
      | (with_reducible refine LeO.bind ?_ (fun _ => ?_))
      | exact ih0 _ _ _ _
      | exact ih1 _ _ _ _
      | exact ih2 _ _ _ _ _
      | exact ih3 _ _ _ _
      | exact LeO.none _
      | refine LeO.ite ?_ ?_
      | refine LeO.bind ?_ (fun _ => ?_)
theorem numnahref03_Gaps.mono : ∀ a0 a1 k, LeO (numnahref03_Gaps.f k a0 a1) (numnahref03_Gaps.f (k + 1) a0 a1) := by
  intro a0 a1 k
  obtain ⟨ih0, ih1, ih2, ih3⟩ := numnahref03_Gaps.mono_l k
  unfold numnahref03_Gaps.f
  repeat' first
      | (with_reducible exact ih0 _ _ _ _)
      | (with_reducible exact ih1 _ _ _ _)
      | (with_reducible exact ih2 _ _ _ _ _)
      | (with_reducible exact ih3 _ _ _ _)
      | (with_reducible exact LeO.refl _)
      | (with_reducible exact LeO.none _)
      | (with_reducible refine LeO.ite ?_ ?_)
      | (with_reducible refine LeO.bind ?_ (fun _ => ?_))
      | exact ih0 _ _ _ _
      | exact ih1 _ _ _ _
      | exact ih2 _ _ _ _ _
      | exact ih3 _ _ _ _
      | exact LeO.none _
      | refine LeO.ite ?_ ?_
      | refine LeO.bind ?_ (fun _ => ?_)
set_option maxHeartbeats 8000000 in
set_option maxRecDepth 100000 in
theorem numnahref03_Gaps.calls (k : Nat) (a0 : Int) (A1 : Option Addr) (c1 : Nat) (l1 : List Int) (r : List Int) (w : World) (hr1 : Kd.C (Kd.int .i64) w A1 l1.length l1) (hc1 : l1.length ≤ c1) (h : numnahref03_Gaps.f k a0 l1 = some r) :
    Calls Try.prog 53 #[.int .i64 a0, .slice A1 l1.length c1] w fun e w' => ∃ v0_ : Value, e = .returned (v0_) ∧ Kd.R (Kd.int .i64) 3 w' w.heap.size (fun _ => True) v0_ r ∧ Below w.heap.size w w' := by
  have HR1 := Aside0.mk hr1
  have HC1 := Aside0.mk hc1
  clear hr1 hc1
  have HB := Aside0.mk (Below.refl w.heap.size w)
  have H : (if 0 ≤ a0 then (if (a0 : Int).toNat ≤ 281474976710656 then (numnahref03_Gaps.l0 k a0 l1 (List.replicate (a0 : Int).toNat false) 0) else (none)) else (none)) = some r := h
  clear h
  by_cases c3 : 0 ≤ a0
  · rw [if_pos c3] at H
    have c3b0 := eq_true c3
    have c3b1 : decide (0 ≤ a0) = true := decide_eq_true c3
    clear c3
    by_cases c4 : (a0 : Int).toNat ≤ 281474976710656
    · rw [if_pos c4] at H
      have c4b0 := eq_true c4
      have c4b1 : decide ((a0 : Int).toNat ≤ 281474976710656) = true := decide_eq_true c4
      clear c4
      obtain ⟨y819, hy819⟩ : ∃ y_ : List Bool, y_ = (List.replicate (a0 : Int).toNat false) := ⟨_, rfl⟩
      replace H : (numnahref03_Gaps.l0 k a0 l1 y819 0) = some r := by first | (rw [hy819]; with_reducible exact H) | (have H2_ := (Option.bind_some _ _).symm.trans H; rw [hy819]; with_reducible exact H2_) | (have H2_ := (Option.bind_some _ _).symm.trans H; with_reducible exact H2_) | with_reducible exact H | (rw [hy819]; exact H) | exact H
      have Ny819 := Aside0.mk hy819
      clear hy819
      have H' := Aside0.mk H
      clear H
      go_enter Try.func53, Try.ntmps53
      go_wp2_with (first | ((with_reducible refine gate_dst (N := 13) rfl ?_); refine Kd.R_make Kd.bool _ 4 rfl (N := 13) rfl 77 _ _ rfl a0 rfl rfl Try.underlying77 (.bool false) 1 info4 rfl (by decide) (by omega) false (ok := fun _ => True) (okp := fun _ => True) rfl (fun _ hk => hk) trivial (of_decide_eq_true (by first | (with_reducible assumption) | assumption)) (Nat.le_trans (Nat.mul_le_mul_right _ (of_decide_eq_true (by first | (with_reducible assumption) | assumption) : a0.toNat ≤ 281474976710656)) (by omega)) (Below.refl _ _) (Nat.le_refl _) ?_; intro v820 w5 ho6 hb hg_ hnew_; clear hg_ hnew_; (first | rw [← Ny819.out] at ho6 | (simp only [Int.reduceToNat] at ho6; rw [← Ny819.out] at ho6)); have n0_ := Aside0.mk (Kd.R_lower ho6 (below_size (by repeat (first | (with_reducible first | exact HB.out | apply below_alloc | apply pw_below_drewN | apply below_drew1) | exact HB.out)))); have n1_ := Aside0.mk (below_step (by repeat (first | (with_reducible first | exact HB.out | apply below_alloc | apply pw_below_drewN | apply below_drew1) | exact HB.out)) hb); clear HB; have HO821 := n0_; have HB := n1_; clear n0_ n1_; clear hb ho6))
      go_loopg [6] k (fun kq v6 w' => ∃ (x5_1 : List Bool) (x6_1 : Int), v6 = .int .i64 x6_1 ∧ Aside0 (numnahref03_Gaps.l0 kq a0 l1 x5_1 x6_1 = some r) ∧ Aside0 (kq ≤ k) ∧ Aside0 (Kd.R Kd.bool 4 w' w.heap.size (fun _ => True) v820 x5_1) ∧ Aside0 (Below w.heap.size w w'))
      case atStart => exact ⟨(y819), (0), (by first | rfl | (simp; done) | (simp [*]; done)), H', ⟨Nat.le_refl _⟩, ⟨by (with_reducible repeat (first | apply Kd.R_alloc | apply Kd.R_drewN | apply Kd.R_drew)); exact HO821.out⟩, ⟨by repeat (first | (with_reducible first | exact HB.out | apply below_alloc | apply pw_below_drewN | apply below_drew1) | exact HB.out)⟩⟩
      case round =>
        clear H'
        try clear c1
        try clear p2
        try clear c3
        try clear c3b0
        try clear c3b1
        try clear c4
        try clear c4b0
        try clear c4b1
        try clear c5
        obtain ⟨x5_1, x6_1, rfl, HA, HK1, HO_5, HB⟩ := hrel
        cases gk with
        | zero => exact absurd HA.out (by simp [numnahref03_Gaps.l0])
        | succ k1 =>
          have H := HA.out
          clear HA
          simp only [numnahref03_Gaps.l0] at H
          by_cases c7 : x6_1 < (l1.length : Int)
          · rw [if_pos c7] at H
            have c7b0 : decide (x6_1 < (l1.length : Int)) = true := decide_eq_true c7
            clear c7
            by_cases c8 : 0 ≤ x6_1
            · rw [if_pos c8] at H
              have c8b0 : decide (0 ≤ x6_1) = true := decide_eq_true c8
              clear c8
              by_cases c9 : 0 ≤ (rd l1 x6_1)
              · rw [if_pos c9] at H
                have c9b0 : decide (0 ≤ (rd l1 x6_1)) = true := decide_eq_true c9
                clear c9
                by_cases c10 : (rd l1 x6_1) < (x5_1.length : Int)
                · rw [if_pos c10] at H
                  have c10b0 : decide ((rd l1 x6_1) < (x5_1.length : Int)) = true := decide_eq_true c10
                  clear c10
                  obtain ⟨y823, hy823⟩ : ∃ y_ : List Bool, y_ = (x5_1.set ((rd l1 x6_1) : Int).toNat true) := ⟨_, rfl⟩
                  replace H : (numnahref03_Gaps.l0 k1 a0 l1 y823 (wrap64 (x6_1 + 1))) = some r := by first | (rw [hy823]; with_reducible exact H) | (have H2_ := (Option.bind_some _ _).symm.trans H; rw [hy823]; with_reducible exact H2_) | (have H2_ := (Option.bind_some _ _).symm.trans H; with_reducible exact H2_) | with_reducible exact H | (rw [hy823]; exact H) | exact H
                  have Ny823 := Aside0.mk hy823
                  clear hy823
                  have H' := Aside0.mk H
                  clear H
                  have p822 : 0 ≤ (x6_1 : Int) := of_decide_eq_true (by first | (with_reducible assumption) | assumption)
                  have q822 : x6_1 < (l1.length : Int) := of_decide_eq_true (by first | (with_reducible assumption) | assumption)
                  obtain ⟨ad822, e822, hx822_0⟩ := Kd.at_int HR1.out x6_1 p822 q822
                  cases e822
                  replace hx822_0 := (HB.out.cell (World.block_lt_of_cell? w _ hx822_0)).trans hx822_0
                  replace p822 := eq_true p822
                  replace q822 := eq_true q822
                  have p11 : 0 ≤ ((rd l1 x6_1) : Int) := of_decide_eq_true (by first | (with_reducible assumption) | assumption)
                  have q11 : ((rd l1 x6_1) : Int) < ((x5_1.length : Int) : Int) := of_decide_eq_true (by first | (with_reducible assumption) | assumption)
                  obtain ⟨go11, co11, eo11, gb11, gl11, cl11, HG11⟩ := Kd.R_form HO_5.out (by omega)
                  (first | cases eo11 | (injection eo11 with ea_ en_ ec_; (first | subst ea_ | (injection ea_ with ea_; subst ea_)); subst ec_; clear en_))
                  have GB11 := Aside0.mk gb11
                  have GG11 := Aside0.mk HG11
                  clear gb11 gl11 HG11
                  obtain ⟨hx11_0, hf11_0⟩ := Kd.R_celln false HO_5.out ((rd l1 x6_1) : Int) p11 q11
                  replace p11 := eq_true p11
                  replace q11 := eq_true q11
                  have HP12 := Kd.R_putg HO_5.out ((rd l1 x6_1) : Int) true
                  go_wp2_with (first | ((with_reducible refine gate_store (t := 4) (p := 25) rfl ?_); refine store_event (t := 4) (p := 25) (v := ?vo_w13) (w1 := (wr.setCell ⟨go11, ((rd l1 x6_1) : Int).toNat, none⟩ (.bool true))) ?hg ?ho ?hn ?hr ?_; (case ho => rfl); (case hg => rfl); (case hn => rfl); (case hr => first | (go_simp; done) | (go_simp; rfl)); intro w13 hw; have hg : wr.grownBy w13 (some go11) := (by rw [hw]; exact HP12.2); have hp_ : Kd.R Kd.bool 4 w13 w.heap.size (fun _ => True) (.slice (some ⟨go11, 0, none⟩) x5_1.length co11) y823 := (by rw [hw, Ny823.out]; exact HP12.1); clear HP12; have n0_ := Aside0.mk (hp_); have n1_ := Aside0.mk ((by rw [hw]; exact below_set (HB.out) GB11.out : Below w.heap.size w w13)); clear HO_5; clear HB; have HO_5 := n0_; have HB := n1_; clear n0_ n1_; clear hg hw hp_))
                  go_roundg k1
                  case measure => have := HK1.out; omega
                  case rel => exact ⟨(y823), (wrap64 (x6_1 + 1)), (by first | rfl | (simp; done) | (simp [*]; done)), H', ⟨by have := HK1.out; omega⟩, ⟨by (with_reducible repeat (first | apply Kd.R_alloc | apply Kd.R_drewN | apply Kd.R_drew)); exact HO_5.out⟩, ⟨by repeat (first | (with_reducible first | exact HB.out | apply below_alloc | apply pw_below_drewN | apply below_drew1) | exact HB.out)⟩⟩
                · rw [if_neg c10] at H
                  exact absurd H (by simp)
              · rw [if_neg c9] at H
                exact absurd H (by simp)
            · rw [if_neg c8] at H
              exact absurd H (by simp)
          · rw [if_neg c7] at H
            have c7b0 : decide (x6_1 < (l1.length : Int)) = false := decide_eq_false c7
            clear c7
            obtain ⟨ji14, hji14⟩ : ∃ j_ : Int, (wrap64 (a0 + 1)) = j_ := ⟨_, rfl⟩
            replace H : (if 0 ≤ (ji14) then (if (ji14 : Int).toNat ≤ 281474976710656 then (numnahref03_Gaps.l1 k1 a0 x5_1 (List.replicate (ji14 : Int).toNat false) 0) else (none)) else (none)) = some r := by first | (rw [hji14] at H; exact H) | (simp only [hji14] at H ⊢; exact H)
            have hji14w : (IntKind.i64.wrap (a0 + 1)) = ji14 := (i64_w _).trans hji14
            by_cases c15 : 0 ≤ (ji14)
            · rw [if_pos c15] at H
              have c15b0 := eq_true c15
              have c15b1 : decide (0 ≤ (ji14)) = true := decide_eq_true c15
              clear c15
              by_cases c16 : (ji14 : Int).toNat ≤ 281474976710656
              · rw [if_pos c16] at H
                have c16b0 := eq_true c16
                have c16b1 : decide ((ji14 : Int).toNat ≤ 281474976710656) = true := decide_eq_true c16
                clear c16
                obtain ⟨y824, hy824⟩ : ∃ y_ : List Bool, y_ = (List.replicate (ji14 : Int).toNat false) := ⟨_, rfl⟩
                replace H : (numnahref03_Gaps.l1 k1 a0 x5_1 y824 0) = some r := by first | (rw [hy824]; with_reducible exact H) | (have H2_ := (Option.bind_some _ _).symm.trans H; rw [hy824]; with_reducible exact H2_) | (have H2_ := (Option.bind_some _ _).symm.trans H; with_reducible exact H2_) | with_reducible exact H | (rw [hy824]; exact H) | exact H
                have Ny824 := Aside0.mk hy824
                clear hy824
                have H' := Aside0.mk H
                clear H
                go_wp2_with (first | ((with_reducible refine gate_dst (N := 28) rfl ?_); refine Kd.R_make Kd.bool _ 4 rfl (N := 28) rfl 77 _ _ rfl ji14 rfl rfl Try.underlying77 (.bool false) 1 info4 rfl (by decide) (by omega) false (ok := fun _ => True) (okp := fun _ => True) rfl (fun _ hk => hk) trivial (of_decide_eq_true (by first | (with_reducible assumption) | assumption)) (Nat.le_trans (Nat.mul_le_mul_right _ (of_decide_eq_true (by first | (with_reducible assumption) | assumption) : ji14.toNat ≤ 281474976710656)) (by omega)) (Below.refl _ _) (Nat.le_refl _) ?_; intro v825 w17 ho18 hb hg_ hnew_; clear hg_ hnew_; (first | rw [← Ny824.out] at ho18 | (simp only [Int.reduceToNat] at ho18; rw [← Ny824.out] at ho18)); have n0_ := Aside0.mk (Kd.R_elder' (by (with_reducible repeat (first | apply Kd.R_alloc | apply Kd.R_drewN | apply Kd.R_drew)); exact HO_5.out) (Kd.R_base ho18) hb); have n1_ := Aside0.mk (Kd.R_lower (Kd.R_new' ho18 (Kd.R_lt (by (with_reducible repeat (first | apply Kd.R_alloc | apply Kd.R_drewN | apply Kd.R_drew)); exact HO_5.out))) (below_size (by repeat (first | (with_reducible first | exact HB.out | apply below_alloc | apply pw_below_drewN | apply below_drew1) | exact HB.out)))); have n2_ := Aside0.mk (below_step (by repeat (first | (with_reducible first | exact HB.out | apply below_alloc | apply pw_below_drewN | apply below_drew1) | exact HB.out)) hb); clear HO_5; clear HB; have HO_5 := n0_; have HO826 := n1_; have HB := n2_; clear n0_ n1_ n2_; clear hb ho18))
                go_loopg [8] k1 (fun kq v8 w' => ∃ (x7_2 : List Bool) (x8_2 : Int), v8 = .int .i64 x8_2 ∧ Aside0 (numnahref03_Gaps.l1 kq a0 x5_1 x7_2 x8_2 = some r) ∧ Aside0 (kq ≤ k1) ∧ Aside0 (Kd.R Kd.bool 4 w' w.heap.size (fun k_ => some k_ ≠ (v825 : Value).ownBlock) v820 x5_1) ∧ Aside0 (Kd.R Kd.bool 4 w' w.heap.size (fun k_ => some k_ ≠ (v820 : Value).ownBlock) v825 x7_2) ∧ Aside0 (Below w.heap.size w w'))
                case atStart => exact ⟨(y824), (0), (by first | rfl | (simp; done) | (simp [*]; done)), H', ⟨Nat.le_refl _⟩, ⟨by (with_reducible repeat (first | apply Kd.R_alloc | apply Kd.R_drewN | apply Kd.R_drew)); exact Kd.R_mono HO_5.out (fun _ hk => hk.2)⟩, ⟨by (with_reducible repeat (first | apply Kd.R_alloc | apply Kd.R_drewN | apply Kd.R_drew)); exact Kd.R_mono HO826.out (fun _ hk => hk.2)⟩, ⟨by repeat (first | (with_reducible first | exact HB.out | apply below_alloc | apply pw_below_drewN | apply below_drew1) | exact HB.out)⟩⟩
                case round =>
                  clear H'
                  try clear c1
                  try clear p1
                  try clear q1
                  try clear hx1
                  try clear p2
                  try clear c3
                  try clear c3b0
                  try clear c3b1
                  try clear c4
                  try clear c4b0
                  try clear c4b1
                  try clear c5
                  try clear p6
                  try clear c7
                  try clear c7b0
                  try clear c8
                  try clear c8b0
                  try clear p8
                  try clear q8
                  try clear hx8
                  try clear c9
                  try clear c9b0
                  try clear c10
                  try clear c10b0
                  try clear p11
                  try clear q11
                  try clear hx11
                  try clear hf11
                  try clear c15
                  try clear c15b0
                  try clear c15b1
                  try clear c16
                  try clear c16b0
                  try clear c16b1
                  try clear hx11_0
                  try clear hx822_0
                  try clear p11
                  try clear p2
                  try clear p822
                  try clear q11
                  try clear q822
                  obtain ⟨x7_2, x8_2, rfl, HA, HK2, HO_5, HO_7, HB⟩ := hrel
                  cases gk with
                  | zero => exact absurd HA.out (by simp [numnahref03_Gaps.l1])
                  | succ k2 =>
                    have H := HA.out
                    clear HA
                    simp only [numnahref03_Gaps.l1] at H
                    by_cases c19 : x8_2 < a0
                    · rw [if_pos c19] at H
                      have c19b0 : decide (x8_2 < a0) = true := decide_eq_true c19
                      clear c19
                      have H' := Aside0.mk H
                      clear H
                      go_wp2
                      go_loopg [9] k2 (fun kq v9 w' => ∃ (x9_3 : Int), v9 = .int .i64 x9_3 ∧ Aside0 (numnahref03_Gaps.l2 kq a0 x5_1 x7_2 x8_2 x9_3 = some r) ∧ Aside0 (kq ≤ k2) ∧ Aside0 (Kd.R Kd.bool 4 w' w.heap.size (fun k_ => some k_ ≠ (v825 : Value).ownBlock) v820 x5_1) ∧ Aside0 (Kd.R Kd.bool 4 w' w.heap.size (fun k_ => some k_ ≠ (v820 : Value).ownBlock) v825 x7_2) ∧ Aside0 (Below w.heap.size w w'))
                      case atStart => exact ⟨(1), (by first | rfl | (simp; done) | (simp [*]; done)), H', ⟨Nat.le_refl _⟩, ⟨by (with_reducible repeat (first | apply Kd.R_alloc | apply Kd.R_drewN | apply Kd.R_drew)); exact HO_5.out⟩, ⟨by (with_reducible repeat (first | apply Kd.R_alloc | apply Kd.R_drewN | apply Kd.R_drew)); exact HO_7.out⟩, ⟨by repeat (first | (with_reducible first | exact HB.out | apply below_alloc | apply pw_below_drewN | apply below_drew1) | exact HB.out)⟩⟩
                      case round =>
                        clear H'
                        try clear c1
                        try clear p1
                        try clear q1
                        try clear hx1
                        try clear p2
                        try clear c3
                        try clear c3b0
                        try clear c3b1
                        try clear c4
                        try clear c4b0
                        try clear c4b1
                        try clear c5
                        try clear p6
                        try clear c7
                        try clear c7b0
                        try clear c8
                        try clear c8b0
                        try clear p8
                        try clear q8
                        try clear hx8
                        try clear c9
                        try clear c9b0
                        try clear c10
                        try clear c10b0
                        try clear p11
                        try clear q11
                        try clear hx11
                        try clear hf11
                        try clear c15
                        try clear c15b0
                        try clear c15b1
                        try clear c16
                        try clear c16b0
                        try clear c16b1
                        try clear c19
                        try clear c19b0
                        try clear hx11_0
                        try clear hx822_0
                        try clear p1
                        try clear p11
                        try clear p2
                        try clear p6
                        try clear p8
                        try clear p822
                        try clear q1
                        try clear q11
                        try clear q8
                        try clear q822
                        obtain ⟨x9_3, rfl, HA, HK3, HO_5, HO_7, HB⟩ := hrel
                        cases gk with
                        | zero => exact absurd HA.out (by simp [numnahref03_Gaps.l2])
                        | succ k3 =>
                          have H := HA.out
                          clear HA
                          simp only [numnahref03_Gaps.l2] at H
                          by_cases c20 : a0 = 0
                          · rw [if_pos c20] at H
                            exact absurd H (by simp)
                          · rw [if_neg c20] at H
                            have c20b0 : (a0 == 0) = false := beq_eq_false_iff_ne.mpr c20
                            have c20b1 : (a0 != 0) = true := bne_iff_ne.mpr c20
                            obtain ⟨ji21, hji21⟩ : ∃ j_ : Int, (Int.tmod (wrap64 (x8_2 + x9_3)) a0) = j_ := ⟨_, rfl⟩
                            replace H : (if 0 ≤ (ji21) then (if (ji21) < (x5_1.length : Int) then (if (rdOf false x5_1 (ji21) = true) then (if 0 ≤ x8_2 then (if x8_2 < (x5_1.length : Int) then (if rdOf false x5_1 x8_2 = true then (if 0 ≤ x9_3 then (if x9_3 < (x7_2.length : Int) then (numnahref03_Gaps.l1 k3 a0 x5_1 (x7_2.set (x9_3 : Int).toNat true) (wrap64 (x8_2 + 1))) else (none)) else (none)) else (numnahref03_Gaps.l1 k3 a0 x5_1 x7_2 (wrap64 (x8_2 + 1)))) else (none)) else (none)) else (if x9_3 < a0 then (numnahref03_Gaps.l2 k3 a0 x5_1 x7_2 x8_2 (wrap64 (x9_3 + 1))) else (if 0 ≤ x8_2 then (if x8_2 < (x5_1.length : Int) then (if rdOf false x5_1 x8_2 = true then (if 0 ≤ x9_3 then (if x9_3 < (x7_2.length : Int) then (numnahref03_Gaps.l1 k3 a0 x5_1 (x7_2.set (x9_3 : Int).toNat true) (wrap64 (x8_2 + 1))) else (none)) else (none)) else (numnahref03_Gaps.l1 k3 a0 x5_1 x7_2 (wrap64 (x8_2 + 1)))) else (none)) else (none)))) else (none)) else (none)) = some r := by first | (rw [hji21] at H; exact H) | (simp only [hji21] at H ⊢; exact H)
                            by_cases c22 : 0 ≤ (ji21)
                            · rw [if_pos c22] at H
                              have c22b0 : decide (0 ≤ (ji21)) = true := decide_eq_true c22
                              clear c22
                              by_cases c23 : (ji21) < (x5_1.length : Int)
                              · rw [if_pos c23] at H
                                have c23b0 : decide ((ji21) < (x5_1.length : Int)) = true := decide_eq_true c23
                                clear c23
                                obtain ⟨bq24, hbq24⟩ : ∃ b_ : Bool, b_ = (rdOf false x5_1 (ji21)) := ⟨_, rfl⟩
                                replace H : (if (bq24 = true) then (if 0 ≤ x8_2 then (if x8_2 < (x5_1.length : Int) then (if rdOf false x5_1 x8_2 = true then (if 0 ≤ x9_3 then (if x9_3 < (x7_2.length : Int) then (numnahref03_Gaps.l1 k3 a0 x5_1 (x7_2.set (x9_3 : Int).toNat true) (wrap64 (x8_2 + 1))) else (none)) else (none)) else (numnahref03_Gaps.l1 k3 a0 x5_1 x7_2 (wrap64 (x8_2 + 1)))) else (none)) else (none)) else (if x9_3 < a0 then (numnahref03_Gaps.l2 k3 a0 x5_1 x7_2 x8_2 (wrap64 (x9_3 + 1))) else (if 0 ≤ x8_2 then (if x8_2 < (x5_1.length : Int) then (if rdOf false x5_1 x8_2 = true then (if 0 ≤ x9_3 then (if x9_3 < (x7_2.length : Int) then (numnahref03_Gaps.l1 k3 a0 x5_1 (x7_2.set (x9_3 : Int).toNat true) (wrap64 (x8_2 + 1))) else (none)) else (none)) else (numnahref03_Gaps.l1 k3 a0 x5_1 x7_2 (wrap64 (x8_2 + 1)))) else (none)) else (none)))) = some r := by rw [← hbq24] at H; exact H
                                have Nbq24 := Aside0.mk hbq24
                                clear hbq24
                                by_cases c25 : (bq24 = true)
                                · subst c25
                                  have H1 : (if 0 ≤ x8_2 then (if x8_2 < (x5_1.length : Int) then (if rdOf false x5_1 x8_2 = true then (if 0 ≤ x9_3 then (if x9_3 < (x7_2.length : Int) then (numnahref03_Gaps.l1 k3 a0 x5_1 (x7_2.set (x9_3 : Int).toNat true) (wrap64 (x8_2 + 1))) else (none)) else (none)) else (numnahref03_Gaps.l1 k3 a0 x5_1 x7_2 (wrap64 (x8_2 + 1)))) else (none)) else (none)) = some r := by rw [if_pos rfl] at H; exact H
                                  clear H
                                  have H := H1
                                  clear H1
                                  by_cases c26 : 0 ≤ x8_2
                                  · rw [if_pos c26] at H
                                    have c26b0 : decide (0 ≤ x8_2) = true := decide_eq_true c26
                                    clear c26
                                    by_cases c27 : x8_2 < (x5_1.length : Int)
                                    · rw [if_pos c27] at H
                                      have c27b0 : decide (x8_2 < (x5_1.length : Int)) = true := decide_eq_true c27
                                      clear c27
                                      obtain ⟨bq28, hbq28⟩ : ∃ b_ : Bool, b_ = (rdOf false x5_1 x8_2) := ⟨_, rfl⟩
                                      replace H : (if bq28 = true then (if 0 ≤ x9_3 then (if x9_3 < (x7_2.length : Int) then (numnahref03_Gaps.l1 k3 a0 x5_1 (x7_2.set (x9_3 : Int).toNat true) (wrap64 (x8_2 + 1))) else (none)) else (none)) else (numnahref03_Gaps.l1 k3 a0 x5_1 x7_2 (wrap64 (x8_2 + 1)))) = some r := by rw [← hbq28] at H; exact H
                                      have Nbq28 := Aside0.mk hbq28
                                      clear hbq28
                                      by_cases c29 : bq28 = true
                                      · subst c29
                                        have H1 : (if 0 ≤ x9_3 then (if x9_3 < (x7_2.length : Int) then (numnahref03_Gaps.l1 k3 a0 x5_1 (x7_2.set (x9_3 : Int).toNat true) (wrap64 (x8_2 + 1))) else (none)) else (none)) = some r := by rw [if_pos rfl] at H; exact H
                                        clear H
                                        have H := H1
                                        clear H1
                                        by_cases c30 : 0 ≤ x9_3
                                        · rw [if_pos c30] at H
                                          have c30b0 : decide (0 ≤ x9_3) = true := decide_eq_true c30
                                          clear c30
                                          by_cases c31 : x9_3 < (x7_2.length : Int)
                                          · rw [if_pos c31] at H
                                            have c31b0 : decide (x9_3 < (x7_2.length : Int)) = true := decide_eq_true c31
                                            clear c31
                                            obtain ⟨y829, hy829⟩ : ∃ y_ : List Bool, y_ = (x7_2.set (x9_3 : Int).toNat true) := ⟨_, rfl⟩
                                            replace H : (numnahref03_Gaps.l1 k3 a0 x5_1 y829 (wrap64 (x8_2 + 1))) = some r := by first | (rw [hy829]; with_reducible exact H) | (have H2_ := (Option.bind_some _ _).symm.trans H; rw [hy829]; with_reducible exact H2_) | (have H2_ := (Option.bind_some _ _).symm.trans H; with_reducible exact H2_) | with_reducible exact H | (rw [hy829]; exact H) | exact H
                                            have Ny829 := Aside0.mk hy829
                                            clear hy829
                                            have H' := Aside0.mk H
                                            clear H
                                            obtain ⟨Ao33, co33, eo33⟩ := Kd.R_slice HO_5.out
                                            subst eo33
                                            have p827 : 0 ≤ ((ji21) : Int) := of_decide_eq_true (by first | (with_reducible assumption) | assumption)
                                            have q827 : (ji21) < (x5_1.length : Int) := of_decide_eq_true (by first | (with_reducible assumption) | assumption)
                                            obtain ⟨ad827, e827, hx827_0⟩ := Kd.at_bool (Kd.R_reads' HO_5.out).2.2 (ji21) p827 q827
                                            (try rw [← Nbq24.out] at hx827_0)
                                            (try rw [← Nbq28.out] at hx827_0)
                                            cases e827
                                            replace p827 := eq_true p827
                                            replace q827 := eq_true q827
                                            have p828 : 0 ≤ (x8_2 : Int) := of_decide_eq_true (by first | (with_reducible assumption) | assumption)
                                            have q828 : x8_2 < (x5_1.length : Int) := of_decide_eq_true (by first | (with_reducible assumption) | assumption)
                                            obtain ⟨ad828, e828, hx828_0⟩ := Kd.at_bool (Kd.R_reads' HO_5.out).2.2 x8_2 p828 q828
                                            (try rw [← Nbq24.out] at hx828_0)
                                            (try rw [← Nbq28.out] at hx828_0)
                                            obtain rfl : ad827 = ad828 := (by injection e828)
                                            replace p828 := eq_true p828
                                            replace q828 := eq_true q828
                                            have p32 : 0 ≤ (x9_3 : Int) := of_decide_eq_true (by first | (with_reducible assumption) | assumption)
                                            have q32 : (x9_3 : Int) < ((x7_2.length : Int) : Int) := of_decide_eq_true (by first | (with_reducible assumption) | assumption)
                                            obtain ⟨go32, co32, eo32, gb32, gl32, cl32, HG32⟩ := Kd.R_form HO_7.out (by omega)
                                            (first | cases eo32 | (injection eo32 with ea_ en_ ec_; (first | subst ea_ | (injection ea_ with ea_; subst ea_)); subst ec_; clear en_))
                                            have GB32 := Aside0.mk gb32
                                            have GG32 := Aside0.mk HG32
                                            clear gb32 gl32 HG32
                                            obtain ⟨hx32_0, hf32_0⟩ := Kd.R_celln false HO_7.out (x9_3 : Int) p32 q32
                                            replace p32 := eq_true p32
                                            replace q32 := eq_true q32
                                            have HP34 := Kd.R_putg HO_7.out (x9_3 : Int) true
                                            go_wp2_with (first | ((with_reducible refine gate_store (t := 4) (p := 56) rfl ?_); refine store_event (t := 4) (p := 56) (v := ?vo_w35) (w1 := (wr.setCell ⟨go32, (x9_3 : Int).toNat, none⟩ (.bool true))) ?hg ?ho ?hn ?hr ?_; (case ho => rfl); (case hg => rfl); (case hn => rfl); (case hr => first | (go_simp; done) | (go_simp; rfl)); intro w35 hw; have hg : wr.grownBy w35 (some go32) := (by rw [hw]; exact HP34.2); have hp_ : Kd.R Kd.bool 4 w35 w.heap.size (fun k_ => some k_ ≠ (.slice (some ad827) x5_1.length co33 : Value).ownBlock) (.slice (some ⟨go32, 0, none⟩) x7_2.length co32) y829 := (by rw [hw, Ny829.out]; exact HP34.1); clear HP34; have n0_ := Aside0.mk (Kd.R_after (v := (.slice (some ⟨go32, 0, none⟩) x7_2.length co32)) (v1 := (.slice (some ⟨go32, 0, none⟩) x7_2.length co32)) (ok := (fun _ => True)) (by (with_reducible repeat (first | apply Kd.R_alloc | apply Kd.R_drewN | apply Kd.R_drew)); exact Kd.R_mono HO_5.out (fun _ hk => ⟨trivial, hk⟩)) hg (.inl rfl)); have n1_ := Aside0.mk (hp_); have n2_ := Aside0.mk ((by rw [hw]; exact below_set (HB.out) GB32.out : Below w.heap.size w w35)); clear HO_5; clear HO_7; clear HB; have HO_5 := n0_; have HO_7 := n1_; have HB := n2_; clear n0_ n1_ n2_; clear hg hw hp_))
                                            go_roundg k3
                                            case measure => have := HK1.out; have := HK2.out; have := HK3.out; omega
                                            case rel => exact ⟨(y829), (wrap64 (x8_2 + 1)), (by first | rfl | (simp; done) | (simp [*]; done)), H', ⟨by have := HK1.out; have := HK2.out; have := HK3.out; omega⟩, ⟨by (with_reducible repeat (first | apply Kd.R_alloc | apply Kd.R_drewN | apply Kd.R_drew)); exact Kd.R_mono HO_5.out (fun _ hk => hk.2)⟩, ⟨by (with_reducible repeat (first | apply Kd.R_alloc | apply Kd.R_drewN | apply Kd.R_drew)); exact HO_7.out⟩, ⟨by repeat (first | (with_reducible first | exact HB.out | apply below_alloc | apply pw_below_drewN | apply below_drew1) | exact HB.out)⟩⟩
                                          · rw [if_neg c31] at H
                                            exact absurd H (by simp)
                                        · rw [if_neg c30] at H
                                          exact absurd H (by simp)
                                      · replace c29 := Bool.eq_false_iff.mpr c29
                                        subst c29
                                        have H1 : (numnahref03_Gaps.l1 k3 a0 x5_1 x7_2 (wrap64 (x8_2 + 1))) = some r := by rw [if_neg (show ¬ (false = true) by decide)] at H; exact H
                                        clear H
                                        have H := H1
                                        clear H1
                                        have H' := Aside0.mk H
                                        clear H
                                        obtain ⟨Ao36, co36, eo36⟩ := Kd.R_slice HO_5.out
                                        subst eo36
                                        have p827 : 0 ≤ ((ji21) : Int) := of_decide_eq_true (by first | (with_reducible assumption) | assumption)
                                        have q827 : (ji21) < (x5_1.length : Int) := of_decide_eq_true (by first | (with_reducible assumption) | assumption)
                                        obtain ⟨ad827, e827, hx827_0⟩ := Kd.at_bool (Kd.R_reads' HO_5.out).2.2 (ji21) p827 q827
                                        (try rw [← Nbq24.out] at hx827_0)
                                        (try rw [← Nbq28.out] at hx827_0)
                                        cases e827
                                        replace p827 := eq_true p827
                                        replace q827 := eq_true q827
                                        have p828 : 0 ≤ (x8_2 : Int) := of_decide_eq_true (by first | (with_reducible assumption) | assumption)
                                        have q828 : x8_2 < (x5_1.length : Int) := of_decide_eq_true (by first | (with_reducible assumption) | assumption)
                                        obtain ⟨ad828, e828, hx828_0⟩ := Kd.at_bool (Kd.R_reads' HO_5.out).2.2 x8_2 p828 q828
                                        (try rw [← Nbq24.out] at hx828_0)
                                        (try rw [← Nbq28.out] at hx828_0)
                                        obtain rfl : ad827 = ad828 := (by injection e828)
                                        replace p828 := eq_true p828
                                        replace q828 := eq_true q828
                                        go_wp2
                                        go_roundg k3
                                        case measure => have := HK1.out; have := HK2.out; have := HK3.out; omega
                                        case rel => exact ⟨(x7_2), (wrap64 (x8_2 + 1)), (by first | rfl | (simp; done) | (simp [*]; done)), H', ⟨by have := HK1.out; have := HK2.out; have := HK3.out; omega⟩, ⟨by (with_reducible repeat (first | apply Kd.R_alloc | apply Kd.R_drewN | apply Kd.R_drew)); exact HO_5.out⟩, ⟨by (with_reducible repeat (first | apply Kd.R_alloc | apply Kd.R_drewN | apply Kd.R_drew)); exact HO_7.out⟩, ⟨by repeat (first | (with_reducible first | exact HB.out | apply below_alloc | apply pw_below_drewN | apply below_drew1) | exact HB.out)⟩⟩
                                    · rw [if_neg c27] at H
                                      exact absurd H (by simp)
                                  · rw [if_neg c26] at H
                                    exact absurd H (by simp)
                                · replace c25 := Bool.eq_false_iff.mpr c25
                                  subst c25
                                  have H1 : (if x9_3 < a0 then (numnahref03_Gaps.l2 k3 a0 x5_1 x7_2 x8_2 (wrap64 (x9_3 + 1))) else (if 0 ≤ x8_2 then (if x8_2 < (x5_1.length : Int) then (if rdOf false x5_1 x8_2 = true then (if 0 ≤ x9_3 then (if x9_3 < (x7_2.length : Int) then (numnahref03_Gaps.l1 k3 a0 x5_1 (x7_2.set (x9_3 : Int).toNat true) (wrap64 (x8_2 + 1))) else (none)) else (none)) else (numnahref03_Gaps.l1 k3 a0 x5_1 x7_2 (wrap64 (x8_2 + 1)))) else (none)) else (none))) = some r := by rw [if_neg (show ¬ (false = true) by decide)] at H; exact H
                                  clear H
                                  have H := H1
                                  clear H1
                                  by_cases c37 : x9_3 < a0
                                  · rw [if_pos c37] at H
                                    have c37b0 : decide (x9_3 < a0) = true := decide_eq_true c37
                                    clear c37
                                    have H' := Aside0.mk H
                                    clear H
                                    obtain ⟨Ao38, co38, eo38⟩ := Kd.R_slice HO_5.out
                                    subst eo38
                                    have p827 : 0 ≤ ((ji21) : Int) := of_decide_eq_true (by first | (with_reducible assumption) | assumption)
                                    have q827 : (ji21) < (x5_1.length : Int) := of_decide_eq_true (by first | (with_reducible assumption) | assumption)
                                    obtain ⟨ad827, e827, hx827_0⟩ := Kd.at_bool (Kd.R_reads' HO_5.out).2.2 (ji21) p827 q827
                                    (try rw [← Nbq24.out] at hx827_0)
                                    cases e827
                                    replace p827 := eq_true p827
                                    replace q827 := eq_true q827
                                    go_wp2
                                    go_roundg k3
                                    case measure => have := HK1.out; have := HK2.out; have := HK3.out; omega
                                    case rel => exact ⟨(wrap64 (x9_3 + 1)), (by first | rfl | (simp; done) | (simp [*]; done)), H', ⟨by have := HK1.out; have := HK2.out; have := HK3.out; omega⟩, ⟨by (with_reducible repeat (first | apply Kd.R_alloc | apply Kd.R_drewN | apply Kd.R_drew)); exact HO_5.out⟩, ⟨by (with_reducible repeat (first | apply Kd.R_alloc | apply Kd.R_drewN | apply Kd.R_drew)); exact HO_7.out⟩, ⟨by repeat (first | (with_reducible first | exact HB.out | apply below_alloc | apply pw_below_drewN | apply below_drew1) | exact HB.out)⟩⟩
                                  · rw [if_neg c37] at H
                                    have c37b0 : decide (x9_3 < a0) = false := decide_eq_false c37
                                    clear c37
                                    by_cases c39 : 0 ≤ x8_2
                                    · rw [if_pos c39] at H
                                      have c39b0 : decide (0 ≤ x8_2) = true := decide_eq_true c39
                                      clear c39
                                      by_cases c40 : x8_2 < (x5_1.length : Int)
                                      · rw [if_pos c40] at H
                                        have c40b0 : decide (x8_2 < (x5_1.length : Int)) = true := decide_eq_true c40
                                        clear c40
                                        obtain ⟨bq41, hbq41⟩ : ∃ b_ : Bool, b_ = (rdOf false x5_1 x8_2) := ⟨_, rfl⟩
                                        replace H : (if bq41 = true then (if 0 ≤ x9_3 then (if x9_3 < (x7_2.length : Int) then (numnahref03_Gaps.l1 k3 a0 x5_1 (x7_2.set (x9_3 : Int).toNat true) (wrap64 (x8_2 + 1))) else (none)) else (none)) else (numnahref03_Gaps.l1 k3 a0 x5_1 x7_2 (wrap64 (x8_2 + 1)))) = some r := by rw [← hbq41] at H; exact H
                                        have Nbq41 := Aside0.mk hbq41
                                        clear hbq41
                                        by_cases c42 : bq41 = true
                                        · subst c42
                                          have H1 : (if 0 ≤ x9_3 then (if x9_3 < (x7_2.length : Int) then (numnahref03_Gaps.l1 k3 a0 x5_1 (x7_2.set (x9_3 : Int).toNat true) (wrap64 (x8_2 + 1))) else (none)) else (none)) = some r := by rw [if_pos rfl] at H; exact H
                                          clear H
                                          have H := H1
                                          clear H1
                                          by_cases c43 : 0 ≤ x9_3
                                          · rw [if_pos c43] at H
                                            have c43b0 : decide (0 ≤ x9_3) = true := decide_eq_true c43
                                            clear c43
                                            by_cases c44 : x9_3 < (x7_2.length : Int)
                                            · rw [if_pos c44] at H
                                              have c44b0 : decide (x9_3 < (x7_2.length : Int)) = true := decide_eq_true c44
                                              clear c44
                                              obtain ⟨y831, hy831⟩ : ∃ y_ : List Bool, y_ = (x7_2.set (x9_3 : Int).toNat true) := ⟨_, rfl⟩
                                              replace H : (numnahref03_Gaps.l1 k3 a0 x5_1 y831 (wrap64 (x8_2 + 1))) = some r := by first | (rw [hy831]; with_reducible exact H) | (have H2_ := (Option.bind_some _ _).symm.trans H; rw [hy831]; with_reducible exact H2_) | (have H2_ := (Option.bind_some _ _).symm.trans H; with_reducible exact H2_) | with_reducible exact H | (rw [hy831]; exact H) | exact H
                                              have Ny831 := Aside0.mk hy831
                                              clear hy831
                                              have H' := Aside0.mk H
                                              clear H
                                              obtain ⟨Ao46, co46, eo46⟩ := Kd.R_slice HO_5.out
                                              subst eo46
                                              have p827 : 0 ≤ ((ji21) : Int) := of_decide_eq_true (by first | (with_reducible assumption) | assumption)
                                              have q827 : (ji21) < (x5_1.length : Int) := of_decide_eq_true (by first | (with_reducible assumption) | assumption)
                                              obtain ⟨ad827, e827, hx827_0⟩ := Kd.at_bool (Kd.R_reads' HO_5.out).2.2 (ji21) p827 q827
                                              (try rw [← Nbq24.out] at hx827_0)
                                              (try rw [← Nbq41.out] at hx827_0)
                                              cases e827
                                              replace p827 := eq_true p827
                                              replace q827 := eq_true q827
                                              have p830 : 0 ≤ (x8_2 : Int) := of_decide_eq_true (by first | (with_reducible assumption) | assumption)
                                              have q830 : x8_2 < (x5_1.length : Int) := of_decide_eq_true (by first | (with_reducible assumption) | assumption)
                                              obtain ⟨ad830, e830, hx830_0⟩ := Kd.at_bool (Kd.R_reads' HO_5.out).2.2 x8_2 p830 q830
                                              (try rw [← Nbq24.out] at hx830_0)
                                              (try rw [← Nbq41.out] at hx830_0)
                                              obtain rfl : ad827 = ad830 := (by injection e830)
                                              replace p830 := eq_true p830
                                              replace q830 := eq_true q830
                                              have p45 : 0 ≤ (x9_3 : Int) := of_decide_eq_true (by first | (with_reducible assumption) | assumption)
                                              have q45 : (x9_3 : Int) < ((x7_2.length : Int) : Int) := of_decide_eq_true (by first | (with_reducible assumption) | assumption)
                                              obtain ⟨go45, co45, eo45, gb45, gl45, cl45, HG45⟩ := Kd.R_form HO_7.out (by omega)
                                              (first | cases eo45 | (injection eo45 with ea_ en_ ec_; (first | subst ea_ | (injection ea_ with ea_; subst ea_)); subst ec_; clear en_))
                                              have GB45 := Aside0.mk gb45
                                              have GG45 := Aside0.mk HG45
                                              clear gb45 gl45 HG45
                                              obtain ⟨hx45_0, hf45_0⟩ := Kd.R_celln false HO_7.out (x9_3 : Int) p45 q45
                                              replace p45 := eq_true p45
                                              replace q45 := eq_true q45
                                              have HP47 := Kd.R_putg HO_7.out (x9_3 : Int) true
                                              go_wp2_with (first | ((with_reducible refine gate_store (t := 4) (p := 56) rfl ?_); refine store_event (t := 4) (p := 56) (v := ?vo_w48) (w1 := (wr.setCell ⟨go45, (x9_3 : Int).toNat, none⟩ (.bool true))) ?hg ?ho ?hn ?hr ?_; (case ho => rfl); (case hg => rfl); (case hn => rfl); (case hr => first | (go_simp; done) | (go_simp; rfl)); intro w48 hw; have hg : wr.grownBy w48 (some go45) := (by rw [hw]; exact HP47.2); have hp_ : Kd.R Kd.bool 4 w48 w.heap.size (fun k_ => some k_ ≠ (.slice (some ad827) x5_1.length co46 : Value).ownBlock) (.slice (some ⟨go45, 0, none⟩) x7_2.length co45) y831 := (by rw [hw, Ny831.out]; exact HP47.1); clear HP47; have n0_ := Aside0.mk (Kd.R_after (v := (.slice (some ⟨go45, 0, none⟩) x7_2.length co45)) (v1 := (.slice (some ⟨go45, 0, none⟩) x7_2.length co45)) (ok := (fun _ => True)) (by (with_reducible repeat (first | apply Kd.R_alloc | apply Kd.R_drewN | apply Kd.R_drew)); exact Kd.R_mono HO_5.out (fun _ hk => ⟨trivial, hk⟩)) hg (.inl rfl)); have n1_ := Aside0.mk (hp_); have n2_ := Aside0.mk ((by rw [hw]; exact below_set (HB.out) GB45.out : Below w.heap.size w w48)); clear HO_5; clear HO_7; clear HB; have HO_5 := n0_; have HO_7 := n1_; have HB := n2_; clear n0_ n1_ n2_; clear hg hw hp_))
                                              go_roundg k3
                                              case measure => have := HK1.out; have := HK2.out; have := HK3.out; omega
                                              case rel => exact ⟨(y831), (wrap64 (x8_2 + 1)), (by first | rfl | (simp; done) | (simp [*]; done)), H', ⟨by have := HK1.out; have := HK2.out; have := HK3.out; omega⟩, ⟨by (with_reducible repeat (first | apply Kd.R_alloc | apply Kd.R_drewN | apply Kd.R_drew)); exact Kd.R_mono HO_5.out (fun _ hk => hk.2)⟩, ⟨by (with_reducible repeat (first | apply Kd.R_alloc | apply Kd.R_drewN | apply Kd.R_drew)); exact HO_7.out⟩, ⟨by repeat (first | (with_reducible first | exact HB.out | apply below_alloc | apply pw_below_drewN | apply below_drew1) | exact HB.out)⟩⟩
                                            · rw [if_neg c44] at H
                                              exact absurd H (by simp)
                                          · rw [if_neg c43] at H
                                            exact absurd H (by simp)
                                        · replace c42 := Bool.eq_false_iff.mpr c42
                                          subst c42
                                          have H1 : (numnahref03_Gaps.l1 k3 a0 x5_1 x7_2 (wrap64 (x8_2 + 1))) = some r := by rw [if_neg (show ¬ (false = true) by decide)] at H; exact H
                                          clear H
                                          have H := H1
                                          clear H1
                                          have H' := Aside0.mk H
                                          clear H
                                          obtain ⟨Ao49, co49, eo49⟩ := Kd.R_slice HO_5.out
                                          subst eo49
                                          have p827 : 0 ≤ ((ji21) : Int) := of_decide_eq_true (by first | (with_reducible assumption) | assumption)
                                          have q827 : (ji21) < (x5_1.length : Int) := of_decide_eq_true (by first | (with_reducible assumption) | assumption)
                                          obtain ⟨ad827, e827, hx827_0⟩ := Kd.at_bool (Kd.R_reads' HO_5.out).2.2 (ji21) p827 q827
                                          (try rw [← Nbq24.out] at hx827_0)
                                          (try rw [← Nbq41.out] at hx827_0)
                                          cases e827
                                          replace p827 := eq_true p827
                                          replace q827 := eq_true q827
                                          have p830 : 0 ≤ (x8_2 : Int) := of_decide_eq_true (by first | (with_reducible assumption) | assumption)
                                          have q830 : x8_2 < (x5_1.length : Int) := of_decide_eq_true (by first | (with_reducible assumption) | assumption)
                                          obtain ⟨ad830, e830, hx830_0⟩ := Kd.at_bool (Kd.R_reads' HO_5.out).2.2 x8_2 p830 q830
                                          (try rw [← Nbq24.out] at hx830_0)
                                          (try rw [← Nbq41.out] at hx830_0)
                                          obtain rfl : ad827 = ad830 := (by injection e830)
                                          replace p830 := eq_true p830
                                          replace q830 := eq_true q830
                                          go_wp2
                                          go_roundg k3
                                          case measure => have := HK1.out; have := HK2.out; have := HK3.out; omega
                                          case rel => exact ⟨(x7_2), (wrap64 (x8_2 + 1)), (by first | rfl | (simp; done) | (simp [*]; done)), H', ⟨by have := HK1.out; have := HK2.out; have := HK3.out; omega⟩, ⟨by (with_reducible repeat (first | apply Kd.R_alloc | apply Kd.R_drewN | apply Kd.R_drew)); exact HO_5.out⟩, ⟨by (with_reducible repeat (first | apply Kd.R_alloc | apply Kd.R_drewN | apply Kd.R_drew)); exact HO_7.out⟩, ⟨by repeat (first | (with_reducible first | exact HB.out | apply below_alloc | apply pw_below_drewN | apply below_drew1) | exact HB.out)⟩⟩
                                      · rw [if_neg c40] at H
                                        exact absurd H (by simp)
                                    · rw [if_neg c39] at H
                                      exact absurd H (by simp)
                              · rw [if_neg c23] at H
                                exact absurd H (by simp)
                            · rw [if_neg c22] at H
                              exact absurd H (by simp)
                    · rw [if_neg c19] at H
                      have c19b0 : decide (x8_2 < a0) = false := decide_eq_false c19
                      clear c19
                      have H' := Aside0.mk H
                      clear H
                      go_wp2
                      go_loopg [10, 11] k2 (fun kq v10 v11 w' => ∃ (x10_3 : List Int) (x11_3 : Int), v11 = .int .i64 x11_3 ∧ Aside0 (numnahref03_Gaps.l3 kq a0 x7_2 x10_3 x11_3 = some r) ∧ Aside0 (kq ≤ k2) ∧ Aside0 (Kd.R Kd.bool 4 w' w.heap.size (fun _ => True) v825 x7_2) ∧ Aside0 (Kd.R (Kd.int .i64) 3 w' w.heap.size (fun _ => True) v10 x10_3) ∧ Aside0 (Below w.heap.size w w'))
                      case atStart => exact ⟨(([] : List Int)), (1), (by first | rfl | (simp; done) | (simp [*]; done)), H', ⟨Nat.le_refl _⟩, ⟨by (with_reducible repeat (first | apply Kd.R_alloc | apply Kd.R_drewN | apply Kd.R_drew)); exact Kd.R_mono HO_7.out (fun _ hk => trivial)⟩, ⟨by first | exact Kd.R_nil _ _ _ _ _ | exact Kd.N_nil _ _ _ _ _ | exact Kd.V_nil _ _ _ _ _ | exact Kd.Q_nil _ _ _ _ _ | exact Kd.S_nil _ _ _ _ _⟩, ⟨by repeat (first | (with_reducible first | exact HB.out | apply below_alloc | apply pw_below_drewN | apply below_drew1) | exact HB.out)⟩⟩
                      case round =>
                        clear H'
                        try clear c1
                        try clear p1
                        try clear q1
                        try clear hx1
                        try clear c2
                        try clear p2
                        try clear q2
                        try clear c3
                        try clear c3b0
                        try clear c3b1
                        try clear p3
                        try clear q3
                        try clear hx3
                        try clear hf3
                        try clear c4
                        try clear c4b0
                        try clear c4b1
                        try clear p4
                        try clear q4
                        try clear hx4
                        try clear hf4
                        try clear c5
                        try clear p6
                        try clear c7
                        try clear c7b0
                        try clear c8
                        try clear c8b0
                        try clear p8
                        try clear q8
                        try clear hx8
                        try clear c9
                        try clear c9b0
                        try clear c10
                        try clear c10b0
                        try clear p11
                        try clear q11
                        try clear hx11
                        try clear hf11
                        try clear c15
                        try clear c15b0
                        try clear c15b1
                        try clear c16
                        try clear c16b0
                        try clear c16b1
                        try clear c19
                        try clear c19b0
                        try clear c20
                        try clear c20b0
                        try clear c20b1
                        try clear c22
                        try clear c22b0
                        try clear c23
                        try clear c23b0
                        try clear q24
                        try clear c25
                        try clear c26
                        try clear c26b0
                        try clear c27
                        try clear c27b0
                        try clear q28
                        try clear c29
                        try clear c30
                        try clear c30b0
                        try clear c31
                        try clear c31b0
                        try clear p32
                        try clear q32
                        try clear hx32
                        try clear hf32
                        try clear c37
                        try clear c37b0
                        try clear c39
                        try clear c39b0
                        try clear c40
                        try clear c40b0
                        try clear q41
                        try clear c42
                        try clear c43
                        try clear c43b0
                        try clear c44
                        try clear c44b0
                        try clear p45
                        try clear q45
                        try clear hx45
                        try clear hf45
                        try clear hx11_0
                        try clear hx32_0
                        try clear hx45_0
                        try clear hx822_0
                        try clear hx827_0
                        try clear hx828_0
                        try clear hx830_0
                        try clear p1
                        try clear p11
                        try clear p2
                        try clear p32
                        try clear p45
                        try clear p6
                        try clear p8
                        try clear p822
                        try clear p827
                        try clear p828
                        try clear p830
                        try clear q1
                        try clear q11
                        try clear q32
                        try clear q45
                        try clear q8
                        try clear q822
                        try clear q827
                        try clear q828
                        try clear q830
                        obtain ⟨x10_3, x11_3, rfl, HA, HK3, HO_7, HO_10, HB⟩ := hrel
                        cases gk with
                        | zero => exact absurd HA.out (by simp [numnahref03_Gaps.l3])
                        | succ k3 =>
                          have H := HA.out
                          clear HA
                          simp only [numnahref03_Gaps.l3] at H
                          by_cases c50 : x11_3 ≤ a0
                          · rw [if_pos c50] at H
                            have c50b0 : decide (x11_3 ≤ a0) = true := decide_eq_true c50
                            clear c50
                            by_cases c51 : 0 ≤ x11_3
                            · rw [if_pos c51] at H
                              have c51b0 : decide (0 ≤ x11_3) = true := decide_eq_true c51
                              clear c51
                              by_cases c52 : x11_3 < (x7_2.length : Int)
                              · rw [if_pos c52] at H
                                have c52b0 : decide (x11_3 < (x7_2.length : Int)) = true := decide_eq_true c52
                                clear c52
                                obtain ⟨bq53, hbq53⟩ : ∃ b_ : Bool, b_ = (rdOf false x7_2 x11_3) := ⟨_, rfl⟩
                                replace H : (if bq53 = true then (if x10_3.length < 17592186044416 then (numnahref03_Gaps.l3 k3 a0 x7_2 (x10_3 ++ [x11_3]) (wrap64 (x11_3 + 1))) else (none)) else (numnahref03_Gaps.l3 k3 a0 x7_2 x10_3 (wrap64 (x11_3 + 1)))) = some r := by rw [← hbq53] at H; exact H
                                have Nbq53 := Aside0.mk hbq53
                                clear hbq53
                                by_cases c54 : bq53 = true
                                · subst c54
                                  have H1 : (if x10_3.length < 17592186044416 then (numnahref03_Gaps.l3 k3 a0 x7_2 (x10_3 ++ [x11_3]) (wrap64 (x11_3 + 1))) else (none)) = some r := by rw [if_pos rfl] at H; exact H
                                  clear H
                                  have H := H1
                                  clear H1
                                  by_cases c55 : x10_3.length < 17592186044416
                                  · rw [if_pos c55] at H
                                    have LMc55 := Aside0.mk c55
                                    clear c55
                                    obtain ⟨y833, hy833⟩ : ∃ y_ : List Int, y_ = (x10_3 ++ [x11_3]) := ⟨_, rfl⟩
                                    replace H : (numnahref03_Gaps.l3 k3 a0 x7_2 y833 (wrap64 (x11_3 + 1))) = some r := by first | (rw [hy833]; with_reducible exact H) | (have H2_ := (Option.bind_some _ _).symm.trans H; rw [hy833]; with_reducible exact H2_) | (have H2_ := (Option.bind_some _ _).symm.trans H; with_reducible exact H2_) | with_reducible exact H | (rw [hy833]; exact H) | exact H
                                    have Ny833 := Aside0.mk hy833
                                    clear hy833
                                    have H' := Aside0.mk H
                                    clear H
                                    obtain ⟨Ao56, co56, eo56⟩ := Kd.R_slice HO_7.out
                                    subst eo56
                                    have p832 : 0 ≤ (x11_3 : Int) := of_decide_eq_true (by first | (with_reducible assumption) | assumption)
                                    have q832 : x11_3 < (x7_2.length : Int) := of_decide_eq_true (by first | (with_reducible assumption) | assumption)
                                    obtain ⟨ad832, e832, hx832_0⟩ := Kd.at_bool (Kd.R_reads' HO_7.out).2.2 x11_3 p832 q832
                                    (try rw [← Nbq53.out] at hx832_0)
                                    cases e832
                                    replace p832 := eq_true p832
                                    replace q832 := eq_true q832
                                    go_wp2_with (first | ((with_reducible refine gate_builtin (b := .append) (xs := #[.tmp 66, .tmp 68]) rfl ?_); at_builtin; refine Kd.R_append (Kd.int .i64) (w0 := w) w.heap.size rfl (.tmp 66) (.tmp 68) 22 3 (.int .i64 0) 8 rfl Try.underlying22 info3 rfl (by decide) (by omega) u10 x10_3 x11_3 [.int .i64 x11_3] (fun _ => True) (fun _ => False) rfl rfl ?aP (fun _ hk => hk.elim) ?aF ?aO ?aB ?aS ?aL ?_; (case aP => exact rfl); (case aB => exact (by repeat (first | (with_reducible first | exact HB.out | apply below_alloc | apply pw_below_drewN | apply below_drew1) | exact HB.out))); (case aF => exact (fun _ _ => trivial)); (case aO => exact (by (with_reducible repeat (first | apply Kd.R_alloc | apply Kd.R_drewN | apply Kd.R_drew)); exact HO_10.out)); (case aS => exact (below_size (by repeat (first | (with_reducible first | exact HB.out | apply below_alloc | apply pw_below_drewN | apply below_drew1) | exact HB.out)))); (case aL => have := LMc55.out; omega); intro v834 w57 ho hb hg hat; rw [← Ny833.out] at ho; have n0_ := Aside0.mk (Kd.R_over' (by (with_reducible repeat (first | apply Kd.R_alloc | apply Kd.R_drewN | apply Kd.R_drew)); exact HO_7.out) (Kd.R_typed (by (with_reducible repeat (first | apply Kd.R_alloc | apply Kd.R_drewN | apply Kd.R_drew)); exact HO_10.out)) (by decide) hg); have n1_ := Aside0.mk (hb); have n2_ := Aside0.mk (ho); clear HO_7; clear HB; clear HO_10; have HO_7 := n0_; have HB := n1_; have HO835 := n2_; clear n0_ n1_ n2_; clear ho hb hg hat))
                                    go_roundg k3
                                    case measure => have := HK1.out; have := HK2.out; have := HK3.out; omega
                                    case rel => exact ⟨(y833), (wrap64 (x11_3 + 1)), (by first | rfl | (simp; done) | (simp [*]; done)), H', ⟨by have := HK1.out; have := HK2.out; have := HK3.out; omega⟩, ⟨by (with_reducible repeat (first | apply Kd.R_alloc | apply Kd.R_drewN | apply Kd.R_drew)); exact HO_7.out⟩, ⟨by (with_reducible repeat (first | apply Kd.R_alloc | apply Kd.R_drewN | apply Kd.R_drew)); exact HO835.out⟩, ⟨by repeat (first | (with_reducible first | exact HB.out | apply below_alloc | apply pw_below_drewN | apply below_drew1) | exact HB.out)⟩⟩
                                  · rw [if_neg c55] at H
                                    exact absurd H (by simp)
                                · replace c54 := Bool.eq_false_iff.mpr c54
                                  subst c54
                                  have H1 : (numnahref03_Gaps.l3 k3 a0 x7_2 x10_3 (wrap64 (x11_3 + 1))) = some r := by rw [if_neg (show ¬ (false = true) by decide)] at H; exact H
                                  clear H
                                  have H := H1
                                  clear H1
                                  have H' := Aside0.mk H
                                  clear H
                                  obtain ⟨Ao58, co58, eo58⟩ := Kd.R_slice HO_7.out
                                  subst eo58
                                  have p832 : 0 ≤ (x11_3 : Int) := of_decide_eq_true (by first | (with_reducible assumption) | assumption)
                                  have q832 : x11_3 < (x7_2.length : Int) := of_decide_eq_true (by first | (with_reducible assumption) | assumption)
                                  obtain ⟨ad832, e832, hx832_0⟩ := Kd.at_bool (Kd.R_reads' HO_7.out).2.2 x11_3 p832 q832
                                  (try rw [← Nbq53.out] at hx832_0)
                                  cases e832
                                  replace p832 := eq_true p832
                                  replace q832 := eq_true q832
                                  go_wp2
                                  go_roundg k3
                                  case measure => have := HK1.out; have := HK2.out; have := HK3.out; omega
                                  case rel => exact ⟨(x10_3), (wrap64 (x11_3 + 1)), (by first | rfl | (simp; done) | (simp [*]; done)), H', ⟨by have := HK1.out; have := HK2.out; have := HK3.out; omega⟩, ⟨by (with_reducible repeat (first | apply Kd.R_alloc | apply Kd.R_drewN | apply Kd.R_drew)); exact HO_7.out⟩, ⟨by (with_reducible repeat (first | apply Kd.R_alloc | apply Kd.R_drewN | apply Kd.R_drew)); exact HO_10.out⟩, ⟨by repeat (first | (with_reducible first | exact HB.out | apply below_alloc | apply pw_below_drewN | apply below_drew1) | exact HB.out)⟩⟩
                              · rw [if_neg c52] at H
                                exact absurd H (by simp)
                            · rw [if_neg c51] at H
                              exact absurd H (by simp)
                          · rw [if_neg c50] at H
                            have c50b0 : decide (x11_3 ≤ a0) = false := decide_eq_false c50
                            clear c50
                            obtain rfl := Option.some.inj H
                            go_wp2
                            go_ret
                            exact ⟨_, by first | rfl | (simp [errW_none, errW_some] <;> rfl) | (simp only [← hji14]; first | rfl | (simp [errW_none, errW_some] <;> rfl)) | (simp [*, errW_none, errW_some] <;> rfl), by (with_reducible repeat (first | apply Kd.R_alloc | apply Kd.R_drewN | apply Kd.R_drew)); exact HO_10.out, by repeat (first | (with_reducible first | exact HB.out | apply below_alloc | apply pw_below_drewN | apply below_drew1) | exact HB.out)⟩
              · rw [if_neg c16] at H
                exact absurd H (by simp)
            · rw [if_neg c15] at H
              exact absurd H (by simp)
    · rw [if_neg c4] at H
      exact absurd H (by simp)
  · rw [if_neg c3] at H
    exact absurd H (by simp)

end Go.Proofs.Ythngclneffngbaa.Pr
