-- Laid by wip/tools/inj.py of this project, which drives the kit's printer. Lean checks it.
import Derived.Test.YtpeeflkodpnbpaaDoorPr0
import Derived.Test.YtpeeflkodpnbpaaDoorHEarl
import Derived.Test.YtpeeflkodpnbpaaDoorPrA23
import Derived.Test.YtpeeflkodpnbpaaDoorPrB18
import Derived.Test.YtpeeflkodpnbpaaDoorPrB19
import Derived.Test.YtpeeflkodpnbpaaDoorPrB24
namespace Go.Proofs.YtpeeflkodpnbpaaDoor.Pr
open Go.RowKit Go.Proofs.YtpeeflkodpnbpaaDoorW.PrintWords Go.Proofs.YtpeeflkodpnbpaaDoorW.PrintLast Go.Proofs.YtpeeflkodpnbpaaDoorW.PrintMore
attribute [local go_sem] max2_int min2_int max_two min_two max_three min_three max_four min_four   -- for this text's walks alone
set_option linter.unusedVariables false
set_option linter.unusedSimpArgs false

/-! ### numnahlaw09_ParseBack: function 14 -/
mutual
def numnahlaw09_ParseBack.l0 : Nat → ByteArray → List (S63) → ByteArray → Int → Int → Option (Bool)
  | 0, _, _, _, _, _ => none
  | k + 1, x3, x4, x6, x7, x8 => if x8 < (x4.length : Int) then (if 0 ≤ x8 then (if ((rd_T63 x4 x8).f0) < 0 then (numnahlaw09_ParseBack.j1 k x3 x4 x6 x7 x8 true) else (if ((rd_T63 x4 x8).f0) > x8 then (numnahlaw09_ParseBack.j1 k x3 x4 x6 x7 x8 true) else (if ((rd_T63 x4 x8).f1) < 1 then (numnahlaw09_ParseBack.j1 k x3 x4 x6 x7 x8 true) else (numnahlaw09_ParseBack.j1 k x3 x4 x6 x7 x8 (decide (((rd_T63 x4 x8).f1) > (wrap64 ((x3.size : Int) - x7)))))))) else (none)) else ((parse_Unlearn.f k x4 x6).bind fun bt701 => (if bt701.2 = 0 then (if bt701.1.toList = x3.toList then (if x7 = (x3.size : Int) then ((numnahlaw09_awake.f k).bind fun t703 => (some t703)) else (some false)) else (some false)) else (some false)))
def numnahlaw09_ParseBack.j1 : Nat → ByteArray → List (S63) → ByteArray → Int → Int → Bool → Option (Bool)
  | 0, _, _, _, _, _, _ => none
  | k + 1, x3, x4, x6, x7, x8, x62 => if x62 = true then (some false) else (if 0 ≤ x8 then (if x8 < (x4.length : Int) then (if ((rd_T63 x4 x8).f0) > 0 then (if 0 ≤ (wrap64 (((rd_T63 x4 x8).f0) - 1)) then (if (wrap64 (((rd_T63 x4 x8).f0) - 1)) < (x4.length : Int) then (numnahlaw09_ParseBack.j2 k x3 x4 x6 x7 x8 ((rd_T63 x4 (wrap64 (((rd_T63 x4 x8).f0) - 1))).f1)) else (none)) else (none)) else (numnahlaw09_ParseBack.j2 k x3 x4 x6 x7 x8 0)) else (none)) else (none))
def numnahlaw09_ParseBack.j2 : Nat → ByteArray → List (S63) → ByteArray → Int → Int → Int → Option (Bool)
  | 0, _, _, _, _, _, _ => none
  | k + 1, x3, x4, x6, x7, x8, x9 => if 0 ≤ x8 then (if x8 < (x4.length : Int) then (if ((rd_T63 x4 x8).f1) = (wrap64 (x9 + 1)) then (if 0 ≤ (wrap64 ((wrap64 (x7 + ((rd_T63 x4 x8).f1))) - 1)) then (if (wrap64 ((wrap64 (x7 + ((rd_T63 x4 x8).f1))) - 1)) ≤ (wrap64 (x7 + ((rd_T63 x4 x8).f1))) then (if (wrap64 (x7 + ((rd_T63 x4 x8).f1))) ≤ (x3.size : Int) then (if x6.size + (x3.extract ((wrap64 ((wrap64 (x7 + ((rd_T63 x4 x8).f1))) - 1)) : Int).toNat ((wrap64 (x7 + ((rd_T63 x4 x8).f1))) : Int).toNat).size ≤ 9223372036854775807 then (numnahlaw09_ParseBack.l1 k x3 x4 (x6 ++ (x3.extract ((wrap64 ((wrap64 (x7 + ((rd_T63 x4 x8).f1))) - 1)) : Int).toNat ((wrap64 (x7 + ((rd_T63 x4 x8).f1))) : Int).toNat)) (wrap64 (x7 + ((rd_T63 x4 x8).f1))) x8 0) else (none)) else (none)) else (none)) else (none)) else (some false)) else (none)) else (none)
def numnahlaw09_ParseBack.l1 : Nat → ByteArray → List (S63) → ByteArray → Int → Int → Int → Option (Bool)
  | 0, _, _, _, _, _, _ => none
  | k + 1, x3, x4, x6, x7, x8, x10 => if x10 < x8 then (numnahlaw09_ParseBack.j4 k x3 x4 x6 x7 x8 x10 (decide ((wrap64 (x8 + 1)) < (x4.length : Int)))) else (numnahlaw09_ParseBack.j4 k x3 x4 x6 x7 x8 x10 false)
def numnahlaw09_ParseBack.j4 : Nat → ByteArray → List (S63) → ByteArray → Int → Int → Int → Bool → Option (Bool)
  | 0, _, _, _, _, _, _, _ => none
  | k + 1, x3, x4, x6, x7, x8, x10, x110 => if x110 = true then (if 0 ≤ x10 then (if x10 < (x4.length : Int) then (if 0 ≤ x8 then (if x8 < (x4.length : Int) then (if ((rd_T63 x4 x10).f0) = ((rd_T63 x4 x8).f0) then (if x10 < (x6.size : Int) then (if x8 < (x6.size : Int) then (if (bt x6 x10) = (bt x6 x8) then (some false) else (numnahlaw09_ParseBack.l1 k x3 x4 x6 x7 x8 (wrap64 (x10 + 1)))) else (none)) else (none)) else (numnahlaw09_ParseBack.l1 k x3 x4 x6 x7 x8 (wrap64 (x10 + 1)))) else (none)) else (none)) else (none)) else (none)) else (numnahlaw09_ParseBack.l0 k x3 x4 x6 x7 (wrap64 (x8 + 1)))
end
def numnahlaw09_ParseBack.f (k : Nat) (a0 : ByteArray) : Option (Bool) := (numnahlaw09_tame.f k a0 160).bind fun t696 => ((parse_Learning.f t696).bind fun bt697 => (if bt697.2 = 0 then (numnahlaw09_ParseBack.l0 k t696 bt697.1 (⟨#[]⟩ : ByteArray) 0 0) else (some false)))
theorem numnahlaw09_ParseBack.mono_l : ∀ k, (∀ y0 y1 y2 y3 y4, LeO (numnahlaw09_ParseBack.l0 k y0 y1 y2 y3 y4) (numnahlaw09_ParseBack.l0 (k + 1) y0 y1 y2 y3 y4)) ∧ (∀ y0 y1 y2 y3 y4 y5, LeO (numnahlaw09_ParseBack.j1 k y0 y1 y2 y3 y4 y5) (numnahlaw09_ParseBack.j1 (k + 1) y0 y1 y2 y3 y4 y5)) ∧ (∀ y0 y1 y2 y3 y4 y5, LeO (numnahlaw09_ParseBack.j2 k y0 y1 y2 y3 y4 y5) (numnahlaw09_ParseBack.j2 (k + 1) y0 y1 y2 y3 y4 y5)) ∧ (∀ y0 y1 y2 y3 y4 y5, LeO (numnahlaw09_ParseBack.l1 k y0 y1 y2 y3 y4 y5) (numnahlaw09_ParseBack.l1 (k + 1) y0 y1 y2 y3 y4 y5)) ∧ (∀ y0 y1 y2 y3 y4 y5 y6, LeO (numnahlaw09_ParseBack.j4 k y0 y1 y2 y3 y4 y5 y6) (numnahlaw09_ParseBack.j4 (k + 1) y0 y1 y2 y3 y4 y5 y6))
  | 0 => ⟨fun _ _ _ _ _ r h => by simp [numnahlaw09_ParseBack.l0] at h, fun _ _ _ _ _ _ r h => by simp [numnahlaw09_ParseBack.j1] at h, fun _ _ _ _ _ _ r h => by simp [numnahlaw09_ParseBack.j2] at h, fun _ _ _ _ _ _ r h => by simp [numnahlaw09_ParseBack.l1] at h, fun _ _ _ _ _ _ _ r h => by simp [numnahlaw09_ParseBack.j4] at h⟩
  | k + 1 => by
    obtain ⟨ih0, ih1, ih2, ih3, ih4⟩ := numnahlaw09_ParseBack.mono_l k
    refine ⟨?_, ?_, ?_, ?_, ?_⟩
    · intro y0 y1 y2 y3 y4
      unfold numnahlaw09_ParseBack.l0
      repeat' first
      | (with_reducible exact ih0 _ _ _ _ _)
      | (with_reducible exact ih1 _ _ _ _ _ _)
      | (with_reducible exact ih2 _ _ _ _ _ _)
      | (with_reducible exact ih3 _ _ _ _ _ _)
      | (with_reducible exact ih4 _ _ _ _ _ _ _)
      | (with_reducible exact numnahlaw09_awake.mono _)
      | (with_reducible exact numnahlaw09_tame.mono _ _ _)
      | (with_reducible exact parse_Unlearn.mono _ _ _)
      | (with_reducible exact LeO.refl _)
      | (with_reducible exact LeO.none _)
      | (with_reducible refine LeO.ite ?_ ?_)
      | (with_reducible refine LeO.bind ?_ (fun _ => ?_))
      | exact ih0 _ _ _ _ _
      | exact ih1 _ _ _ _ _ _
      | exact ih2 _ _ _ _ _ _
      | exact ih3 _ _ _ _ _ _
      | exact ih4 _ _ _ _ _ _ _
      | exact numnahlaw09_awake.mono _
      | exact numnahlaw09_tame.mono _ _ _
      | exact parse_Unlearn.mono _ _ _
      | exact LeO.none _
      | refine LeO.ite ?_ ?_
      | refine LeO.bind ?_ (fun _ => ?_)
    · intro y0 y1 y2 y3 y4 y5
      unfold numnahlaw09_ParseBack.j1
      repeat' first
      | (with_reducible exact ih0 _ _ _ _ _)
      | (with_reducible exact ih1 _ _ _ _ _ _)
      | (with_reducible exact ih2 _ _ _ _ _ _)
      | (with_reducible exact ih3 _ _ _ _ _ _)
      | (with_reducible exact ih4 _ _ _ _ _ _ _)
      | (with_reducible exact numnahlaw09_awake.mono _)
      | (with_reducible exact numnahlaw09_tame.mono _ _ _)
      | (with_reducible exact parse_Unlearn.mono _ _ _)
      | (with_reducible exact LeO.refl _)
      | (with_reducible exact LeO.none _)
      | (with_reducible refine LeO.ite ?_ ?_)
      | (with_reducible refine LeO.bind ?_ (fun _ => ?_))
      | exact ih0 _ _ _ _ _
      | exact ih1 _ _ _ _ _ _
      | exact ih2 _ _ _ _ _ _
      | exact ih3 _ _ _ _ _ _
      | exact ih4 _ _ _ _ _ _ _
      | exact numnahlaw09_awake.mono _
      | exact numnahlaw09_tame.mono _ _ _
      | exact parse_Unlearn.mono _ _ _
      | exact LeO.none _
      | refine LeO.ite ?_ ?_
      | refine LeO.bind ?_ (fun _ => ?_)
    · intro y0 y1 y2 y3 y4 y5
      unfold numnahlaw09_ParseBack.j2
      repeat' first
      | (with_reducible exact ih0 _ _ _ _ _)
      | (with_reducible exact ih1 _ _ _ _ _ _)
      | (with_reducible exact ih2 _ _ _ _ _ _)
      | (with_reducible exact ih3 _ _ _ _ _ _)
      | (with_reducible exact ih4 _ _ _ _ _ _ _)
      | (with_reducible exact numnahlaw09_awake.mono _)
      | (with_reducible exact numnahlaw09_tame.mono _ _ _)
      | (with_reducible exact parse_Unlearn.mono _ _ _)
      | (with_reducible exact LeO.refl _)
      | (with_reducible exact LeO.none _)
      | (with_reducible refine LeO.ite ?_ ?_)
      | (with_reducible refine LeO.bind ?_ (fun _ => ?_))
      | exact ih0 _ _ _ _ _
      | exact ih1 _ _ _ _ _ _
      | exact ih2 _ _ _ _ _ _
      | exact ih3 _ _ _ _ _ _
      | exact ih4 _ _ _ _ _ _ _
      | exact numnahlaw09_awake.mono _
      | exact numnahlaw09_tame.mono _ _ _
      | exact parse_Unlearn.mono _ _ _
      | exact LeO.none _
      | refine LeO.ite ?_ ?_
      | refine LeO.bind ?_ (fun _ => ?_)
    · intro y0 y1 y2 y3 y4 y5
      unfold numnahlaw09_ParseBack.l1
      repeat' first
      | (with_reducible exact ih0 _ _ _ _ _)
      | (with_reducible exact ih1 _ _ _ _ _ _)
      | (with_reducible exact ih2 _ _ _ _ _ _)
      | (with_reducible exact ih3 _ _ _ _ _ _)
      | (with_reducible exact ih4 _ _ _ _ _ _ _)
      | (with_reducible exact numnahlaw09_awake.mono _)
      | (with_reducible exact numnahlaw09_tame.mono _ _ _)
      | (with_reducible exact parse_Unlearn.mono _ _ _)
      | (with_reducible exact LeO.refl _)
      | (with_reducible exact LeO.none _)
      | (with_reducible refine LeO.ite ?_ ?_)
      | (with_reducible refine LeO.bind ?_ (fun _ => ?_))
      | exact ih0 _ _ _ _ _
      | exact ih1 _ _ _ _ _ _
      | exact ih2 _ _ _ _ _ _
      | exact ih3 _ _ _ _ _ _
      | exact ih4 _ _ _ _ _ _ _
      | exact numnahlaw09_awake.mono _
      | exact numnahlaw09_tame.mono _ _ _
      | exact parse_Unlearn.mono _ _ _
      | exact LeO.none _
      | refine LeO.ite ?_ ?_
      | refine LeO.bind ?_ (fun _ => ?_)
    · intro y0 y1 y2 y3 y4 y5 y6
      unfold numnahlaw09_ParseBack.j4
      repeat' first
      | (with_reducible exact ih0 _ _ _ _ _)
      | (with_reducible exact ih1 _ _ _ _ _ _)
      | (with_reducible exact ih2 _ _ _ _ _ _)
      | (with_reducible exact ih3 _ _ _ _ _ _)
      | (with_reducible exact ih4 _ _ _ _ _ _ _)
      | (with_reducible exact numnahlaw09_awake.mono _)
      | (with_reducible exact numnahlaw09_tame.mono _ _ _)
      | (with_reducible exact parse_Unlearn.mono _ _ _)
      | (with_reducible exact LeO.refl _)
      | (with_reducible exact LeO.none _)
      | (with_reducible refine LeO.ite ?_ ?_)
      | (with_reducible refine LeO.bind ?_ (fun _ => ?_))
      | exact ih0 _ _ _ _ _
      | exact ih1 _ _ _ _ _ _
      | exact ih2 _ _ _ _ _ _
      | exact ih3 _ _ _ _ _ _
      | exact ih4 _ _ _ _ _ _ _
      | exact numnahlaw09_awake.mono _
      | exact numnahlaw09_tame.mono _ _ _
      | exact parse_Unlearn.mono _ _ _
      | exact LeO.none _
      | refine LeO.ite ?_ ?_
      | refine LeO.bind ?_ (fun _ => ?_)
theorem numnahlaw09_ParseBack.mono : ∀ a0 k, LeO (numnahlaw09_ParseBack.f k a0) (numnahlaw09_ParseBack.f (k + 1) a0) := by
  intro a0 k
  obtain ⟨ih0, ih1, ih2, ih3, ih4⟩ := numnahlaw09_ParseBack.mono_l k
  unfold numnahlaw09_ParseBack.f
  repeat' first
      | (with_reducible exact ih0 _ _ _ _ _)
      | (with_reducible exact ih1 _ _ _ _ _ _)
      | (with_reducible exact ih2 _ _ _ _ _ _)
      | (with_reducible exact ih3 _ _ _ _ _ _)
      | (with_reducible exact ih4 _ _ _ _ _ _ _)
      | (with_reducible exact numnahlaw09_awake.mono _)
      | (with_reducible exact numnahlaw09_tame.mono _ _ _)
      | (with_reducible exact parse_Unlearn.mono _ _ _)
      | (with_reducible exact LeO.refl _)
      | (with_reducible exact LeO.none _)
      | (with_reducible refine LeO.ite ?_ ?_)
      | (with_reducible refine LeO.bind ?_ (fun _ => ?_))
      | exact ih0 _ _ _ _ _
      | exact ih1 _ _ _ _ _ _
      | exact ih2 _ _ _ _ _ _
      | exact ih3 _ _ _ _ _ _
      | exact ih4 _ _ _ _ _ _ _
      | exact numnahlaw09_awake.mono _
      | exact numnahlaw09_tame.mono _ _ _
      | exact parse_Unlearn.mono _ _ _
      | exact LeO.none _
      | refine LeO.ite ?_ ?_
      | refine LeO.bind ?_ (fun _ => ?_)
set_option maxHeartbeats 8000000 in
set_option maxRecDepth 100000 in
theorem numnahlaw09_ParseBack.calls (k : Nat) (a0 : ByteArray) (r : Bool) (w : World) (hG : GW w) (h : numnahlaw09_ParseBack.f k a0 = some r) :
    Calls Tryd.prog 14 #[.string a0] w fun e w' => e = .returned (.bool r) ∧ Below w.heap.size w w' := by
  have HB := Aside0.mk (Below.refl w.heap.size w)
  have H : ((numnahlaw09_tame.f k a0 160).bind fun t696 => ((parse_Learning.f t696).bind fun bt697 => (if bt697.2 = 0 then (numnahlaw09_ParseBack.l0 k t696 bt697.1 (⟨#[]⟩ : ByteArray) 0 0) else (some false)))) = some r := h
  clear h
  replace H := Option.bind_eq_some_iff.mp H
  obtain ⟨t696, A20, H⟩ := H
  replace H : ((parse_Learning.f t696).bind fun bt697 => (if bt697.2 = 0 then (numnahlaw09_ParseBack.l0 k t696 bt697.1 (⟨#[]⟩ : ByteArray) 0 0) else (some false))) = some r := H
  have A2 := Aside0.mk A20
  clear A20
  replace H := Option.bind_eq_some_iff.mp H
  obtain ⟨⟨t697, t698⟩, A30, H⟩ := H
  replace H : (if t698 = 0 then (numnahlaw09_ParseBack.l0 k t696 t697 (⟨#[]⟩ : ByteArray) 0 0) else (some false)) = some r := H
  have A3 := Aside0.mk A30
  clear A30
  by_cases c4 : t698 = 0
  · rw [if_pos c4] at H
    have c4b0 : (t698 == 0) = true := beq_iff_eq.mpr c4
    have c4b1 : (t698 != 0) = false := bne_eq_false_iff_eq.mpr c4
    clear c4
    have H' := Aside0.mk H
    clear H
    go_enter Tryd.func14, Tryd.ntmps14
    go_wp2_with (first | (go_at_call 29; (with_reducible refine (numnahlaw09_tame.calls k a0 160 t696 _ A2.out).mono ?_); rintro e w5 ⟨rfl, hb⟩; have n0_ := Aside0.mk (below_step (by repeat (first | (with_reducible first | exact HB.out | apply below_alloc | apply pw_below_drewN | apply below_drew1) | exact HB.out)) hb); clear HB; have HB := n0_; clear n0_; (try clear hb); (try clear hb2); (try clear hk); (try clear hi)) | (go_at_call 23; (with_reducible refine (parse_Learning.calls t696 t697 t698 _ A3.out).mono ?_); rintro e w6 ⟨v699, rfl, ho0, hb⟩; have n0_ := Aside0.mk (Kd.R_lower ho0 (below_size (by repeat (first | (with_reducible first | exact HB.out | apply below_alloc | apply pw_below_drewN | apply below_drew1) | exact HB.out)))); have n1_ := Aside0.mk (below_step (by repeat (first | (with_reducible first | exact HB.out | apply below_alloc | apply pw_below_drewN | apply below_drew1) | exact HB.out)) hb); clear HB; have HO700 := n0_; have HB := n1_; clear n0_ n1_; (try clear hb); (try clear hb2); (try clear hk); (try clear hi); (try clear ho0)))
    repeat (go_quiet (first | (go_at_call 29; (with_reducible refine (numnahlaw09_tame.calls k a0 160 t696 _ A2.out).mono ?_); rintro e w5 ⟨rfl, hb⟩; have n0_ := Aside0.mk (below_step (by repeat (first | (with_reducible first | exact HB.out | apply below_alloc | apply pw_below_drewN | apply below_drew1) | exact HB.out)) hb); clear HB; have HB := n0_; clear n0_; (try clear hb); (try clear hb2); (try clear hk); (try clear hi)) | (go_at_call 23; (with_reducible refine (parse_Learning.calls t696 t697 t698 _ A3.out).mono ?_); rintro e w6 ⟨v699, rfl, ho0, hb⟩; have n0_ := Aside0.mk (Kd.R_lower ho0 (below_size (by repeat (first | (with_reducible first | exact HB.out | apply below_alloc | apply pw_below_drewN | apply below_drew1) | exact HB.out)))); have n1_ := Aside0.mk (below_step (by repeat (first | (with_reducible first | exact HB.out | apply below_alloc | apply pw_below_drewN | apply below_drew1) | exact HB.out)) hb); clear HB; have HO700 := n0_; have HB := n1_; clear n0_ n1_; (try clear hb); (try clear hb2); (try clear hk); (try clear hi); (try clear ho0))); try go_wp2_with (first | (go_at_call 29; (with_reducible refine (numnahlaw09_tame.calls k a0 160 t696 _ A2.out).mono ?_); rintro e w5 ⟨rfl, hb⟩; have n0_ := Aside0.mk (below_step (by repeat (first | (with_reducible first | exact HB.out | apply below_alloc | apply pw_below_drewN | apply below_drew1) | exact HB.out)) hb); clear HB; have HB := n0_; clear n0_; (try clear hb); (try clear hb2); (try clear hk); (try clear hi)) | (go_at_call 23; (with_reducible refine (parse_Learning.calls t696 t697 t698 _ A3.out).mono ?_); rintro e w6 ⟨v699, rfl, ho0, hb⟩; have n0_ := Aside0.mk (Kd.R_lower ho0 (below_size (by repeat (first | (with_reducible first | exact HB.out | apply below_alloc | apply pw_below_drewN | apply below_drew1) | exact HB.out)))); have n1_ := Aside0.mk (below_step (by repeat (first | (with_reducible first | exact HB.out | apply below_alloc | apply pw_below_drewN | apply below_drew1) | exact HB.out)) hb); clear HB; have HO700 := n0_; have HB := n1_; clear n0_ n1_; (try clear hb); (try clear hb2); (try clear hk); (try clear hi); (try clear ho0))))
    go_loopg [6, 7, 8] k (fun kq v6 v7 v8 w' => ∃ (x6_1 : ByteArray) (x7_1 : Int) (x8_1 : Int), v6 = .string x6_1 ∧ v7 = .int .i64 x7_1 ∧ v8 = .int .i64 x8_1 ∧ Aside0 (numnahlaw09_ParseBack.l0 kq t696 t697 x6_1 x7_1 x8_1 = some r) ∧ Aside0 (kq ≤ k) ∧ Aside0 (Kd.R k63 63 w' w.heap.size (fun _ => True) v699 t697) ∧ Aside0 (Below w.heap.size w w'))
    case atStart => exact ⟨((⟨#[]⟩ : ByteArray)), (0), (0), (by first | rfl | (simp; done) | (simp [*]; done)), (by first | rfl | (simp; done) | (simp [*]; done)), (by first | rfl | (simp; done) | (simp [*]; done)), H', ⟨Nat.le_refl _⟩, ⟨by (with_reducible repeat (first | apply Kd.R_alloc | apply Kd.R_drewN | apply Kd.R_drew)); exact HO700.out⟩, ⟨by repeat (first | (with_reducible first | exact HB.out | apply below_alloc | apply pw_below_drewN | apply below_drew1) | exact HB.out)⟩⟩
    case round =>
      clear H'
      try clear c1
      try clear p2
      try clear c4
      try clear c4b0
      try clear c4b1
      obtain ⟨x6_1, x7_1, x8_1, rfl, rfl, rfl, HA, HK1, HO_4, HB⟩ := hrel
      cases gk with
      | zero => exact absurd HA.out (by simp [numnahlaw09_ParseBack.l0])
      | succ k1 =>
        have H := HA.out
        clear HA
        simp only [numnahlaw09_ParseBack.l0] at H
        by_cases c7 : x8_1 < (t697.length : Int)
        · rw [if_pos c7] at H
          have c7b0 : decide (x8_1 < (t697.length : Int)) = true := decide_eq_true c7
          clear c7
          have HC8 := Aside0.mk H
          clear H
          obtain ⟨Ao9, co9, eo9⟩ := Kd.R_slice HO_4.out
          subst eo9
          go_upto_region 10 with (fail)
          repeat (go_quiet (fail); go_upto_region 10 with (fail))
          go_cut [62] (fun v62 wc => ∃ (kq : Nat) (x62_7 : Bool), v62 = .bool x62_7 ∧ Aside0 (numnahlaw09_ParseBack.j1 kq t696 t697 x6_1 x7_1 x8_1 x62_7 = some r) ∧ Aside0 (kq ≤ k1) ∧ Aside0 (Kd.R k63 63 wc w.heap.size (fun _ => True) (.slice Ao9 t697.length co9) t697) ∧ Aside0 (Below w.heap.size w wc))
          case first =>
            have H := HC8.out
            clear HC8
            by_cases c10 : 0 ≤ x8_1
            · rw [if_pos c10] at H
              have c10b0 : decide (0 ≤ x8_1) = true := decide_eq_true c10
              clear c10
              (first | rw [c10b0] | (simp only [i64_w, i32_w]; rw [c10b0]) | skip)
              by_cases c11 : ((rd_T63 t697 x8_1).f0) < 0
              · rw [if_pos c11] at H
                have c11b0 : decide (((rd_T63 t697 x8_1).f0) < 0) = true := decide_eq_true c11
                clear c11
                have H' := Aside0.mk H
                clear H
                have p704 : 0 ≤ (x8_1 : Int) := of_decide_eq_true (by first | (with_reducible assumption) | assumption)
                have q704 : x8_1 < (t697.length : Int) := of_decide_eq_true (by first | (with_reducible assumption) | assumption)
                obtain ⟨ad704, e704, hx704_0, hx704_1⟩ := at_T63 (Kd.R_reads' HO_4.out).2.2 x8_1 p704 q704
                cases e704
                replace p704 := eq_true p704
                replace q704 := eq_true q704
                go_wp2
                repeat (go_quiet (fail); try go_wp2)
                go_meet
                case rel => exact ⟨_, (true), (by first | rfl | (simp; done) | (simp [*]; done)), H', ⟨by have := HK1.out; first | omega | exact Nat.le_refl _⟩, ⟨by (with_reducible repeat (first | apply Kd.R_alloc | apply Kd.R_drewN | apply Kd.R_drew)); exact HO_4.out⟩, ⟨by repeat (first | (with_reducible first | exact HB.out | apply below_alloc | apply pw_below_drewN | apply below_drew1) | exact HB.out)⟩⟩
              · rw [if_neg c11] at H
                have c11b0 : decide (((rd_T63 t697 x8_1).f0) < 0) = false := decide_eq_false c11
                clear c11
                by_cases c12 : ((rd_T63 t697 x8_1).f0) > x8_1
                · rw [if_pos c12] at H
                  have c12b0 : decide (x8_1 < ((rd_T63 t697 x8_1).f0)) = true := decide_eq_true c12
                  clear c12
                  have H' := Aside0.mk H
                  clear H
                  have p704 : 0 ≤ (x8_1 : Int) := of_decide_eq_true (by first | (with_reducible assumption) | assumption)
                  have q704 : x8_1 < (t697.length : Int) := of_decide_eq_true (by first | (with_reducible assumption) | assumption)
                  obtain ⟨ad704, e704, hx704_0, hx704_1⟩ := at_T63 (Kd.R_reads' HO_4.out).2.2 x8_1 p704 q704
                  cases e704
                  replace p704 := eq_true p704
                  replace q704 := eq_true q704
                  have p705 : 0 ≤ (x8_1 : Int) := of_decide_eq_true (by first | (with_reducible assumption) | assumption)
                  have q705 : x8_1 < (t697.length : Int) := of_decide_eq_true (by first | (with_reducible assumption) | assumption)
                  obtain ⟨ad705, e705, hx705_0, hx705_1⟩ := at_T63 (Kd.R_reads' HO_4.out).2.2 x8_1 p705 q705
                  obtain rfl : ad704 = ad705 := (by injection e705)
                  replace p705 := eq_true p705
                  replace q705 := eq_true q705
                  go_wp2
                  repeat (go_quiet (fail); try go_wp2)
                  go_meet
                  case rel => exact ⟨_, (true), (by first | rfl | (simp; done) | (simp [*]; done)), H', ⟨by have := HK1.out; first | omega | exact Nat.le_refl _⟩, ⟨by (with_reducible repeat (first | apply Kd.R_alloc | apply Kd.R_drewN | apply Kd.R_drew)); exact HO_4.out⟩, ⟨by repeat (first | (with_reducible first | exact HB.out | apply below_alloc | apply pw_below_drewN | apply below_drew1) | exact HB.out)⟩⟩
                · rw [if_neg c12] at H
                  have c12b0 : decide (x8_1 < ((rd_T63 t697 x8_1).f0)) = false := decide_eq_false c12
                  clear c12
                  by_cases c13 : ((rd_T63 t697 x8_1).f1) < 1
                  · rw [if_pos c13] at H
                    have c13b0 : decide (((rd_T63 t697 x8_1).f1) < 1) = true := decide_eq_true c13
                    clear c13
                    have H' := Aside0.mk H
                    clear H
                    have p704 : 0 ≤ (x8_1 : Int) := of_decide_eq_true (by first | (with_reducible assumption) | assumption)
                    have q704 : x8_1 < (t697.length : Int) := of_decide_eq_true (by first | (with_reducible assumption) | assumption)
                    obtain ⟨ad704, e704, hx704_0, hx704_1⟩ := at_T63 (Kd.R_reads' HO_4.out).2.2 x8_1 p704 q704
                    cases e704
                    replace p704 := eq_true p704
                    replace q704 := eq_true q704
                    have p705 : 0 ≤ (x8_1 : Int) := of_decide_eq_true (by first | (with_reducible assumption) | assumption)
                    have q705 : x8_1 < (t697.length : Int) := of_decide_eq_true (by first | (with_reducible assumption) | assumption)
                    obtain ⟨ad705, e705, hx705_0, hx705_1⟩ := at_T63 (Kd.R_reads' HO_4.out).2.2 x8_1 p705 q705
                    obtain rfl : ad704 = ad705 := (by injection e705)
                    replace p705 := eq_true p705
                    replace q705 := eq_true q705
                    have p706 : 0 ≤ (x8_1 : Int) := of_decide_eq_true (by first | (with_reducible assumption) | assumption)
                    have q706 : x8_1 < (t697.length : Int) := of_decide_eq_true (by first | (with_reducible assumption) | assumption)
                    obtain ⟨ad706, e706, hx706_0, hx706_1⟩ := at_T63 (Kd.R_reads' HO_4.out).2.2 x8_1 p706 q706
                    obtain rfl : ad704 = ad706 := (by injection e706)
                    replace p706 := eq_true p706
                    replace q706 := eq_true q706
                    go_wp2
                    repeat (go_quiet (fail); try go_wp2)
                    go_meet
                    case rel => exact ⟨_, (true), (by first | rfl | (simp; done) | (simp [*]; done)), H', ⟨by have := HK1.out; first | omega | exact Nat.le_refl _⟩, ⟨by (with_reducible repeat (first | apply Kd.R_alloc | apply Kd.R_drewN | apply Kd.R_drew)); exact HO_4.out⟩, ⟨by repeat (first | (with_reducible first | exact HB.out | apply below_alloc | apply pw_below_drewN | apply below_drew1) | exact HB.out)⟩⟩
                  · rw [if_neg c13] at H
                    have c13b0 : decide (((rd_T63 t697 x8_1).f1) < 1) = false := decide_eq_false c13
                    clear c13
                    have H' := Aside0.mk H
                    clear H
                    have p704 : 0 ≤ (x8_1 : Int) := of_decide_eq_true (by first | (with_reducible assumption) | assumption)
                    have q704 : x8_1 < (t697.length : Int) := of_decide_eq_true (by first | (with_reducible assumption) | assumption)
                    obtain ⟨ad704, e704, hx704_0, hx704_1⟩ := at_T63 (Kd.R_reads' HO_4.out).2.2 x8_1 p704 q704
                    cases e704
                    replace p704 := eq_true p704
                    replace q704 := eq_true q704
                    have p705 : 0 ≤ (x8_1 : Int) := of_decide_eq_true (by first | (with_reducible assumption) | assumption)
                    have q705 : x8_1 < (t697.length : Int) := of_decide_eq_true (by first | (with_reducible assumption) | assumption)
                    obtain ⟨ad705, e705, hx705_0, hx705_1⟩ := at_T63 (Kd.R_reads' HO_4.out).2.2 x8_1 p705 q705
                    obtain rfl : ad704 = ad705 := (by injection e705)
                    replace p705 := eq_true p705
                    replace q705 := eq_true q705
                    have p706 : 0 ≤ (x8_1 : Int) := of_decide_eq_true (by first | (with_reducible assumption) | assumption)
                    have q706 : x8_1 < (t697.length : Int) := of_decide_eq_true (by first | (with_reducible assumption) | assumption)
                    obtain ⟨ad706, e706, hx706_0, hx706_1⟩ := at_T63 (Kd.R_reads' HO_4.out).2.2 x8_1 p706 q706
                    obtain rfl : ad704 = ad706 := (by injection e706)
                    replace p706 := eq_true p706
                    replace q706 := eq_true q706
                    have p707 : 0 ≤ (x8_1 : Int) := of_decide_eq_true (by first | (with_reducible assumption) | assumption)
                    have q707 : x8_1 < (t697.length : Int) := of_decide_eq_true (by first | (with_reducible assumption) | assumption)
                    obtain ⟨ad707, e707, hx707_0, hx707_1⟩ := at_T63 (Kd.R_reads' HO_4.out).2.2 x8_1 p707 q707
                    obtain rfl : ad704 = ad707 := (by injection e707)
                    replace p707 := eq_true p707
                    replace q707 := eq_true q707
                    go_wp2
                    repeat (go_quiet (fail); try go_wp2)
                    go_meet
                    case rel => exact ⟨_, (decide (((rd_T63 t697 x8_1).f1) > (wrap64 ((t696.size : Int) - x7_1)))), (by first | rfl | (simp; done) | (simp [*]; done)), H', ⟨by have := HK1.out; first | omega | exact Nat.le_refl _⟩, ⟨by (with_reducible repeat (first | apply Kd.R_alloc | apply Kd.R_drewN | apply Kd.R_drew)); exact HO_4.out⟩, ⟨by repeat (first | (with_reducible first | exact HB.out | apply below_alloc | apply pw_below_drewN | apply below_drew1) | exact HB.out)⟩⟩
            · rw [if_neg c10] at H
              exact absurd H (by simp)
          case rest =>
            clear HC8
            try clear c1
            try clear p2
            try clear c4
            try clear c4b0
            try clear c4b1
            try clear p6
            try clear c7
            try clear c7b0
            try clear p7
            try clear q7
            try clear hx7
            try clear c10
            try clear c10b0
            try clear c11
            try clear c11b0
            try clear c12
            try clear c12b0
            try clear c13
            try clear c13b0
            try clear hx704_0
            try clear hx704_1
            try clear hx705_0
            try clear hx705_1
            try clear hx706_0
            try clear hx706_1
            try clear hx707_0
            try clear hx707_1
            try clear p2
            try clear p704
            try clear p705
            try clear p706
            try clear p707
            try clear q704
            try clear q705
            try clear q706
            try clear q707
            obtain ⟨kq, x62_7, rfl, HA, HJ7, HO_4, HB⟩ := hcut
            cases kq with
            | zero => exact absurd HA.out (by simp [numnahlaw09_ParseBack.j1])
            | succ kj7 =>
              have H := HA.out
              clear HA
              simp only [numnahlaw09_ParseBack.j1] at H
              by_cases c14 : x62_7 = true
              · subst c14
                have H1 : (some false) = some r := by rw [if_pos rfl] at H; exact H
                clear H
                have H := H1
                clear H1
                obtain rfl := Option.some.inj H
                go_wp2
                repeat (go_quiet (fail); try go_wp2)
                go_ret
                exact ⟨by first | rfl | (simp [errW_none, errW_some] <;> rfl) | (simp [*, errW_none, errW_some] <;> rfl), by repeat (first | (with_reducible first | exact HB.out | apply below_alloc | apply pw_below_drewN | apply below_drew1) | exact HB.out)⟩
              · replace c14 := Bool.eq_false_iff.mpr c14
                subst c14
                have H1 : (if 0 ≤ x8_1 then (if x8_1 < (t697.length : Int) then (if ((rd_T63 t697 x8_1).f0) > 0 then (if 0 ≤ (wrap64 (((rd_T63 t697 x8_1).f0) - 1)) then (if (wrap64 (((rd_T63 t697 x8_1).f0) - 1)) < (t697.length : Int) then (numnahlaw09_ParseBack.j2 kj7 t696 t697 x6_1 x7_1 x8_1 ((rd_T63 t697 (wrap64 (((rd_T63 t697 x8_1).f0) - 1))).f1)) else (none)) else (none)) else (numnahlaw09_ParseBack.j2 kj7 t696 t697 x6_1 x7_1 x8_1 0)) else (none)) else (none)) = some r := by rw [if_neg (show ¬ (false = true) by decide)] at H; exact H
                clear H
                have H := H1
                clear H1
                by_cases c15 : 0 ≤ x8_1
                · rw [if_pos c15] at H
                  have c15b0 : decide (0 ≤ x8_1) = true := decide_eq_true c15
                  clear c15
                  by_cases c16 : x8_1 < (t697.length : Int)
                  · rw [if_pos c16] at H
                    have c16b0 : decide (x8_1 < (t697.length : Int)) = true := decide_eq_true c16
                    clear c16
                    have HC17 := Aside0.mk H
                    clear H
                    have p708 : 0 ≤ (x8_1 : Int) := of_decide_eq_true (by first | (with_reducible assumption) | assumption)
                    have q708 : x8_1 < (t697.length : Int) := of_decide_eq_true (by first | (with_reducible assumption) | assumption)
                    obtain ⟨ad708, e708, hx708_0, hx708_1⟩ := at_T63 (Kd.R_reads' HO_4.out).2.2 x8_1 p708 q708
                    cases e708
                    replace p708 := eq_true p708
                    replace q708 := eq_true q708
                    go_upto_if 68 with (fail)
                    repeat (go_quiet (fail); go_upto_if 68 with (fail))
                    go_cut [9] (fun v9 wc => ∃ (kq : Nat) (x9_16 : Int), v9 = .int .i64 x9_16 ∧ Aside0 (numnahlaw09_ParseBack.j2 kq t696 t697 x6_1 x7_1 x8_1 x9_16 = some r) ∧ Aside0 (kq ≤ kj7) ∧ Aside0 (Kd.R k63 63 wc w.heap.size (fun _ => True) (.slice (some ad708) t697.length co9) t697) ∧ Aside0 (Below w.heap.size w wc))
                    case first =>
                      have H := HC17.out
                      clear HC17
                      by_cases c18 : ((rd_T63 t697 x8_1).f0) > 0
                      · rw [if_pos c18] at H
                        have c18b0 : decide (0 < ((rd_T63 t697 x8_1).f0)) = true := decide_eq_true c18
                        clear c18
                        (first | rw [c18b0] | (simp only [i64_w, i32_w]; rw [c18b0]) | skip)
                        obtain ⟨ji19, hji19⟩ : ∃ j_ : Int, (wrap64 (((rd_T63 t697 x8_1).f0) - 1)) = j_ := ⟨_, rfl⟩
                        replace H : (if 0 ≤ (ji19) then (if (ji19) < (t697.length : Int) then (numnahlaw09_ParseBack.j2 kj7 t696 t697 x6_1 x7_1 x8_1 ((rd_T63 t697 (ji19)).f1)) else (none)) else (none)) = some r := by first | (rw [hji19] at H; exact H) | (simp only [hji19] at H ⊢; exact H)
                        have hji19w : (IntKind.i64.wrap (((rd_T63 t697 x8_1).f0) - 1)) = ji19 := (i64_w _).trans hji19
                        by_cases c20 : 0 ≤ (ji19)
                        · rw [if_pos c20] at H
                          have c20b0 : decide (0 ≤ (ji19)) = true := decide_eq_true c20
                          clear c20
                          by_cases c21 : (ji19) < (t697.length : Int)
                          · rw [if_pos c21] at H
                            have c21b0 : decide ((ji19) < (t697.length : Int)) = true := decide_eq_true c21
                            clear c21
                            have H' := Aside0.mk H
                            clear H
                            have p709 : 0 ≤ (x8_1 : Int) := of_decide_eq_true (by first | (with_reducible assumption) | assumption)
                            have q709 : x8_1 < (t697.length : Int) := of_decide_eq_true (by first | (with_reducible assumption) | assumption)
                            obtain ⟨ad709, e709, hx709_0, hx709_1⟩ := at_T63 (Kd.R_reads' HO_4.out).2.2 x8_1 p709 q709
                            obtain rfl : ad708 = ad709 := (by injection e709)
                            replace p709 := eq_true p709
                            replace q709 := eq_true q709
                            have p710 : 0 ≤ ((ji19) : Int) := of_decide_eq_true (by first | (with_reducible assumption) | assumption)
                            have q710 : (ji19) < (t697.length : Int) := of_decide_eq_true (by first | (with_reducible assumption) | assumption)
                            obtain ⟨ad710, e710, hx710_0, hx710_1⟩ := at_T63 (Kd.R_reads' HO_4.out).2.2 (ji19) p710 q710
                            obtain rfl : ad708 = ad710 := (by injection e710)
                            replace p710 := eq_true p710
                            replace q710 := eq_true q710
                            go_wp2
                            repeat (go_quiet (fail); try go_wp2)
                            go_meet
                            case rel => exact ⟨_, ((rd_T63 t697 (ji19)).f1), (by first | rfl | (simp; done) | (simp only [← hji19] <;> (first | rfl | simp)) | (simp [*]; done)), H', ⟨by have := HK1.out; have := HJ7.out; first | omega | exact Nat.le_refl _⟩, ⟨by (with_reducible repeat (first | apply Kd.R_alloc | apply Kd.R_drewN | apply Kd.R_drew)); exact HO_4.out⟩, ⟨by repeat (first | (with_reducible first | exact HB.out | apply below_alloc | apply pw_below_drewN | apply below_drew1) | exact HB.out)⟩⟩
                          · rw [if_neg c21] at H
                            exact absurd H (by simp)
                        · rw [if_neg c20] at H
                          exact absurd H (by simp)
                      · rw [if_neg c18] at H
                        have c18b0 : decide (0 < ((rd_T63 t697 x8_1).f0)) = false := decide_eq_false c18
                        clear c18
                        (first | rw [c18b0] | (simp only [i64_w, i32_w]; rw [c18b0]) | skip)
                        have H' := Aside0.mk H
                        clear H
                        go_wp2
                        repeat (go_quiet (fail); try go_wp2)
                        go_meet
                        case rel => exact ⟨_, (0), (by first | rfl | (simp; done) | (simp [*]; done)), H', ⟨by have := HK1.out; have := HJ7.out; first | omega | exact Nat.le_refl _⟩, ⟨by (with_reducible repeat (first | apply Kd.R_alloc | apply Kd.R_drewN | apply Kd.R_drew)); exact HO_4.out⟩, ⟨by repeat (first | (with_reducible first | exact HB.out | apply below_alloc | apply pw_below_drewN | apply below_drew1) | exact HB.out)⟩⟩
                    case rest =>
                      clear HC17
                      try clear c1
                      try clear c2
                      try clear p2
                      try clear c4
                      try clear c4b0
                      try clear c4b1
                      try clear p6
                      try clear c7
                      try clear c7b0
                      try clear p7
                      try clear q7
                      try clear hx7
                      try clear c10
                      try clear c10b0
                      try clear c11
                      try clear c11b0
                      try clear c12
                      try clear c12b0
                      try clear c13
                      try clear c13b0
                      try clear c14
                      try clear c15
                      try clear c15b0
                      try clear c16
                      try clear c16b0
                      try clear c18
                      try clear c18b0
                      try clear c20
                      try clear c20b0
                      try clear c21
                      try clear c21b0
                      try clear hx704_0
                      try clear hx704_1
                      try clear hx705_0
                      try clear hx705_1
                      try clear hx706_0
                      try clear hx706_1
                      try clear hx707_0
                      try clear hx707_1
                      try clear hx708_0
                      try clear hx708_1
                      try clear hx709_0
                      try clear hx709_1
                      try clear hx710_0
                      try clear hx710_1
                      try clear p2
                      try clear p6
                      try clear p7
                      try clear p704
                      try clear p705
                      try clear p706
                      try clear p707
                      try clear p708
                      try clear p709
                      try clear p710
                      try clear q7
                      try clear q704
                      try clear q705
                      try clear q706
                      try clear q707
                      try clear q708
                      try clear q709
                      try clear q710
                      obtain ⟨kq, x9_16, rfl, HA, HJ16, HO_4, HB⟩ := hcut
                      cases kq with
                      | zero => exact absurd HA.out (by simp [numnahlaw09_ParseBack.j2])
                      | succ kj16 =>
                        have H := HA.out
                        clear HA
                        simp only [numnahlaw09_ParseBack.j2] at H
                        by_cases c22 : 0 ≤ x8_1
                        · rw [if_pos c22] at H
                          have c22b0 : decide (0 ≤ x8_1) = true := decide_eq_true c22
                          clear c22
                          by_cases c23 : x8_1 < (t697.length : Int)
                          · rw [if_pos c23] at H
                            have c23b0 : decide (x8_1 < (t697.length : Int)) = true := decide_eq_true c23
                            clear c23
                            by_cases c24 : ((rd_T63 t697 x8_1).f1) = (wrap64 (x9_16 + 1))
                            · rw [if_pos c24] at H
                              have c24b0 : (((rd_T63 t697 x8_1).f1) == (wrap64 (x9_16 + 1))) = true := beq_iff_eq.mpr c24
                              have c24b1 : (((rd_T63 t697 x8_1).f1) != (wrap64 (x9_16 + 1))) = false := bne_eq_false_iff_eq.mpr c24
                              clear c24
                              obtain ⟨ji25, hji25⟩ : ∃ j_ : Int, (wrap64 ((wrap64 (x7_1 + ((rd_T63 t697 x8_1).f1))) - 1)) = j_ := ⟨_, rfl⟩
                              replace H : (if 0 ≤ (ji25) then (if (ji25) ≤ (wrap64 (x7_1 + ((rd_T63 t697 x8_1).f1))) then (if (wrap64 (x7_1 + ((rd_T63 t697 x8_1).f1))) ≤ (t696.size : Int) then (if x6_1.size + (t696.extract ((ji25) : Int).toNat ((wrap64 (x7_1 + ((rd_T63 t697 x8_1).f1))) : Int).toNat).size ≤ 9223372036854775807 then (numnahlaw09_ParseBack.l1 kj16 t696 t697 (x6_1 ++ (t696.extract ((ji25) : Int).toNat ((wrap64 (x7_1 + ((rd_T63 t697 x8_1).f1))) : Int).toNat)) (wrap64 (x7_1 + ((rd_T63 t697 x8_1).f1))) x8_1 0) else (none)) else (none)) else (none)) else (none)) = some r := by first | (rw [hji25] at H; exact H) | (simp only [hji25] at H ⊢; exact H)
                              have hji25w : (IntKind.i64.wrap ((wrap64 (x7_1 + ((rd_T63 t697 x8_1).f1))) - 1)) = ji25 := (i64_w _).trans hji25
                              by_cases c26 : 0 ≤ (ji25)
                              · rw [if_pos c26] at H
                                have c26b0 := eq_true c26
                                have c26b1 : decide (0 ≤ (ji25)) = true := decide_eq_true c26
                                clear c26
                                by_cases c27 : (ji25) ≤ (wrap64 (x7_1 + ((rd_T63 t697 x8_1).f1)))
                                · rw [if_pos c27] at H
                                  have c27b0 := eq_true c27
                                  have c27b1 : decide ((ji25) ≤ (wrap64 (x7_1 + ((rd_T63 t697 x8_1).f1)))) = true := decide_eq_true c27
                                  by_cases c28 : (wrap64 (x7_1 + ((rd_T63 t697 x8_1).f1))) ≤ (t696.size : Int)
                                  · rw [if_pos c28] at H
                                    have c28b0 := eq_true c28
                                    have c28b1 : decide ((wrap64 (x7_1 + ((rd_T63 t697 x8_1).f1))) ≤ (t696.size : Int)) = true := decide_eq_true c28
                                    by_cases c29 : x6_1.size + (t696.extract ((ji25) : Int).toNat ((wrap64 (x7_1 + ((rd_T63 t697 x8_1).f1))) : Int).toNat).size ≤ 9223372036854775807
                                    · rw [if_pos c29] at H
                                      have c29b0 := eq_true c29
                                      have c29b1 : decide (x6_1.size + (t696.extract ((ji25) : Int).toNat ((wrap64 (x7_1 + ((rd_T63 t697 x8_1).f1))) : Int).toNat).size ≤ 9223372036854775807) = true := decide_eq_true c29
                                      try have c29b2 : (9223372036854775807 < x6_1.size + (t696.extract ((ji25) : Int).toNat ((wrap64 (x7_1 + ((rd_T63 t697 x8_1).f1))) : Int).toNat).size) = False := eq_false (Nat.not_lt.2 c29)
                                      have H' := Aside0.mk H
                                      clear H
                                      have p711 : 0 ≤ (x8_1 : Int) := of_decide_eq_true (by first | (with_reducible assumption) | assumption)
                                      have q711 : x8_1 < (t697.length : Int) := of_decide_eq_true (by first | (with_reducible assumption) | assumption)
                                      obtain ⟨ad711, e711, hx711_0, hx711_1⟩ := at_T63 (Kd.R_reads' HO_4.out).2.2 x8_1 p711 q711
                                      obtain rfl : ad708 = ad711 := (by injection e711)
                                      replace p711 := eq_true p711
                                      replace q711 := eq_true q711
                                      have p712 : 0 ≤ (x8_1 : Int) := of_decide_eq_true (by first | (with_reducible assumption) | assumption)
                                      have q712 : x8_1 < (t697.length : Int) := of_decide_eq_true (by first | (with_reducible assumption) | assumption)
                                      obtain ⟨ad712, e712, hx712_0, hx712_1⟩ := at_T63 (Kd.R_reads' HO_4.out).2.2 x8_1 p712 q712
                                      obtain rfl : ad708 = ad712 := (by injection e712)
                                      replace p712 := eq_true p712
                                      replace q712 := eq_true q712
                                      go_wp2
                                      repeat (go_quiet (fail); try go_wp2)
                                      obtain ⟨x6n, hx6n⟩ : ∃ y, (x6_1 ++ (t696.extract ((ji25) : Int).toNat ((wrap64 (x7_1 + ((rd_T63 t697 x8_1).f1))) : Int).toNat)) = y := ⟨_, rfl⟩
                                      rw [hx6n] at H'
                                      rw [hx6n]
                                      go_loopg [10] kj16 (fun kq v10 w' => ∃ (x10_4 : Int), v10 = .int .i64 x10_4 ∧ Aside0 (numnahlaw09_ParseBack.l1 kq t696 t697 x6n (wrap64 (x7_1 + ((rd_T63 t697 x8_1).f1))) x8_1 x10_4 = some r) ∧ Aside0 (kq ≤ kj16) ∧ Aside0 (Kd.R k63 63 w' w.heap.size (fun _ => True) (.slice (some ad708) t697.length co9) t697) ∧ Aside0 (Below w.heap.size w w'))
                                      case atStart => exact ⟨(0), (by first | rfl | (simp; done) | (simp [*]; done)), H', ⟨Nat.le_refl _⟩, ⟨by (with_reducible repeat (first | apply Kd.R_alloc | apply Kd.R_drewN | apply Kd.R_drew)); exact HO_4.out⟩, ⟨by repeat (first | (with_reducible first | exact HB.out | apply below_alloc | apply pw_below_drewN | apply below_drew1) | exact HB.out)⟩⟩
                                      case round =>
                                        clear H'
                                        try clear c1
                                        try clear c2
                                        try clear p2
                                        try clear c4
                                        try clear c4b0
                                        try clear c4b1
                                        try clear p6
                                        try clear c7
                                        try clear c7b0
                                        try clear p7
                                        try clear q7
                                        try clear hx7
                                        try clear c10
                                        try clear c10b0
                                        try clear c11
                                        try clear c11b0
                                        try clear c12
                                        try clear c12b0
                                        try clear c13
                                        try clear c13b0
                                        try clear c14
                                        try clear c15
                                        try clear c15b0
                                        try clear c16
                                        try clear c16b0
                                        try clear c18
                                        try clear c18b0
                                        try clear c20
                                        try clear c20b0
                                        try clear c21
                                        try clear c21b0
                                        try clear c22
                                        try clear c22b0
                                        try clear c23
                                        try clear c23b0
                                        try clear c24
                                        try clear c24b0
                                        try clear c24b1
                                        try clear c26
                                        try clear c26b0
                                        try clear c26b1
                                        try clear c27
                                        try clear c27b0
                                        try clear c27b1
                                        try clear c28
                                        try clear c28b0
                                        try clear c28b1
                                        try clear c29
                                        try clear c29b0
                                        try clear c29b1
                                        try clear c29b2
                                        try clear hx704_0
                                        try clear hx704_1
                                        try clear hx705_0
                                        try clear hx705_1
                                        try clear hx706_0
                                        try clear hx706_1
                                        try clear hx707_0
                                        try clear hx707_1
                                        try clear hx708_0
                                        try clear hx708_1
                                        try clear hx709_0
                                        try clear hx709_1
                                        try clear hx710_0
                                        try clear hx710_1
                                        try clear hx711_0
                                        try clear hx711_1
                                        try clear hx712_0
                                        try clear hx712_1
                                        try clear p2
                                        try clear p6
                                        try clear p7
                                        try clear p704
                                        try clear p705
                                        try clear p706
                                        try clear p707
                                        try clear p708
                                        try clear p709
                                        try clear p710
                                        try clear p711
                                        try clear p712
                                        try clear q7
                                        try clear q704
                                        try clear q705
                                        try clear q706
                                        try clear q707
                                        try clear q708
                                        try clear q709
                                        try clear q710
                                        try clear q711
                                        try clear q712
                                        obtain ⟨x10_4, rfl, HA, HK4, HO_4, HB⟩ := hrel
                                        cases gk with
                                        | zero => exact absurd HA.out (by simp [numnahlaw09_ParseBack.l1])
                                        | succ k4 =>
                                          have H := HA.out
                                          clear HA
                                          simp only [numnahlaw09_ParseBack.l1] at H
                                          have HC30 := Aside0.mk H
                                          clear H
                                          go_upto_region 20 with (fail)
                                          repeat (go_quiet (fail); go_upto_region 20 with (fail))
                                          go_cut [110] (fun v110 wc => ∃ (kq : Nat) (x110_29 : Bool), v110 = .bool x110_29 ∧ Aside0 (numnahlaw09_ParseBack.j4 kq t696 t697 x6n (wrap64 (x7_1 + ((rd_T63 t697 x8_1).f1))) x8_1 x10_4 x110_29 = some r) ∧ Aside0 (kq ≤ k4) ∧ Aside0 (Kd.R k63 63 wc w.heap.size (fun _ => True) (.slice (some ad708) t697.length co9) t697) ∧ Aside0 (Below w.heap.size w wc))
                                          case first =>
                                            have H := HC30.out
                                            clear HC30
                                            by_cases c31 : x10_4 < x8_1
                                            · rw [if_pos c31] at H
                                              have c31b0 : decide (x10_4 < x8_1) = true := decide_eq_true c31
                                              clear c31
                                              (first | rw [c31b0] | (simp only [i64_w, i32_w]; rw [c31b0]) | skip)
                                              have H' := Aside0.mk H
                                              clear H
                                              go_wp2
                                              repeat (go_quiet (fail); try go_wp2)
                                              go_meet
                                              case rel => exact ⟨_, (decide ((wrap64 (x8_1 + 1)) < (t697.length : Int))), (by first | rfl | (simp; done) | (simp [*]; done)), H', ⟨by have := HK1.out; have := HJ7.out; have := HJ16.out; have := HK4.out; first | omega | exact Nat.le_refl _⟩, ⟨by (with_reducible repeat (first | apply Kd.R_alloc | apply Kd.R_drewN | apply Kd.R_drew)); exact HO_4.out⟩, ⟨by repeat (first | (with_reducible first | exact HB.out | apply below_alloc | apply pw_below_drewN | apply below_drew1) | exact HB.out)⟩⟩
                                            · rw [if_neg c31] at H
                                              have c31b0 : decide (x10_4 < x8_1) = false := decide_eq_false c31
                                              clear c31
                                              (first | rw [c31b0] | (simp only [i64_w, i32_w]; rw [c31b0]) | skip)
                                              have H' := Aside0.mk H
                                              clear H
                                              go_wp2
                                              repeat (go_quiet (fail); try go_wp2)
                                              go_meet
                                              case rel => exact ⟨_, (false), (by first | rfl | (simp; done) | (simp [*]; done)), H', ⟨by have := HK1.out; have := HJ7.out; have := HJ16.out; have := HK4.out; first | omega | exact Nat.le_refl _⟩, ⟨by (with_reducible repeat (first | apply Kd.R_alloc | apply Kd.R_drewN | apply Kd.R_drew)); exact HO_4.out⟩, ⟨by repeat (first | (with_reducible first | exact HB.out | apply below_alloc | apply pw_below_drewN | apply below_drew1) | exact HB.out)⟩⟩
                                          case rest =>
                                            clear HC30
                                            try clear c1
                                            try clear c2
                                            try clear p2
                                            try clear c3
                                            try clear c4
                                            try clear c4b0
                                            try clear c4b1
                                            try clear p6
                                            try clear c7
                                            try clear c7b0
                                            try clear p7
                                            try clear q7
                                            try clear hx7
                                            try clear c10
                                            try clear c10b0
                                            try clear c11
                                            try clear c11b0
                                            try clear c12
                                            try clear c12b0
                                            try clear c13
                                            try clear c13b0
                                            try clear c14
                                            try clear c15
                                            try clear c15b0
                                            try clear c16
                                            try clear c16b0
                                            try clear c18
                                            try clear c18b0
                                            try clear c20
                                            try clear c20b0
                                            try clear c21
                                            try clear c21b0
                                            try clear c22
                                            try clear c22b0
                                            try clear c23
                                            try clear c23b0
                                            try clear c24
                                            try clear c24b0
                                            try clear c24b1
                                            try clear c26
                                            try clear c26b0
                                            try clear c26b1
                                            try clear c27
                                            try clear c27b0
                                            try clear c27b1
                                            try clear c28
                                            try clear c28b0
                                            try clear c28b1
                                            try clear c29
                                            try clear c29b0
                                            try clear c29b1
                                            try clear c29b2
                                            try clear c31
                                            try clear c31b0
                                            try clear hx704_0
                                            try clear hx704_1
                                            try clear hx705_0
                                            try clear hx705_1
                                            try clear hx706_0
                                            try clear hx706_1
                                            try clear hx707_0
                                            try clear hx707_1
                                            try clear hx708_0
                                            try clear hx708_1
                                            try clear hx709_0
                                            try clear hx709_1
                                            try clear hx710_0
                                            try clear hx710_1
                                            try clear hx711_0
                                            try clear hx711_1
                                            try clear hx712_0
                                            try clear hx712_1
                                            try clear p2
                                            try clear p6
                                            try clear p7
                                            try clear p704
                                            try clear p705
                                            try clear p706
                                            try clear p707
                                            try clear p708
                                            try clear p709
                                            try clear p710
                                            try clear p711
                                            try clear p712
                                            try clear q7
                                            try clear q704
                                            try clear q705
                                            try clear q706
                                            try clear q707
                                            try clear q708
                                            try clear q709
                                            try clear q710
                                            try clear q711
                                            try clear q712
                                            obtain ⟨kq, x110_29, rfl, HA, HJ29, HO_4, HB⟩ := hcut
                                            cases kq with
                                            | zero => exact absurd HA.out (by simp [numnahlaw09_ParseBack.j4])
                                            | succ kj29 =>
                                              have H := HA.out
                                              clear HA
                                              simp only [numnahlaw09_ParseBack.j4] at H
                                              by_cases c32 : x110_29 = true
                                              · subst c32
                                                have H1 : (if 0 ≤ x10_4 then (if x10_4 < (t697.length : Int) then (if 0 ≤ x8_1 then (if x8_1 < (t697.length : Int) then (if ((rd_T63 t697 x10_4).f0) = ((rd_T63 t697 x8_1).f0) then (if x10_4 < (x6n.size : Int) then (if x8_1 < (x6n.size : Int) then (if (bt x6n x10_4) = (bt x6n x8_1) then (some false) else (numnahlaw09_ParseBack.l1 kj29 t696 t697 x6n (wrap64 (x7_1 + ((rd_T63 t697 x8_1).f1))) x8_1 (wrap64 (x10_4 + 1)))) else (none)) else (none)) else (numnahlaw09_ParseBack.l1 kj29 t696 t697 x6n (wrap64 (x7_1 + ((rd_T63 t697 x8_1).f1))) x8_1 (wrap64 (x10_4 + 1)))) else (none)) else (none)) else (none)) else (none)) = some r := by rw [if_pos rfl] at H; exact H
                                                clear H
                                                have H := H1
                                                clear H1
                                                by_cases c33 : 0 ≤ x10_4
                                                · rw [if_pos c33] at H
                                                  have c33b0 : decide (0 ≤ x10_4) = true := decide_eq_true c33
                                                  clear c33
                                                  by_cases c34 : x10_4 < (t697.length : Int)
                                                  · rw [if_pos c34] at H
                                                    have c34b0 : decide (x10_4 < (t697.length : Int)) = true := decide_eq_true c34
                                                    clear c34
                                                    by_cases c35 : 0 ≤ x8_1
                                                    · rw [if_pos c35] at H
                                                      have c35b0 : decide (0 ≤ x8_1) = true := decide_eq_true c35
                                                      clear c35
                                                      by_cases c36 : x8_1 < (t697.length : Int)
                                                      · rw [if_pos c36] at H
                                                        have c36b0 : decide (x8_1 < (t697.length : Int)) = true := decide_eq_true c36
                                                        clear c36
                                                        by_cases c37 : ((rd_T63 t697 x10_4).f0) = ((rd_T63 t697 x8_1).f0)
                                                        · rw [if_pos c37] at H
                                                          have c37b0 : (((rd_T63 t697 x10_4).f0) == ((rd_T63 t697 x8_1).f0)) = true := beq_iff_eq.mpr c37
                                                          have c37b1 : (((rd_T63 t697 x10_4).f0) != ((rd_T63 t697 x8_1).f0)) = false := bne_eq_false_iff_eq.mpr c37
                                                          clear c37
                                                          by_cases c38 : x10_4 < (x6n.size : Int)
                                                          · rw [if_pos c38] at H
                                                            have c38b0 : decide (x10_4 < (x6n.size : Int)) = true := decide_eq_true c38
                                                            clear c38
                                                            by_cases c40 : x8_1 < (x6n.size : Int)
                                                            · rw [if_pos c40] at H
                                                              have c40b0 : decide (x8_1 < (x6n.size : Int)) = true := decide_eq_true c40
                                                              clear c40
                                                              by_cases c42 : (bt x6n x10_4) = (bt x6n x8_1)
                                                              · rw [if_pos c42] at H
                                                                have c42b0 : ((bt x6n x10_4) == (bt x6n x8_1)) = true := beq_iff_eq.mpr c42
                                                                have c42b1 : ((bt x6n x10_4) != (bt x6n x8_1)) = false := bne_eq_false_iff_eq.mpr c42
                                                                clear c42
                                                                obtain rfl := Option.some.inj H
                                                                have p713 : 0 ≤ (x10_4 : Int) := of_decide_eq_true (by first | (with_reducible assumption) | assumption)
                                                                have q713 : x10_4 < (t697.length : Int) := of_decide_eq_true (by first | (with_reducible assumption) | assumption)
                                                                obtain ⟨ad713, e713, hx713_0, hx713_1⟩ := at_T63 (Kd.R_reads' HO_4.out).2.2 x10_4 p713 q713
                                                                obtain rfl : ad708 = ad713 := (by injection e713)
                                                                replace p713 := eq_true p713
                                                                replace q713 := eq_true q713
                                                                have p714 : 0 ≤ (x8_1 : Int) := of_decide_eq_true (by first | (with_reducible assumption) | assumption)
                                                                have q714 : x8_1 < (t697.length : Int) := of_decide_eq_true (by first | (with_reducible assumption) | assumption)
                                                                obtain ⟨ad714, e714, hx714_0, hx714_1⟩ := at_T63 (Kd.R_reads' HO_4.out).2.2 x8_1 p714 q714
                                                                obtain rfl : ad708 = ad714 := (by injection e714)
                                                                replace p714 := eq_true p714
                                                                replace q714 := eq_true q714
                                                                have p39 : 0 ≤ (x10_4 : Int) := of_decide_eq_true (by first | (with_reducible assumption) | assumption)
                                                                have q39 : x10_4 < (x6n.size : Int) := of_decide_eq_true (by first | (with_reducible assumption) | assumption)
                                                                have hx39 := bt_at x6n x10_4
                                                                replace p39 := eq_true p39
                                                                replace q39 := eq_true q39
                                                                have p41 : 0 ≤ (x8_1 : Int) := of_decide_eq_true (by first | (with_reducible assumption) | assumption)
                                                                have q41 : x8_1 < (x6n.size : Int) := of_decide_eq_true (by first | (with_reducible assumption) | assumption)
                                                                have hx41 := bt_at x6n x8_1
                                                                replace p41 := eq_true p41
                                                                replace q41 := eq_true q41
                                                                go_wp2
                                                                repeat (go_quiet (fail); try go_wp2)
                                                                go_ret
                                                                exact ⟨by first | rfl | (simp [errW_none, errW_some] <;> rfl) | (simp only [← hji25]; first | rfl | (simp [errW_none, errW_some] <;> rfl)) | (simp [*, errW_none, errW_some] <;> rfl), by repeat (first | (with_reducible first | exact HB.out | apply below_alloc | apply pw_below_drewN | apply below_drew1) | exact HB.out)⟩
                                                              · rw [if_neg c42] at H
                                                                have c42b0 : ((bt x6n x10_4) == (bt x6n x8_1)) = false := beq_eq_false_iff_ne.mpr c42
                                                                have c42b1 : ((bt x6n x10_4) != (bt x6n x8_1)) = true := bne_iff_ne.mpr c42
                                                                have H' := Aside0.mk H
                                                                clear H
                                                                have p713 : 0 ≤ (x10_4 : Int) := of_decide_eq_true (by first | (with_reducible assumption) | assumption)
                                                                have q713 : x10_4 < (t697.length : Int) := of_decide_eq_true (by first | (with_reducible assumption) | assumption)
                                                                obtain ⟨ad713, e713, hx713_0, hx713_1⟩ := at_T63 (Kd.R_reads' HO_4.out).2.2 x10_4 p713 q713
                                                                obtain rfl : ad708 = ad713 := (by injection e713)
                                                                replace p713 := eq_true p713
                                                                replace q713 := eq_true q713
                                                                have p714 : 0 ≤ (x8_1 : Int) := of_decide_eq_true (by first | (with_reducible assumption) | assumption)
                                                                have q714 : x8_1 < (t697.length : Int) := of_decide_eq_true (by first | (with_reducible assumption) | assumption)
                                                                obtain ⟨ad714, e714, hx714_0, hx714_1⟩ := at_T63 (Kd.R_reads' HO_4.out).2.2 x8_1 p714 q714
                                                                obtain rfl : ad708 = ad714 := (by injection e714)
                                                                replace p714 := eq_true p714
                                                                replace q714 := eq_true q714
                                                                have p39 : 0 ≤ (x10_4 : Int) := of_decide_eq_true (by first | (with_reducible assumption) | assumption)
                                                                have q39 : x10_4 < (x6n.size : Int) := of_decide_eq_true (by first | (with_reducible assumption) | assumption)
                                                                have hx39 := bt_at x6n x10_4
                                                                replace p39 := eq_true p39
                                                                replace q39 := eq_true q39
                                                                have p41 : 0 ≤ (x8_1 : Int) := of_decide_eq_true (by first | (with_reducible assumption) | assumption)
                                                                have q41 : x8_1 < (x6n.size : Int) := of_decide_eq_true (by first | (with_reducible assumption) | assumption)
                                                                have hx41 := bt_at x6n x8_1
                                                                replace p41 := eq_true p41
                                                                replace q41 := eq_true q41
                                                                go_wp2
                                                                repeat (go_quiet (fail); try go_wp2)
                                                                go_roundg kj29
                                                                case measure => have := HK1.out; have := HJ7.out; have := HJ16.out; have := HK4.out; have := HJ29.out; omega
                                                                case rel => exact ⟨(wrap64 (x10_4 + 1)), (by first | rfl | (simp; done) | (simp [*]; done)), H', ⟨by have := HK1.out; have := HJ7.out; have := HJ16.out; have := HK4.out; have := HJ29.out; omega⟩, ⟨by (with_reducible repeat (first | apply Kd.R_alloc | apply Kd.R_drewN | apply Kd.R_drew)); exact HO_4.out⟩, ⟨by repeat (first | (with_reducible first | exact HB.out | apply below_alloc | apply pw_below_drewN | apply below_drew1) | exact HB.out)⟩⟩
                                                            · rw [if_neg c40] at H
                                                              exact absurd H (by simp)
                                                          · rw [if_neg c38] at H
                                                            exact absurd H (by simp)
                                                        · rw [if_neg c37] at H
                                                          have c37b0 : (((rd_T63 t697 x10_4).f0) == ((rd_T63 t697 x8_1).f0)) = false := beq_eq_false_iff_ne.mpr c37
                                                          have c37b1 : (((rd_T63 t697 x10_4).f0) != ((rd_T63 t697 x8_1).f0)) = true := bne_iff_ne.mpr c37
                                                          have H' := Aside0.mk H
                                                          clear H
                                                          have p713 : 0 ≤ (x10_4 : Int) := of_decide_eq_true (by first | (with_reducible assumption) | assumption)
                                                          have q713 : x10_4 < (t697.length : Int) := of_decide_eq_true (by first | (with_reducible assumption) | assumption)
                                                          obtain ⟨ad713, e713, hx713_0, hx713_1⟩ := at_T63 (Kd.R_reads' HO_4.out).2.2 x10_4 p713 q713
                                                          obtain rfl : ad708 = ad713 := (by injection e713)
                                                          replace p713 := eq_true p713
                                                          replace q713 := eq_true q713
                                                          have p714 : 0 ≤ (x8_1 : Int) := of_decide_eq_true (by first | (with_reducible assumption) | assumption)
                                                          have q714 : x8_1 < (t697.length : Int) := of_decide_eq_true (by first | (with_reducible assumption) | assumption)
                                                          obtain ⟨ad714, e714, hx714_0, hx714_1⟩ := at_T63 (Kd.R_reads' HO_4.out).2.2 x8_1 p714 q714
                                                          obtain rfl : ad708 = ad714 := (by injection e714)
                                                          replace p714 := eq_true p714
                                                          replace q714 := eq_true q714
                                                          go_wp2
                                                          repeat (go_quiet (fail); try go_wp2)
                                                          go_roundg kj29
                                                          case measure => have := HK1.out; have := HJ7.out; have := HJ16.out; have := HK4.out; have := HJ29.out; omega
                                                          case rel => exact ⟨(wrap64 (x10_4 + 1)), (by first | rfl | (simp; done) | (simp [*]; done)), H', ⟨by have := HK1.out; have := HJ7.out; have := HJ16.out; have := HK4.out; have := HJ29.out; omega⟩, ⟨by (with_reducible repeat (first | apply Kd.R_alloc | apply Kd.R_drewN | apply Kd.R_drew)); exact HO_4.out⟩, ⟨by repeat (first | (with_reducible first | exact HB.out | apply below_alloc | apply pw_below_drewN | apply below_drew1) | exact HB.out)⟩⟩
                                                      · rw [if_neg c36] at H
                                                        exact absurd H (by simp)
                                                    · rw [if_neg c35] at H
                                                      exact absurd H (by simp)
                                                  · rw [if_neg c34] at H
                                                    exact absurd H (by simp)
                                                · rw [if_neg c33] at H
                                                  exact absurd H (by simp)
                                              · replace c32 := Bool.eq_false_iff.mpr c32
                                                subst c32
                                                have H1 : (numnahlaw09_ParseBack.l0 kj29 t696 t697 x6n (wrap64 (x7_1 + ((rd_T63 t697 x8_1).f1))) (wrap64 (x8_1 + 1))) = some r := by rw [if_neg (show ¬ (false = true) by decide)] at H; exact H
                                                clear H
                                                have H := H1
                                                clear H1
                                                have H' := Aside0.mk H
                                                clear H
                                                go_wp2
                                                repeat (go_quiet (fail); try go_wp2)
                                                go_roundg kj29
                                                case measure => have := HK1.out; have := HJ7.out; have := HJ16.out; have := HK4.out; have := HJ29.out; omega
                                                case rel => exact ⟨(x6n), ((wrap64 (x7_1 + ((rd_T63 t697 x8_1).f1)))), (wrap64 (x8_1 + 1)), (by first | rfl | (simp; done) | (simp only [← hji25] <;> (first | rfl | simp)) | (simp [*]; done)), (by first | rfl | (simp; done) | (simp [*]; done)), (by first | rfl | (simp; done) | (simp [*]; done)), H', ⟨by have := HK1.out; have := HJ7.out; have := HJ16.out; have := HK4.out; have := HJ29.out; omega⟩, ⟨by (with_reducible repeat (first | apply Kd.R_alloc | apply Kd.R_drewN | apply Kd.R_drew)); exact HO_4.out⟩, ⟨by repeat (first | (with_reducible first | exact HB.out | apply below_alloc | apply pw_below_drewN | apply below_drew1) | exact HB.out)⟩⟩
                                    · rw [if_neg c29] at H
                                      exact absurd H (by simp)
                                  · rw [if_neg c28] at H
                                    exact absurd H (by simp)
                                · rw [if_neg c27] at H
                                  exact absurd H (by simp)
                              · rw [if_neg c26] at H
                                exact absurd H (by simp)
                            · rw [if_neg c24] at H
                              have c24b0 : (((rd_T63 t697 x8_1).f1) == (wrap64 (x9_16 + 1))) = false := beq_eq_false_iff_ne.mpr c24
                              have c24b1 : (((rd_T63 t697 x8_1).f1) != (wrap64 (x9_16 + 1))) = true := bne_iff_ne.mpr c24
                              obtain rfl := Option.some.inj H
                              have p711 : 0 ≤ (x8_1 : Int) := of_decide_eq_true (by first | (with_reducible assumption) | assumption)
                              have q711 : x8_1 < (t697.length : Int) := of_decide_eq_true (by first | (with_reducible assumption) | assumption)
                              obtain ⟨ad711, e711, hx711_0, hx711_1⟩ := at_T63 (Kd.R_reads' HO_4.out).2.2 x8_1 p711 q711
                              obtain rfl : ad708 = ad711 := (by injection e711)
                              replace p711 := eq_true p711
                              replace q711 := eq_true q711
                              go_wp2
                              repeat (go_quiet (fail); try go_wp2)
                              go_ret
                              exact ⟨by first | rfl | (simp [errW_none, errW_some] <;> rfl) | (simp [*, errW_none, errW_some] <;> rfl), by repeat (first | (with_reducible first | exact HB.out | apply below_alloc | apply pw_below_drewN | apply below_drew1) | exact HB.out)⟩
                          · rw [if_neg c23] at H
                            exact absurd H (by simp)
                        · rw [if_neg c22] at H
                          exact absurd H (by simp)
                  · rw [if_neg c16] at H
                    exact absurd H (by simp)
                · rw [if_neg c15] at H
                  exact absurd H (by simp)
        · rw [if_neg c7] at H
          have c7b0 : decide (x8_1 < (t697.length : Int)) = false := decide_eq_false c7
          clear c7
          replace H := Option.bind_eq_some_iff.mp H
          obtain ⟨⟨t701, t702⟩, A430, H⟩ := H
          replace H : (if t702 = 0 then (if t701.toList = t696.toList then (if x7_1 = (t696.size : Int) then ((numnahlaw09_awake.f k1).bind fun t703 => (some t703)) else (some false)) else (some false)) else (some false)) = some r := H
          have A43 := Aside0.mk A430
          clear A430
          by_cases c44 : t702 = 0
          · rw [if_pos c44] at H
            have c44b0 : (t702 == 0) = true := beq_iff_eq.mpr c44
            have c44b1 : (t702 != 0) = false := bne_eq_false_iff_eq.mpr c44
            clear c44
            by_cases c45 : t701.toList = t696.toList
            · rw [if_pos c45] at H
              have c45b0 : (t701.toList == t696.toList) = true := beq_iff_eq.mpr c45
              have c45b1 : (t701.toList != t696.toList) = false := bne_eq_false_iff_eq.mpr c45
              clear c45
              by_cases c46 : x7_1 = (t696.size : Int)
              · rw [if_pos c46] at H
                have c46b0 : (x7_1 == (t696.size : Int)) = true := beq_iff_eq.mpr c46
                have c46b1 : (x7_1 != (t696.size : Int)) = false := bne_eq_false_iff_eq.mpr c46
                clear c46
                replace H := Option.bind_eq_some_iff.mp H
                obtain ⟨t703, A470, H⟩ := H
                replace H : (some t703) = some r := H
                have A47 := Aside0.mk A470
                clear A470
                obtain rfl := Option.some.inj H
                obtain ⟨Ao48, co48, eo48⟩ := Kd.R_slice HO_4.out
                subst eo48
                go_wp2_with (first | (go_at_call 51; (with_reducible refine (parse_Unlearn.calls k1 _ _ t697 x6_1 t701 t702 _ ?side1 ?side2 A43.out).mono ?_); (case side1 => repeat (first | exact (Kd.R_reads' HO_4.out).2.2 | (with_reducible refine Kd.C_alloc ?_ _) | (with_reducible refine Kd.C_drewN ?_ _) | (with_reducible refine Kd.C_drew ?_))); (case side2 => exact (Kd.R_reads' HO_4.out).2.1); rintro e w49 ⟨rfl, hb⟩; have n0_ := Aside0.mk (Kd.R_below (by (with_reducible repeat (first | apply Kd.R_alloc | apply Kd.R_drewN | apply Kd.R_drew)); exact HO_4.out) hb); have n1_ := Aside0.mk (below_step (by repeat (first | (with_reducible first | exact HB.out | apply below_alloc | apply pw_below_drewN | apply below_drew1) | exact HB.out)) hb); clear HO_4; clear HB; have HO_4 := n0_; have HB := n1_; clear n0_ n1_; (try clear hb); (try clear hb2); (try clear hk); (try clear hi)) | (go_at_call 25; (with_reducible refine (numnahlaw09_awake.calls (hG := ?hg) k1  t703 _ A47.out).mono ?_); (case hg => exact gw_now hG (by repeat (first | (with_reducible first | exact HB.out | apply below_alloc | apply pw_below_drewN | apply below_drew1) | exact HB.out))); rintro e w50 ⟨rfl, hb⟩; have n0_ := Aside0.mk (Kd.R_below (by (with_reducible repeat (first | apply Kd.R_alloc | apply Kd.R_drewN | apply Kd.R_drew)); exact HO_4.out) hb); have n1_ := Aside0.mk (below_step (by repeat (first | (with_reducible first | exact HB.out | apply below_alloc | apply pw_below_drewN | apply below_drew1) | exact HB.out)) hb); clear HO_4; clear HB; have HO_4 := n0_; have HB := n1_; clear n0_ n1_; (try clear hb); (try clear hb2); (try clear hk); (try clear hi)))
                repeat (go_quiet (first | (go_at_call 51; (with_reducible refine (parse_Unlearn.calls k1 _ _ t697 x6_1 t701 t702 _ ?side1 ?side2 A43.out).mono ?_); (case side1 => repeat (first | exact (Kd.R_reads' HO_4.out).2.2 | (with_reducible refine Kd.C_alloc ?_ _) | (with_reducible refine Kd.C_drewN ?_ _) | (with_reducible refine Kd.C_drew ?_))); (case side2 => exact (Kd.R_reads' HO_4.out).2.1); rintro e w49 ⟨rfl, hb⟩; have n0_ := Aside0.mk (Kd.R_below (by (with_reducible repeat (first | apply Kd.R_alloc | apply Kd.R_drewN | apply Kd.R_drew)); exact HO_4.out) hb); have n1_ := Aside0.mk (below_step (by repeat (first | (with_reducible first | exact HB.out | apply below_alloc | apply pw_below_drewN | apply below_drew1) | exact HB.out)) hb); clear HO_4; clear HB; have HO_4 := n0_; have HB := n1_; clear n0_ n1_; (try clear hb); (try clear hb2); (try clear hk); (try clear hi)) | (go_at_call 25; (with_reducible refine (numnahlaw09_awake.calls (hG := ?hg) k1  t703 _ A47.out).mono ?_); (case hg => exact gw_now hG (by repeat (first | (with_reducible first | exact HB.out | apply below_alloc | apply pw_below_drewN | apply below_drew1) | exact HB.out))); rintro e w50 ⟨rfl, hb⟩; have n0_ := Aside0.mk (Kd.R_below (by (with_reducible repeat (first | apply Kd.R_alloc | apply Kd.R_drewN | apply Kd.R_drew)); exact HO_4.out) hb); have n1_ := Aside0.mk (below_step (by repeat (first | (with_reducible first | exact HB.out | apply below_alloc | apply pw_below_drewN | apply below_drew1) | exact HB.out)) hb); clear HO_4; clear HB; have HO_4 := n0_; have HB := n1_; clear n0_ n1_; (try clear hb); (try clear hb2); (try clear hk); (try clear hi))); try go_wp2_with (first | (go_at_call 51; (with_reducible refine (parse_Unlearn.calls k1 _ _ t697 x6_1 t701 t702 _ ?side1 ?side2 A43.out).mono ?_); (case side1 => repeat (first | exact (Kd.R_reads' HO_4.out).2.2 | (with_reducible refine Kd.C_alloc ?_ _) | (with_reducible refine Kd.C_drewN ?_ _) | (with_reducible refine Kd.C_drew ?_))); (case side2 => exact (Kd.R_reads' HO_4.out).2.1); rintro e w49 ⟨rfl, hb⟩; have n0_ := Aside0.mk (Kd.R_below (by (with_reducible repeat (first | apply Kd.R_alloc | apply Kd.R_drewN | apply Kd.R_drew)); exact HO_4.out) hb); have n1_ := Aside0.mk (below_step (by repeat (first | (with_reducible first | exact HB.out | apply below_alloc | apply pw_below_drewN | apply below_drew1) | exact HB.out)) hb); clear HO_4; clear HB; have HO_4 := n0_; have HB := n1_; clear n0_ n1_; (try clear hb); (try clear hb2); (try clear hk); (try clear hi)) | (go_at_call 25; (with_reducible refine (numnahlaw09_awake.calls (hG := ?hg) k1  t703 _ A47.out).mono ?_); (case hg => exact gw_now hG (by repeat (first | (with_reducible first | exact HB.out | apply below_alloc | apply pw_below_drewN | apply below_drew1) | exact HB.out))); rintro e w50 ⟨rfl, hb⟩; have n0_ := Aside0.mk (Kd.R_below (by (with_reducible repeat (first | apply Kd.R_alloc | apply Kd.R_drewN | apply Kd.R_drew)); exact HO_4.out) hb); have n1_ := Aside0.mk (below_step (by repeat (first | (with_reducible first | exact HB.out | apply below_alloc | apply pw_below_drewN | apply below_drew1) | exact HB.out)) hb); clear HO_4; clear HB; have HO_4 := n0_; have HB := n1_; clear n0_ n1_; (try clear hb); (try clear hb2); (try clear hk); (try clear hi))))
                go_ret
                exact ⟨by first | rfl | (simp [errW_none, errW_some] <;> rfl) | (simp [*, errW_none, errW_some] <;> rfl), by repeat (first | (with_reducible first | exact HB.out | apply below_alloc | apply pw_below_drewN | apply below_drew1) | exact HB.out)⟩
              · rw [if_neg c46] at H
                have c46b0 : (x7_1 == (t696.size : Int)) = false := beq_eq_false_iff_ne.mpr c46
                have c46b1 : (x7_1 != (t696.size : Int)) = true := bne_iff_ne.mpr c46
                obtain rfl := Option.some.inj H
                obtain ⟨Ao51, co51, eo51⟩ := Kd.R_slice HO_4.out
                subst eo51
                go_wp2_with (first | (go_at_call 51; (with_reducible refine (parse_Unlearn.calls k1 _ _ t697 x6_1 t701 t702 _ ?side1 ?side2 A43.out).mono ?_); (case side1 => repeat (first | exact (Kd.R_reads' HO_4.out).2.2 | (with_reducible refine Kd.C_alloc ?_ _) | (with_reducible refine Kd.C_drewN ?_ _) | (with_reducible refine Kd.C_drew ?_))); (case side2 => exact (Kd.R_reads' HO_4.out).2.1); rintro e w52 ⟨rfl, hb⟩; have n0_ := Aside0.mk (Kd.R_below (by (with_reducible repeat (first | apply Kd.R_alloc | apply Kd.R_drewN | apply Kd.R_drew)); exact HO_4.out) hb); have n1_ := Aside0.mk (below_step (by repeat (first | (with_reducible first | exact HB.out | apply below_alloc | apply pw_below_drewN | apply below_drew1) | exact HB.out)) hb); clear HO_4; clear HB; have HO_4 := n0_; have HB := n1_; clear n0_ n1_; (try clear hb); (try clear hb2); (try clear hk); (try clear hi)))
                repeat (go_quiet (first | (go_at_call 51; (with_reducible refine (parse_Unlearn.calls k1 _ _ t697 x6_1 t701 t702 _ ?side1 ?side2 A43.out).mono ?_); (case side1 => repeat (first | exact (Kd.R_reads' HO_4.out).2.2 | (with_reducible refine Kd.C_alloc ?_ _) | (with_reducible refine Kd.C_drewN ?_ _) | (with_reducible refine Kd.C_drew ?_))); (case side2 => exact (Kd.R_reads' HO_4.out).2.1); rintro e w52 ⟨rfl, hb⟩; have n0_ := Aside0.mk (Kd.R_below (by (with_reducible repeat (first | apply Kd.R_alloc | apply Kd.R_drewN | apply Kd.R_drew)); exact HO_4.out) hb); have n1_ := Aside0.mk (below_step (by repeat (first | (with_reducible first | exact HB.out | apply below_alloc | apply pw_below_drewN | apply below_drew1) | exact HB.out)) hb); clear HO_4; clear HB; have HO_4 := n0_; have HB := n1_; clear n0_ n1_; (try clear hb); (try clear hb2); (try clear hk); (try clear hi))); try go_wp2_with (first | (go_at_call 51; (with_reducible refine (parse_Unlearn.calls k1 _ _ t697 x6_1 t701 t702 _ ?side1 ?side2 A43.out).mono ?_); (case side1 => repeat (first | exact (Kd.R_reads' HO_4.out).2.2 | (with_reducible refine Kd.C_alloc ?_ _) | (with_reducible refine Kd.C_drewN ?_ _) | (with_reducible refine Kd.C_drew ?_))); (case side2 => exact (Kd.R_reads' HO_4.out).2.1); rintro e w52 ⟨rfl, hb⟩; have n0_ := Aside0.mk (Kd.R_below (by (with_reducible repeat (first | apply Kd.R_alloc | apply Kd.R_drewN | apply Kd.R_drew)); exact HO_4.out) hb); have n1_ := Aside0.mk (below_step (by repeat (first | (with_reducible first | exact HB.out | apply below_alloc | apply pw_below_drewN | apply below_drew1) | exact HB.out)) hb); clear HO_4; clear HB; have HO_4 := n0_; have HB := n1_; clear n0_ n1_; (try clear hb); (try clear hb2); (try clear hk); (try clear hi))))
                go_ret
                exact ⟨by first | rfl | (simp [errW_none, errW_some] <;> rfl) | (simp [*, errW_none, errW_some] <;> rfl), by repeat (first | (with_reducible first | exact HB.out | apply below_alloc | apply pw_below_drewN | apply below_drew1) | exact HB.out)⟩
            · rw [if_neg c45] at H
              have c45b0 : (t701.toList == t696.toList) = false := beq_eq_false_iff_ne.mpr c45
              have c45b1 : (t701.toList != t696.toList) = true := bne_iff_ne.mpr c45
              obtain rfl := Option.some.inj H
              obtain ⟨Ao53, co53, eo53⟩ := Kd.R_slice HO_4.out
              subst eo53
              go_wp2_with (first | (go_at_call 51; (with_reducible refine (parse_Unlearn.calls k1 _ _ t697 x6_1 t701 t702 _ ?side1 ?side2 A43.out).mono ?_); (case side1 => repeat (first | exact (Kd.R_reads' HO_4.out).2.2 | (with_reducible refine Kd.C_alloc ?_ _) | (with_reducible refine Kd.C_drewN ?_ _) | (with_reducible refine Kd.C_drew ?_))); (case side2 => exact (Kd.R_reads' HO_4.out).2.1); rintro e w54 ⟨rfl, hb⟩; have n0_ := Aside0.mk (Kd.R_below (by (with_reducible repeat (first | apply Kd.R_alloc | apply Kd.R_drewN | apply Kd.R_drew)); exact HO_4.out) hb); have n1_ := Aside0.mk (below_step (by repeat (first | (with_reducible first | exact HB.out | apply below_alloc | apply pw_below_drewN | apply below_drew1) | exact HB.out)) hb); clear HO_4; clear HB; have HO_4 := n0_; have HB := n1_; clear n0_ n1_; (try clear hb); (try clear hb2); (try clear hk); (try clear hi)))
              repeat (go_quiet (first | (go_at_call 51; (with_reducible refine (parse_Unlearn.calls k1 _ _ t697 x6_1 t701 t702 _ ?side1 ?side2 A43.out).mono ?_); (case side1 => repeat (first | exact (Kd.R_reads' HO_4.out).2.2 | (with_reducible refine Kd.C_alloc ?_ _) | (with_reducible refine Kd.C_drewN ?_ _) | (with_reducible refine Kd.C_drew ?_))); (case side2 => exact (Kd.R_reads' HO_4.out).2.1); rintro e w54 ⟨rfl, hb⟩; have n0_ := Aside0.mk (Kd.R_below (by (with_reducible repeat (first | apply Kd.R_alloc | apply Kd.R_drewN | apply Kd.R_drew)); exact HO_4.out) hb); have n1_ := Aside0.mk (below_step (by repeat (first | (with_reducible first | exact HB.out | apply below_alloc | apply pw_below_drewN | apply below_drew1) | exact HB.out)) hb); clear HO_4; clear HB; have HO_4 := n0_; have HB := n1_; clear n0_ n1_; (try clear hb); (try clear hb2); (try clear hk); (try clear hi))); try go_wp2_with (first | (go_at_call 51; (with_reducible refine (parse_Unlearn.calls k1 _ _ t697 x6_1 t701 t702 _ ?side1 ?side2 A43.out).mono ?_); (case side1 => repeat (first | exact (Kd.R_reads' HO_4.out).2.2 | (with_reducible refine Kd.C_alloc ?_ _) | (with_reducible refine Kd.C_drewN ?_ _) | (with_reducible refine Kd.C_drew ?_))); (case side2 => exact (Kd.R_reads' HO_4.out).2.1); rintro e w54 ⟨rfl, hb⟩; have n0_ := Aside0.mk (Kd.R_below (by (with_reducible repeat (first | apply Kd.R_alloc | apply Kd.R_drewN | apply Kd.R_drew)); exact HO_4.out) hb); have n1_ := Aside0.mk (below_step (by repeat (first | (with_reducible first | exact HB.out | apply below_alloc | apply pw_below_drewN | apply below_drew1) | exact HB.out)) hb); clear HO_4; clear HB; have HO_4 := n0_; have HB := n1_; clear n0_ n1_; (try clear hb); (try clear hb2); (try clear hk); (try clear hi))))
              go_ret
              exact ⟨by first | rfl | (simp [errW_none, errW_some] <;> rfl) | (simp [*, errW_none, errW_some] <;> rfl), by repeat (first | (with_reducible first | exact HB.out | apply below_alloc | apply pw_below_drewN | apply below_drew1) | exact HB.out)⟩
          · rw [if_neg c44] at H
            have c44b0 : (t702 == 0) = false := beq_eq_false_iff_ne.mpr c44
            have c44b1 : (t702 != 0) = true := bne_iff_ne.mpr c44
            obtain rfl := Option.some.inj H
            obtain ⟨Ao55, co55, eo55⟩ := Kd.R_slice HO_4.out
            subst eo55
            go_wp2_with (first | (go_at_call 51; (with_reducible refine (parse_Unlearn.calls k1 _ _ t697 x6_1 t701 t702 _ ?side1 ?side2 A43.out).mono ?_); (case side1 => repeat (first | exact (Kd.R_reads' HO_4.out).2.2 | (with_reducible refine Kd.C_alloc ?_ _) | (with_reducible refine Kd.C_drewN ?_ _) | (with_reducible refine Kd.C_drew ?_))); (case side2 => exact (Kd.R_reads' HO_4.out).2.1); rintro e w56 ⟨rfl, hb⟩; have n0_ := Aside0.mk (Kd.R_below (by (with_reducible repeat (first | apply Kd.R_alloc | apply Kd.R_drewN | apply Kd.R_drew)); exact HO_4.out) hb); have n1_ := Aside0.mk (below_step (by repeat (first | (with_reducible first | exact HB.out | apply below_alloc | apply pw_below_drewN | apply below_drew1) | exact HB.out)) hb); clear HO_4; clear HB; have HO_4 := n0_; have HB := n1_; clear n0_ n1_; (try clear hb); (try clear hb2); (try clear hk); (try clear hi)))
            repeat (go_quiet (first | (go_at_call 51; (with_reducible refine (parse_Unlearn.calls k1 _ _ t697 x6_1 t701 t702 _ ?side1 ?side2 A43.out).mono ?_); (case side1 => repeat (first | exact (Kd.R_reads' HO_4.out).2.2 | (with_reducible refine Kd.C_alloc ?_ _) | (with_reducible refine Kd.C_drewN ?_ _) | (with_reducible refine Kd.C_drew ?_))); (case side2 => exact (Kd.R_reads' HO_4.out).2.1); rintro e w56 ⟨rfl, hb⟩; have n0_ := Aside0.mk (Kd.R_below (by (with_reducible repeat (first | apply Kd.R_alloc | apply Kd.R_drewN | apply Kd.R_drew)); exact HO_4.out) hb); have n1_ := Aside0.mk (below_step (by repeat (first | (with_reducible first | exact HB.out | apply below_alloc | apply pw_below_drewN | apply below_drew1) | exact HB.out)) hb); clear HO_4; clear HB; have HO_4 := n0_; have HB := n1_; clear n0_ n1_; (try clear hb); (try clear hb2); (try clear hk); (try clear hi))); try go_wp2_with (first | (go_at_call 51; (with_reducible refine (parse_Unlearn.calls k1 _ _ t697 x6_1 t701 t702 _ ?side1 ?side2 A43.out).mono ?_); (case side1 => repeat (first | exact (Kd.R_reads' HO_4.out).2.2 | (with_reducible refine Kd.C_alloc ?_ _) | (with_reducible refine Kd.C_drewN ?_ _) | (with_reducible refine Kd.C_drew ?_))); (case side2 => exact (Kd.R_reads' HO_4.out).2.1); rintro e w56 ⟨rfl, hb⟩; have n0_ := Aside0.mk (Kd.R_below (by (with_reducible repeat (first | apply Kd.R_alloc | apply Kd.R_drewN | apply Kd.R_drew)); exact HO_4.out) hb); have n1_ := Aside0.mk (below_step (by repeat (first | (with_reducible first | exact HB.out | apply below_alloc | apply pw_below_drewN | apply below_drew1) | exact HB.out)) hb); clear HO_4; clear HB; have HO_4 := n0_; have HB := n1_; clear n0_ n1_; (try clear hb); (try clear hb2); (try clear hk); (try clear hi))))
            go_ret
            exact ⟨by first | rfl | (simp [errW_none, errW_some] <;> rfl) | (simp [*, errW_none, errW_some] <;> rfl), by repeat (first | (with_reducible first | exact HB.out | apply below_alloc | apply pw_below_drewN | apply below_drew1) | exact HB.out)⟩
  · rw [if_neg c4] at H
    have c4b0 : (t698 == 0) = false := beq_eq_false_iff_ne.mpr c4
    have c4b1 : (t698 != 0) = true := bne_iff_ne.mpr c4
    obtain rfl := Option.some.inj H
    go_enter Tryd.func14, Tryd.ntmps14
    go_wp2_with (first | (go_at_call 29; (with_reducible refine (numnahlaw09_tame.calls k a0 160 t696 _ A2.out).mono ?_); rintro e w57 ⟨rfl, hb⟩; have n0_ := Aside0.mk (below_step (by repeat (first | (with_reducible first | exact HB.out | apply below_alloc | apply pw_below_drewN | apply below_drew1) | exact HB.out)) hb); clear HB; have HB := n0_; clear n0_; (try clear hb); (try clear hb2); (try clear hk); (try clear hi)) | (go_at_call 23; (with_reducible refine (parse_Learning.calls t696 t697 t698 _ A3.out).mono ?_); rintro e w58 ⟨v699, rfl, ho0, hb⟩; have n0_ := Aside0.mk (Kd.R_lower ho0 (below_size (by repeat (first | (with_reducible first | exact HB.out | apply below_alloc | apply pw_below_drewN | apply below_drew1) | exact HB.out)))); have n1_ := Aside0.mk (below_step (by repeat (first | (with_reducible first | exact HB.out | apply below_alloc | apply pw_below_drewN | apply below_drew1) | exact HB.out)) hb); clear HB; have HO700 := n0_; have HB := n1_; clear n0_ n1_; (try clear hb); (try clear hb2); (try clear hk); (try clear hi); (try clear ho0)))
    repeat (go_quiet (first | (go_at_call 29; (with_reducible refine (numnahlaw09_tame.calls k a0 160 t696 _ A2.out).mono ?_); rintro e w57 ⟨rfl, hb⟩; have n0_ := Aside0.mk (below_step (by repeat (first | (with_reducible first | exact HB.out | apply below_alloc | apply pw_below_drewN | apply below_drew1) | exact HB.out)) hb); clear HB; have HB := n0_; clear n0_; (try clear hb); (try clear hb2); (try clear hk); (try clear hi)) | (go_at_call 23; (with_reducible refine (parse_Learning.calls t696 t697 t698 _ A3.out).mono ?_); rintro e w58 ⟨v699, rfl, ho0, hb⟩; have n0_ := Aside0.mk (Kd.R_lower ho0 (below_size (by repeat (first | (with_reducible first | exact HB.out | apply below_alloc | apply pw_below_drewN | apply below_drew1) | exact HB.out)))); have n1_ := Aside0.mk (below_step (by repeat (first | (with_reducible first | exact HB.out | apply below_alloc | apply pw_below_drewN | apply below_drew1) | exact HB.out)) hb); clear HB; have HO700 := n0_; have HB := n1_; clear n0_ n1_; (try clear hb); (try clear hb2); (try clear hk); (try clear hi); (try clear ho0))); try go_wp2_with (first | (go_at_call 29; (with_reducible refine (numnahlaw09_tame.calls k a0 160 t696 _ A2.out).mono ?_); rintro e w57 ⟨rfl, hb⟩; have n0_ := Aside0.mk (below_step (by repeat (first | (with_reducible first | exact HB.out | apply below_alloc | apply pw_below_drewN | apply below_drew1) | exact HB.out)) hb); clear HB; have HB := n0_; clear n0_; (try clear hb); (try clear hb2); (try clear hk); (try clear hi)) | (go_at_call 23; (with_reducible refine (parse_Learning.calls t696 t697 t698 _ A3.out).mono ?_); rintro e w58 ⟨v699, rfl, ho0, hb⟩; have n0_ := Aside0.mk (Kd.R_lower ho0 (below_size (by repeat (first | (with_reducible first | exact HB.out | apply below_alloc | apply pw_below_drewN | apply below_drew1) | exact HB.out)))); have n1_ := Aside0.mk (below_step (by repeat (first | (with_reducible first | exact HB.out | apply below_alloc | apply pw_below_drewN | apply below_drew1) | exact HB.out)) hb); clear HB; have HO700 := n0_; have HB := n1_; clear n0_ n1_; (try clear hb); (try clear hb2); (try clear hk); (try clear hi); (try clear ho0))))
    go_ret
    exact ⟨by first | rfl | (simp [errW_none, errW_some] <;> rfl) | (simp [*, errW_none, errW_some] <;> rfl), by repeat (first | (with_reducible first | exact HB.out | apply below_alloc | apply pw_below_drewN | apply below_drew1) | exact HB.out)⟩

/-- THE ONE PURE STATEMENT of numnahlaw09_ParseBack: yours. -/
def numnahlaw09_ParseBack.Pure : Prop := ∀ (a0 : ByteArray), a0.size ≤ 140737488351232 → ∃ k, numnahlaw09_ParseBack.f k a0 = some true
theorem numnahlaw09_ParseBack.walk (P : numnahlaw09_ParseBack.Pure) (a0 : ByteArray) (w : World) (hG : GW w) (w0 : a0.size ≤ 140737488351232) :
    Calls Tryd.prog 14 #[.string a0] w fun e w' => e = .returned (.bool true) ∧ Below w.heap.size w w' := by
  obtain ⟨k, h⟩ := P a0 w0
  refine (numnahlaw09_ParseBack.calls (hG := hG) k a0 true w h).mono ?_
  rintro e w' ⟨rfl, hd⟩
  exact ⟨rfl, hd⟩

end Go.Proofs.YtpeeflkodpnbpaaDoor.Pr
