-- Laid by wip/tools/inj.py of this project, which drives the kit's printer. Lean checks it.
import Derived.Test.YtpeeflkodpnbpaaDoorPr0
import Derived.Test.YtpeeflkodpnbpaaDoorHEarl
import Derived.Test.YtpeeflkodpnbpaaDoorHCopy
import Derived.Test.YtpeeflkodpnbpaaDoorPrA23
import Derived.Test.YtpeeflkodpnbpaaDoorPrB17
import Derived.Test.YtpeeflkodpnbpaaDoorPrB19
namespace Go.Proofs.YtpeeflkodpnbpaaDoor.Pr
open Go.RowKit Go.Proofs.YtpeeflkodpnbpaaDoorW.PrintWords Go.Proofs.YtpeeflkodpnbpaaDoorW.PrintLast Go.Proofs.YtpeeflkodpnbpaaDoorW.PrintMore
attribute [local go_sem] max2_int min2_int max_two min_two max_three min_three max_four min_four   -- for this text's walks alone
set_option linter.unusedVariables false
set_option linter.unusedSimpArgs false

/-! ### numnahlaw09_ParseDoubled: function 4 -/
mutual
def numnahlaw09_ParseDoubled.j0 : Nat → ByteArray → ByteArray → Bool → Option (Bool)
  | 0, _, _, _ => none
  | k + 1, x8, x11, x92 => if x92 = true then (some false) else (numnahlaw09_ParseDoubled.l0 k x8 x11 0)
def numnahlaw09_ParseDoubled.l0 : Nat → ByteArray → ByteArray → Int → Option (Bool)
  | 0, _, _, _ => none
  | k + 1, x8, x11, x14 => if x14 < (x8.size : Int) then (if 0 ≤ (wrap64 (2 * x14)) then (if (wrap64 (2 * x14)) < (x11.size : Int) then (if 0 ≤ x14 then (if (bt x11 (wrap64 (2 * x14))) = (bt x8 x14) then (if 0 ≤ (wrap64 ((wrap64 (2 * x14)) + 1)) then (if (wrap64 ((wrap64 (2 * x14)) + 1)) < (x11.size : Int) then (if (bt x11 (wrap64 ((wrap64 (2 * x14)) + 1))) = (bt x8 x14) then (numnahlaw09_ParseDoubled.l0 k x8 x11 (wrap64 (x14 + 1))) else (some false)) else (none)) else (none)) else (some false)) else (none)) else (none)) else (none)) else ((numnahlaw09_awake.f k).bind fun t333 => (some t333))
end
def numnahlaw09_ParseDoubled.f (k : Nat) (a0 : ByteArray) : Option (Bool) := (numnahlaw09_tame.f k a0 80).bind fun t318 => ((parse_Copying.f t318).bind fun bt319 => (if t318.size + t318.size ≤ 9223372036854775807 then ((parse_Copying.f (t318 ++ t318)).bind fun bt323 => ((parse_Turns.f k t318).bind fun bt327 => ((parse_Turns.f k (t318 ++ t318)).bind fun bt330 => (if bt319.2 = 0 then (if bt323.2 = 0 then (if bt327.2.2 = 0 then (if bt330.2.2 = 0 then (if (bt323.1.length : Int) < (bt319.1.length : Int) then (numnahlaw09_ParseDoubled.j0 k bt327.1 bt330.1 true) else (if (bt323.1.length : Int) > (wrap64 ((bt319.1.length : Int) + 1)) then (numnahlaw09_ParseDoubled.j0 k bt327.1 bt330.1 true) else (if (bt327.1.size : Int) = (t318.size : Int) then (if (bt330.1.size : Int) = (wrap64 (2 * (t318.size : Int))) then (numnahlaw09_ParseDoubled.j0 k bt327.1 bt330.1 (bt330.2.1 != (wrap64 (2 * bt327.2.1)))) else (numnahlaw09_ParseDoubled.j0 k bt327.1 bt330.1 true)) else (numnahlaw09_ParseDoubled.j0 k bt327.1 bt330.1 true)))) else (numnahlaw09_ParseDoubled.j0 k bt327.1 bt330.1 true)) else (numnahlaw09_ParseDoubled.j0 k bt327.1 bt330.1 true)) else (numnahlaw09_ParseDoubled.j0 k bt327.1 bt330.1 true)) else (numnahlaw09_ParseDoubled.j0 k bt327.1 bt330.1 true))))) else (none)))
theorem numnahlaw09_ParseDoubled.mono_l : ∀ k, (∀ y0 y1 y2, LeO (numnahlaw09_ParseDoubled.j0 k y0 y1 y2) (numnahlaw09_ParseDoubled.j0 (k + 1) y0 y1 y2)) ∧ (∀ y0 y1 y2, LeO (numnahlaw09_ParseDoubled.l0 k y0 y1 y2) (numnahlaw09_ParseDoubled.l0 (k + 1) y0 y1 y2))
  | 0 => ⟨fun _ _ _ r h => by simp [numnahlaw09_ParseDoubled.j0] at h, fun _ _ _ r h => by simp [numnahlaw09_ParseDoubled.l0] at h⟩
  | k + 1 => by
    obtain ⟨ih0, ih1⟩ := numnahlaw09_ParseDoubled.mono_l k
    refine ⟨?_, ?_⟩
    · intro y0 y1 y2
      unfold numnahlaw09_ParseDoubled.j0
      repeat' first
      | (with_reducible exact ih0 _ _ _)
      | (with_reducible exact ih1 _ _ _)
      | (with_reducible exact numnahlaw09_awake.mono _)
      | (with_reducible exact numnahlaw09_tame.mono _ _ _)
      | (with_reducible exact parse_Turns.mono _ _)
      | (with_reducible exact LeO.refl _)
      | (with_reducible exact LeO.none _)
      | (with_reducible refine LeO.ite ?_ ?_)
      | (with_reducible refine LeO.bind ?_ (fun _ => ?_))
      | exact ih0 _ _ _
      | exact ih1 _ _ _
      | exact numnahlaw09_awake.mono _
      | exact numnahlaw09_tame.mono _ _ _
      | exact parse_Turns.mono _ _
      | exact LeO.none _
      | refine LeO.ite ?_ ?_
      | refine LeO.bind ?_ (fun _ => ?_)
    · intro y0 y1 y2
      unfold numnahlaw09_ParseDoubled.l0
      repeat' first
      | (with_reducible exact ih0 _ _ _)
      | (with_reducible exact ih1 _ _ _)
      | (with_reducible exact numnahlaw09_awake.mono _)
      | (with_reducible exact numnahlaw09_tame.mono _ _ _)
      | (with_reducible exact parse_Turns.mono _ _)
      | (with_reducible exact LeO.refl _)
      | (with_reducible exact LeO.none _)
      | (with_reducible refine LeO.ite ?_ ?_)
      | (with_reducible refine LeO.bind ?_ (fun _ => ?_))
      | exact ih0 _ _ _
      | exact ih1 _ _ _
      | exact numnahlaw09_awake.mono _
      | exact numnahlaw09_tame.mono _ _ _
      | exact parse_Turns.mono _ _
      | exact LeO.none _
      | refine LeO.ite ?_ ?_
      | refine LeO.bind ?_ (fun _ => ?_)
theorem numnahlaw09_ParseDoubled.mono : ∀ a0 k, LeO (numnahlaw09_ParseDoubled.f k a0) (numnahlaw09_ParseDoubled.f (k + 1) a0) := by
  intro a0 k
  obtain ⟨ih0, ih1⟩ := numnahlaw09_ParseDoubled.mono_l k
  unfold numnahlaw09_ParseDoubled.f
  repeat' first
      | (with_reducible exact ih0 _ _ _)
      | (with_reducible exact ih1 _ _ _)
      | (with_reducible exact numnahlaw09_awake.mono _)
      | (with_reducible exact numnahlaw09_tame.mono _ _ _)
      | (with_reducible exact parse_Turns.mono _ _)
      | (with_reducible exact LeO.refl _)
      | (with_reducible exact LeO.none _)
      | (with_reducible refine LeO.ite ?_ ?_)
      | (with_reducible refine LeO.bind ?_ (fun _ => ?_))
      | exact ih0 _ _ _
      | exact ih1 _ _ _
      | exact numnahlaw09_awake.mono _
      | exact numnahlaw09_tame.mono _ _ _
      | exact parse_Turns.mono _ _
      | exact LeO.none _
      | refine LeO.ite ?_ ?_
      | refine LeO.bind ?_ (fun _ => ?_)
set_option maxHeartbeats 8000000 in
set_option maxRecDepth 100000 in
theorem numnahlaw09_ParseDoubled.calls (k : Nat) (a0 : ByteArray) (r : Bool) (w : World) (hG : GW w) (h : numnahlaw09_ParseDoubled.f k a0 = some r) :
    Calls Tryd.prog 4 #[.string a0] w fun e w' => e = .returned (.bool r) ∧ Below w.heap.size w w' := by
  have HB := Aside0.mk (Below.refl w.heap.size w)
  have H : ((numnahlaw09_tame.f k a0 80).bind fun t318 => ((parse_Copying.f t318).bind fun bt319 => (if t318.size + t318.size ≤ 9223372036854775807 then ((parse_Copying.f (t318 ++ t318)).bind fun bt323 => ((parse_Turns.f k t318).bind fun bt327 => ((parse_Turns.f k (t318 ++ t318)).bind fun bt330 => (if bt319.2 = 0 then (if bt323.2 = 0 then (if bt327.2.2 = 0 then (if bt330.2.2 = 0 then (if (bt323.1.length : Int) < (bt319.1.length : Int) then (numnahlaw09_ParseDoubled.j0 k bt327.1 bt330.1 true) else (if (bt323.1.length : Int) > (wrap64 ((bt319.1.length : Int) + 1)) then (numnahlaw09_ParseDoubled.j0 k bt327.1 bt330.1 true) else (if (bt327.1.size : Int) = (t318.size : Int) then (if (bt330.1.size : Int) = (wrap64 (2 * (t318.size : Int))) then (numnahlaw09_ParseDoubled.j0 k bt327.1 bt330.1 (bt330.2.1 != (wrap64 (2 * bt327.2.1)))) else (numnahlaw09_ParseDoubled.j0 k bt327.1 bt330.1 true)) else (numnahlaw09_ParseDoubled.j0 k bt327.1 bt330.1 true)))) else (numnahlaw09_ParseDoubled.j0 k bt327.1 bt330.1 true)) else (numnahlaw09_ParseDoubled.j0 k bt327.1 bt330.1 true)) else (numnahlaw09_ParseDoubled.j0 k bt327.1 bt330.1 true)) else (numnahlaw09_ParseDoubled.j0 k bt327.1 bt330.1 true))))) else (none)))) = some r := h
  clear h
  replace H := Option.bind_eq_some_iff.mp H
  obtain ⟨t318, A20, H⟩ := H
  replace H : ((parse_Copying.f t318).bind fun bt319 => (if t318.size + t318.size ≤ 9223372036854775807 then ((parse_Copying.f (t318 ++ t318)).bind fun bt323 => ((parse_Turns.f k t318).bind fun bt327 => ((parse_Turns.f k (t318 ++ t318)).bind fun bt330 => (if bt319.2 = 0 then (if bt323.2 = 0 then (if bt327.2.2 = 0 then (if bt330.2.2 = 0 then (if (bt323.1.length : Int) < (bt319.1.length : Int) then (numnahlaw09_ParseDoubled.j0 k bt327.1 bt330.1 true) else (if (bt323.1.length : Int) > (wrap64 ((bt319.1.length : Int) + 1)) then (numnahlaw09_ParseDoubled.j0 k bt327.1 bt330.1 true) else (if (bt327.1.size : Int) = (t318.size : Int) then (if (bt330.1.size : Int) = (wrap64 (2 * (t318.size : Int))) then (numnahlaw09_ParseDoubled.j0 k bt327.1 bt330.1 (bt330.2.1 != (wrap64 (2 * bt327.2.1)))) else (numnahlaw09_ParseDoubled.j0 k bt327.1 bt330.1 true)) else (numnahlaw09_ParseDoubled.j0 k bt327.1 bt330.1 true)))) else (numnahlaw09_ParseDoubled.j0 k bt327.1 bt330.1 true)) else (numnahlaw09_ParseDoubled.j0 k bt327.1 bt330.1 true)) else (numnahlaw09_ParseDoubled.j0 k bt327.1 bt330.1 true)) else (numnahlaw09_ParseDoubled.j0 k bt327.1 bt330.1 true))))) else (none))) = some r := H
  have A2 := Aside0.mk A20
  clear A20
  replace H := Option.bind_eq_some_iff.mp H
  obtain ⟨⟨t319, t320⟩, A30, H⟩ := H
  replace H : (if t318.size + t318.size ≤ 9223372036854775807 then ((parse_Copying.f (t318 ++ t318)).bind fun bt323 => ((parse_Turns.f k t318).bind fun bt327 => ((parse_Turns.f k (t318 ++ t318)).bind fun bt330 => (if t320 = 0 then (if bt323.2 = 0 then (if bt327.2.2 = 0 then (if bt330.2.2 = 0 then (if (bt323.1.length : Int) < (t319.length : Int) then (numnahlaw09_ParseDoubled.j0 k bt327.1 bt330.1 true) else (if (bt323.1.length : Int) > (wrap64 ((t319.length : Int) + 1)) then (numnahlaw09_ParseDoubled.j0 k bt327.1 bt330.1 true) else (if (bt327.1.size : Int) = (t318.size : Int) then (if (bt330.1.size : Int) = (wrap64 (2 * (t318.size : Int))) then (numnahlaw09_ParseDoubled.j0 k bt327.1 bt330.1 (bt330.2.1 != (wrap64 (2 * bt327.2.1)))) else (numnahlaw09_ParseDoubled.j0 k bt327.1 bt330.1 true)) else (numnahlaw09_ParseDoubled.j0 k bt327.1 bt330.1 true)))) else (numnahlaw09_ParseDoubled.j0 k bt327.1 bt330.1 true)) else (numnahlaw09_ParseDoubled.j0 k bt327.1 bt330.1 true)) else (numnahlaw09_ParseDoubled.j0 k bt327.1 bt330.1 true)) else (numnahlaw09_ParseDoubled.j0 k bt327.1 bt330.1 true))))) else (none)) = some r := H
  have A3 := Aside0.mk A30
  clear A30
  by_cases c4 : t318.size + t318.size ≤ 9223372036854775807
  · rw [if_pos c4] at H
    have c4b0 := eq_true c4
    have c4b1 : decide (t318.size + t318.size ≤ 9223372036854775807) = true := decide_eq_true c4
    try have c4b2 : (9223372036854775807 < t318.size + t318.size) = False := eq_false (Nat.not_lt.2 c4)
    replace H := Option.bind_eq_some_iff.mp H
    obtain ⟨⟨t323, t324⟩, A50, H⟩ := H
    replace H : ((parse_Turns.f k t318).bind fun bt327 => ((parse_Turns.f k (t318 ++ t318)).bind fun bt330 => (if t320 = 0 then (if t324 = 0 then (if bt327.2.2 = 0 then (if bt330.2.2 = 0 then (if (t323.length : Int) < (t319.length : Int) then (numnahlaw09_ParseDoubled.j0 k bt327.1 bt330.1 true) else (if (t323.length : Int) > (wrap64 ((t319.length : Int) + 1)) then (numnahlaw09_ParseDoubled.j0 k bt327.1 bt330.1 true) else (if (bt327.1.size : Int) = (t318.size : Int) then (if (bt330.1.size : Int) = (wrap64 (2 * (t318.size : Int))) then (numnahlaw09_ParseDoubled.j0 k bt327.1 bt330.1 (bt330.2.1 != (wrap64 (2 * bt327.2.1)))) else (numnahlaw09_ParseDoubled.j0 k bt327.1 bt330.1 true)) else (numnahlaw09_ParseDoubled.j0 k bt327.1 bt330.1 true)))) else (numnahlaw09_ParseDoubled.j0 k bt327.1 bt330.1 true)) else (numnahlaw09_ParseDoubled.j0 k bt327.1 bt330.1 true)) else (numnahlaw09_ParseDoubled.j0 k bt327.1 bt330.1 true)) else (numnahlaw09_ParseDoubled.j0 k bt327.1 bt330.1 true)))) = some r := H
    have A5 := Aside0.mk A50
    clear A50
    replace H := Option.bind_eq_some_iff.mp H
    obtain ⟨⟨t327, t328, t329⟩, A60, H⟩ := H
    replace H : ((parse_Turns.f k (t318 ++ t318)).bind fun bt330 => (if t320 = 0 then (if t324 = 0 then (if t329 = 0 then (if bt330.2.2 = 0 then (if (t323.length : Int) < (t319.length : Int) then (numnahlaw09_ParseDoubled.j0 k t327 bt330.1 true) else (if (t323.length : Int) > (wrap64 ((t319.length : Int) + 1)) then (numnahlaw09_ParseDoubled.j0 k t327 bt330.1 true) else (if (t327.size : Int) = (t318.size : Int) then (if (bt330.1.size : Int) = (wrap64 (2 * (t318.size : Int))) then (numnahlaw09_ParseDoubled.j0 k t327 bt330.1 (bt330.2.1 != (wrap64 (2 * t328)))) else (numnahlaw09_ParseDoubled.j0 k t327 bt330.1 true)) else (numnahlaw09_ParseDoubled.j0 k t327 bt330.1 true)))) else (numnahlaw09_ParseDoubled.j0 k t327 bt330.1 true)) else (numnahlaw09_ParseDoubled.j0 k t327 bt330.1 true)) else (numnahlaw09_ParseDoubled.j0 k t327 bt330.1 true)) else (numnahlaw09_ParseDoubled.j0 k t327 bt330.1 true))) = some r := H
    have A6 := Aside0.mk A60
    clear A60
    replace H := Option.bind_eq_some_iff.mp H
    obtain ⟨⟨t330, t331, t332⟩, A70, H⟩ := H
    replace H : (if t320 = 0 then (if t324 = 0 then (if t329 = 0 then (if t332 = 0 then (if (t323.length : Int) < (t319.length : Int) then (numnahlaw09_ParseDoubled.j0 k t327 t330 true) else (if (t323.length : Int) > (wrap64 ((t319.length : Int) + 1)) then (numnahlaw09_ParseDoubled.j0 k t327 t330 true) else (if (t327.size : Int) = (t318.size : Int) then (if (t330.size : Int) = (wrap64 (2 * (t318.size : Int))) then (numnahlaw09_ParseDoubled.j0 k t327 t330 (t331 != (wrap64 (2 * t328)))) else (numnahlaw09_ParseDoubled.j0 k t327 t330 true)) else (numnahlaw09_ParseDoubled.j0 k t327 t330 true)))) else (numnahlaw09_ParseDoubled.j0 k t327 t330 true)) else (numnahlaw09_ParseDoubled.j0 k t327 t330 true)) else (numnahlaw09_ParseDoubled.j0 k t327 t330 true)) else (numnahlaw09_ParseDoubled.j0 k t327 t330 true)) = some r := H
    have A7 := Aside0.mk A70
    clear A70
    have HC8 := Aside0.mk H
    clear H
    go_enter Tryd.func4, Tryd.ntmps4
    go_upto_region 6 with (first | (go_at_call 29; (with_reducible refine (numnahlaw09_tame.calls k a0 80 t318 _ A2.out).mono ?_); rintro e w9 ⟨rfl, hb⟩; have n0_ := Aside0.mk (below_step (by repeat (first | (with_reducible first | exact HB.out | apply below_alloc | apply pw_below_drewN | apply below_drew1) | exact HB.out)) hb); clear HB; have HB := n0_; clear n0_; (try clear hb); (try clear hb2); (try clear hk); (try clear hi)) | (go_at_call 22; (with_reducible refine (parse_Copying.calls (hG := ?hg) t318 t319 t320 _ A3.out).mono ?_); (case hg => exact gw_now hG (by repeat (first | (with_reducible first | exact HB.out | apply below_alloc | apply pw_below_drewN | apply below_drew1) | exact HB.out))); rintro e w10 ⟨v321, rfl, ho0, hb⟩; have n0_ := Aside0.mk (Kd.R_lower ho0 (below_size (by repeat (first | (with_reducible first | exact HB.out | apply below_alloc | apply pw_below_drewN | apply below_drew1) | exact HB.out)))); have n1_ := Aside0.mk (below_step (by repeat (first | (with_reducible first | exact HB.out | apply below_alloc | apply pw_below_drewN | apply below_drew1) | exact HB.out)) hb); clear HB; have HO322 := n0_; have HB := n1_; clear n0_ n1_; (try clear hb); (try clear hb2); (try clear hk); (try clear hi); (try clear ho0)) | (go_at_call 22; (with_reducible refine (parse_Copying.calls (hG := ?hg) (t318 ++ t318) t323 t324 _ A5.out).mono ?_); (case hg => exact gw_now hG (by repeat (first | (with_reducible first | exact HB.out | apply below_alloc | apply pw_below_drewN | apply below_drew1) | exact HB.out))); rintro e w11 ⟨v325, rfl, ho0, hb⟩; have n0_ := Aside0.mk (Kd.R_elder' (by (with_reducible repeat (first | apply Kd.R_alloc | apply Kd.R_drewN | apply Kd.R_drew)); exact HO322.out) (Kd.R_base ho0) hb); have n1_ := Aside0.mk (Kd.R_lower (Kd.R_new' ho0 (Kd.R_lt (by (with_reducible repeat (first | apply Kd.R_alloc | apply Kd.R_drewN | apply Kd.R_drew)); exact HO322.out))) (below_size (by repeat (first | (with_reducible first | exact HB.out | apply below_alloc | apply pw_below_drewN | apply below_drew1) | exact HB.out)))); have n2_ := Aside0.mk (below_step (by repeat (first | (with_reducible first | exact HB.out | apply below_alloc | apply pw_below_drewN | apply below_drew1) | exact HB.out)) hb); clear HO322; clear HB; have HO322 := n0_; have HO326 := n1_; have HB := n2_; clear n0_ n1_ n2_; (try clear hb); (try clear hb2); (try clear hk); (try clear hi); (try clear ho0)) | (go_at_call 30; (with_reducible refine (parse_Turns.calls k t318 t327 t328 t329 _ A6.out).mono ?_); rintro e w12 ⟨rfl, hb⟩; have n0_ := Aside0.mk (Kd.R_below (by (with_reducible repeat (first | apply Kd.R_alloc | apply Kd.R_drewN | apply Kd.R_drew)); exact HO322.out) hb); have n1_ := Aside0.mk (Kd.R_below (by (with_reducible repeat (first | apply Kd.R_alloc | apply Kd.R_drewN | apply Kd.R_drew)); exact HO326.out) hb); have n2_ := Aside0.mk (below_step (by repeat (first | (with_reducible first | exact HB.out | apply below_alloc | apply pw_below_drewN | apply below_drew1) | exact HB.out)) hb); clear HO322; clear HO326; clear HB; have HO322 := n0_; have HO326 := n1_; have HB := n2_; clear n0_ n1_ n2_; (try clear hb); (try clear hb2); (try clear hk); (try clear hi)) | (go_at_call 30; (with_reducible refine (parse_Turns.calls k (t318 ++ t318) t330 t331 t332 _ A7.out).mono ?_); rintro e w13 ⟨rfl, hb⟩; have n0_ := Aside0.mk (Kd.R_below (by (with_reducible repeat (first | apply Kd.R_alloc | apply Kd.R_drewN | apply Kd.R_drew)); exact HO322.out) hb); have n1_ := Aside0.mk (Kd.R_below (by (with_reducible repeat (first | apply Kd.R_alloc | apply Kd.R_drewN | apply Kd.R_drew)); exact HO326.out) hb); have n2_ := Aside0.mk (below_step (by repeat (first | (with_reducible first | exact HB.out | apply below_alloc | apply pw_below_drewN | apply below_drew1) | exact HB.out)) hb); clear HO322; clear HO326; clear HB; have HO322 := n0_; have HO326 := n1_; have HB := n2_; clear n0_ n1_ n2_; (try clear hb); (try clear hb2); (try clear hk); (try clear hi)))
    repeat (go_quiet (first | (go_at_call 29; (with_reducible refine (numnahlaw09_tame.calls k a0 80 t318 _ A2.out).mono ?_); rintro e w9 ⟨rfl, hb⟩; have n0_ := Aside0.mk (below_step (by repeat (first | (with_reducible first | exact HB.out | apply below_alloc | apply pw_below_drewN | apply below_drew1) | exact HB.out)) hb); clear HB; have HB := n0_; clear n0_; (try clear hb); (try clear hb2); (try clear hk); (try clear hi)) | (go_at_call 22; (with_reducible refine (parse_Copying.calls (hG := ?hg) t318 t319 t320 _ A3.out).mono ?_); (case hg => exact gw_now hG (by repeat (first | (with_reducible first | exact HB.out | apply below_alloc | apply pw_below_drewN | apply below_drew1) | exact HB.out))); rintro e w10 ⟨v321, rfl, ho0, hb⟩; have n0_ := Aside0.mk (Kd.R_lower ho0 (below_size (by repeat (first | (with_reducible first | exact HB.out | apply below_alloc | apply pw_below_drewN | apply below_drew1) | exact HB.out)))); have n1_ := Aside0.mk (below_step (by repeat (first | (with_reducible first | exact HB.out | apply below_alloc | apply pw_below_drewN | apply below_drew1) | exact HB.out)) hb); clear HB; have HO322 := n0_; have HB := n1_; clear n0_ n1_; (try clear hb); (try clear hb2); (try clear hk); (try clear hi); (try clear ho0)) | (go_at_call 22; (with_reducible refine (parse_Copying.calls (hG := ?hg) (t318 ++ t318) t323 t324 _ A5.out).mono ?_); (case hg => exact gw_now hG (by repeat (first | (with_reducible first | exact HB.out | apply below_alloc | apply pw_below_drewN | apply below_drew1) | exact HB.out))); rintro e w11 ⟨v325, rfl, ho0, hb⟩; have n0_ := Aside0.mk (Kd.R_elder' (by (with_reducible repeat (first | apply Kd.R_alloc | apply Kd.R_drewN | apply Kd.R_drew)); exact HO322.out) (Kd.R_base ho0) hb); have n1_ := Aside0.mk (Kd.R_lower (Kd.R_new' ho0 (Kd.R_lt (by (with_reducible repeat (first | apply Kd.R_alloc | apply Kd.R_drewN | apply Kd.R_drew)); exact HO322.out))) (below_size (by repeat (first | (with_reducible first | exact HB.out | apply below_alloc | apply pw_below_drewN | apply below_drew1) | exact HB.out)))); have n2_ := Aside0.mk (below_step (by repeat (first | (with_reducible first | exact HB.out | apply below_alloc | apply pw_below_drewN | apply below_drew1) | exact HB.out)) hb); clear HO322; clear HB; have HO322 := n0_; have HO326 := n1_; have HB := n2_; clear n0_ n1_ n2_; (try clear hb); (try clear hb2); (try clear hk); (try clear hi); (try clear ho0)) | (go_at_call 30; (with_reducible refine (parse_Turns.calls k t318 t327 t328 t329 _ A6.out).mono ?_); rintro e w12 ⟨rfl, hb⟩; have n0_ := Aside0.mk (Kd.R_below (by (with_reducible repeat (first | apply Kd.R_alloc | apply Kd.R_drewN | apply Kd.R_drew)); exact HO322.out) hb); have n1_ := Aside0.mk (Kd.R_below (by (with_reducible repeat (first | apply Kd.R_alloc | apply Kd.R_drewN | apply Kd.R_drew)); exact HO326.out) hb); have n2_ := Aside0.mk (below_step (by repeat (first | (with_reducible first | exact HB.out | apply below_alloc | apply pw_below_drewN | apply below_drew1) | exact HB.out)) hb); clear HO322; clear HO326; clear HB; have HO322 := n0_; have HO326 := n1_; have HB := n2_; clear n0_ n1_ n2_; (try clear hb); (try clear hb2); (try clear hk); (try clear hi)) | (go_at_call 30; (with_reducible refine (parse_Turns.calls k (t318 ++ t318) t330 t331 t332 _ A7.out).mono ?_); rintro e w13 ⟨rfl, hb⟩; have n0_ := Aside0.mk (Kd.R_below (by (with_reducible repeat (first | apply Kd.R_alloc | apply Kd.R_drewN | apply Kd.R_drew)); exact HO322.out) hb); have n1_ := Aside0.mk (Kd.R_below (by (with_reducible repeat (first | apply Kd.R_alloc | apply Kd.R_drewN | apply Kd.R_drew)); exact HO326.out) hb); have n2_ := Aside0.mk (below_step (by repeat (first | (with_reducible first | exact HB.out | apply below_alloc | apply pw_below_drewN | apply below_drew1) | exact HB.out)) hb); clear HO322; clear HO326; clear HB; have HO322 := n0_; have HO326 := n1_; have HB := n2_; clear n0_ n1_ n2_; (try clear hb); (try clear hb2); (try clear hk); (try clear hi))); go_upto_region 6 with (first | (go_at_call 29; (with_reducible refine (numnahlaw09_tame.calls k a0 80 t318 _ A2.out).mono ?_); rintro e w9 ⟨rfl, hb⟩; have n0_ := Aside0.mk (below_step (by repeat (first | (with_reducible first | exact HB.out | apply below_alloc | apply pw_below_drewN | apply below_drew1) | exact HB.out)) hb); clear HB; have HB := n0_; clear n0_; (try clear hb); (try clear hb2); (try clear hk); (try clear hi)) | (go_at_call 22; (with_reducible refine (parse_Copying.calls (hG := ?hg) t318 t319 t320 _ A3.out).mono ?_); (case hg => exact gw_now hG (by repeat (first | (with_reducible first | exact HB.out | apply below_alloc | apply pw_below_drewN | apply below_drew1) | exact HB.out))); rintro e w10 ⟨v321, rfl, ho0, hb⟩; have n0_ := Aside0.mk (Kd.R_lower ho0 (below_size (by repeat (first | (with_reducible first | exact HB.out | apply below_alloc | apply pw_below_drewN | apply below_drew1) | exact HB.out)))); have n1_ := Aside0.mk (below_step (by repeat (first | (with_reducible first | exact HB.out | apply below_alloc | apply pw_below_drewN | apply below_drew1) | exact HB.out)) hb); clear HB; have HO322 := n0_; have HB := n1_; clear n0_ n1_; (try clear hb); (try clear hb2); (try clear hk); (try clear hi); (try clear ho0)) | (go_at_call 22; (with_reducible refine (parse_Copying.calls (hG := ?hg) (t318 ++ t318) t323 t324 _ A5.out).mono ?_); (case hg => exact gw_now hG (by repeat (first | (with_reducible first | exact HB.out | apply below_alloc | apply pw_below_drewN | apply below_drew1) | exact HB.out))); rintro e w11 ⟨v325, rfl, ho0, hb⟩; have n0_ := Aside0.mk (Kd.R_elder' (by (with_reducible repeat (first | apply Kd.R_alloc | apply Kd.R_drewN | apply Kd.R_drew)); exact HO322.out) (Kd.R_base ho0) hb); have n1_ := Aside0.mk (Kd.R_lower (Kd.R_new' ho0 (Kd.R_lt (by (with_reducible repeat (first | apply Kd.R_alloc | apply Kd.R_drewN | apply Kd.R_drew)); exact HO322.out))) (below_size (by repeat (first | (with_reducible first | exact HB.out | apply below_alloc | apply pw_below_drewN | apply below_drew1) | exact HB.out)))); have n2_ := Aside0.mk (below_step (by repeat (first | (with_reducible first | exact HB.out | apply below_alloc | apply pw_below_drewN | apply below_drew1) | exact HB.out)) hb); clear HO322; clear HB; have HO322 := n0_; have HO326 := n1_; have HB := n2_; clear n0_ n1_ n2_; (try clear hb); (try clear hb2); (try clear hk); (try clear hi); (try clear ho0)) | (go_at_call 30; (with_reducible refine (parse_Turns.calls k t318 t327 t328 t329 _ A6.out).mono ?_); rintro e w12 ⟨rfl, hb⟩; have n0_ := Aside0.mk (Kd.R_below (by (with_reducible repeat (first | apply Kd.R_alloc | apply Kd.R_drewN | apply Kd.R_drew)); exact HO322.out) hb); have n1_ := Aside0.mk (Kd.R_below (by (with_reducible repeat (first | apply Kd.R_alloc | apply Kd.R_drewN | apply Kd.R_drew)); exact HO326.out) hb); have n2_ := Aside0.mk (below_step (by repeat (first | (with_reducible first | exact HB.out | apply below_alloc | apply pw_below_drewN | apply below_drew1) | exact HB.out)) hb); clear HO322; clear HO326; clear HB; have HO322 := n0_; have HO326 := n1_; have HB := n2_; clear n0_ n1_ n2_; (try clear hb); (try clear hb2); (try clear hk); (try clear hi)) | (go_at_call 30; (with_reducible refine (parse_Turns.calls k (t318 ++ t318) t330 t331 t332 _ A7.out).mono ?_); rintro e w13 ⟨rfl, hb⟩; have n0_ := Aside0.mk (Kd.R_below (by (with_reducible repeat (first | apply Kd.R_alloc | apply Kd.R_drewN | apply Kd.R_drew)); exact HO322.out) hb); have n1_ := Aside0.mk (Kd.R_below (by (with_reducible repeat (first | apply Kd.R_alloc | apply Kd.R_drewN | apply Kd.R_drew)); exact HO326.out) hb); have n2_ := Aside0.mk (below_step (by repeat (first | (with_reducible first | exact HB.out | apply below_alloc | apply pw_below_drewN | apply below_drew1) | exact HB.out)) hb); clear HO322; clear HO326; clear HB; have HO322 := n0_; have HO326 := n1_; have HB := n2_; clear n0_ n1_ n2_; (try clear hb); (try clear hb2); (try clear hk); (try clear hi))))
    (try simp only [Act.put, List.setIfInBounds_toArray, List.set_cons_zero, List.set_cons_succ])
    go_cut [92] (fun v92 wc => ∃ (kq : Nat) (x92_7 : Bool), v92 = .bool x92_7 ∧ Aside0 (numnahlaw09_ParseDoubled.j0 kq t327 t330 x92_7 = some r) ∧ Aside0 (kq ≤ k) ∧ Aside0 (Below w.heap.size w wc))
    case first =>
      have H := HC8.out
      clear HC8
      by_cases c14 : t320 = 0
      · rw [if_pos c14] at H
        have c14b0 : (t320 == 0) = true := beq_iff_eq.mpr c14
        have c14b1 : (t320 != 0) = false := bne_eq_false_iff_eq.mpr c14
        clear c14
        (first | rw [c14b0] | (simp only [i64_w, i32_w]; rw [c14b0]) | skip)
        by_cases c15 : t324 = 0
        · rw [if_pos c15] at H
          have c15b0 : (t324 == 0) = true := beq_iff_eq.mpr c15
          have c15b1 : (t324 != 0) = false := bne_eq_false_iff_eq.mpr c15
          clear c15
          by_cases c16 : t329 = 0
          · rw [if_pos c16] at H
            have c16b0 : (t329 == 0) = true := beq_iff_eq.mpr c16
            have c16b1 : (t329 != 0) = false := bne_eq_false_iff_eq.mpr c16
            clear c16
            by_cases c17 : t332 = 0
            · rw [if_pos c17] at H
              have c17b0 : (t332 == 0) = true := beq_iff_eq.mpr c17
              have c17b1 : (t332 != 0) = false := bne_eq_false_iff_eq.mpr c17
              clear c17
              by_cases c18 : (t323.length : Int) < (t319.length : Int)
              · rw [if_pos c18] at H
                have c18b0 : decide ((t323.length : Int) < (t319.length : Int)) = true := decide_eq_true c18
                have c18b1 : decide (t323.length < t319.length) = true := decide_eq_true (Int.ofNat_lt.mp c18)
                clear c18
                have H' := Aside0.mk H
                clear H
                obtain ⟨Ao19, co19, eo19⟩ := Kd.R_slice HO326.out
                subst eo19
                obtain ⟨Ao20, co20, eo20⟩ := Kd.R_slice HO322.out
                subst eo20
                go_wp2
                repeat (go_quiet (fail); try go_wp2)
                go_meet
                case rel => exact ⟨_, (true), (by first | rfl | (simp; done) | (simp [*]; done)), H', ⟨by first | omega | exact Nat.le_refl _⟩, ⟨by repeat (first | (with_reducible first | exact HB.out | apply below_alloc | apply pw_below_drewN | apply below_drew1) | exact HB.out)⟩⟩
              · rw [if_neg c18] at H
                have c18b0 : decide ((t323.length : Int) < (t319.length : Int)) = false := decide_eq_false c18
                have c18b1 : decide (t323.length < t319.length) = false := decide_eq_false (fun h => c18 (Int.ofNat_lt.mpr h))
                clear c18
                by_cases c21 : (t323.length : Int) > (wrap64 ((t319.length : Int) + 1))
                · rw [if_pos c21] at H
                  have c21b0 : decide ((wrap64 ((t319.length : Int) + 1)) < (t323.length : Int)) = true := decide_eq_true c21
                  clear c21
                  have H' := Aside0.mk H
                  clear H
                  obtain ⟨Ao22, co22, eo22⟩ := Kd.R_slice HO326.out
                  subst eo22
                  obtain ⟨Ao23, co23, eo23⟩ := Kd.R_slice HO322.out
                  subst eo23
                  go_wp2
                  repeat (go_quiet (fail); try go_wp2)
                  go_meet
                  case rel => exact ⟨_, (true), (by first | rfl | (simp; done) | (simp [*]; done)), H', ⟨by first | omega | exact Nat.le_refl _⟩, ⟨by repeat (first | (with_reducible first | exact HB.out | apply below_alloc | apply pw_below_drewN | apply below_drew1) | exact HB.out)⟩⟩
                · rw [if_neg c21] at H
                  have c21b0 : decide ((wrap64 ((t319.length : Int) + 1)) < (t323.length : Int)) = false := decide_eq_false c21
                  clear c21
                  by_cases c24 : (t327.size : Int) = (t318.size : Int)
                  · rw [if_pos c24] at H
                    have c24b0 : ((t327.size : Int) == (t318.size : Int)) = true := beq_iff_eq.mpr c24
                    have c24b1 : ((t327.size : Int) != (t318.size : Int)) = false := bne_eq_false_iff_eq.mpr c24
                    have c24b2 : (t327.size == t318.size) = true := by first | simpa using c24 | (simp at c24 ⊢; omega)
                    clear c24
                    by_cases c25 : (t330.size : Int) = (wrap64 (2 * (t318.size : Int)))
                    · rw [if_pos c25] at H
                      have c25b0 : ((t330.size : Int) == (wrap64 (2 * (t318.size : Int)))) = true := beq_iff_eq.mpr c25
                      have c25b1 : ((t330.size : Int) != (wrap64 (2 * (t318.size : Int)))) = false := bne_eq_false_iff_eq.mpr c25
                      have w_ : wrap64 (2 * (t318.size : Int)) = 2 * (t318.size : Int) := by have := of_eq_true c4b0; unfold wrap64; omega
                      have c25z_ : ((t330.size : Int) = 2 * (t318.size : Int)) = True := eq_true (w_ ▸ c25)
                      clear w_
                      clear c25
                      have H' := Aside0.mk H
                      clear H
                      obtain ⟨Ao26, co26, eo26⟩ := Kd.R_slice HO326.out
                      subst eo26
                      obtain ⟨Ao27, co27, eo27⟩ := Kd.R_slice HO322.out
                      subst eo27
                      go_wp2
                      repeat (go_quiet (fail); try go_wp2)
                      go_meet
                      case rel => exact ⟨_, ((t331 != (wrap64 (2 * t328)))), (by first | rfl | (simp; done) | (simp [*]; done)), H', ⟨by first | omega | exact Nat.le_refl _⟩, ⟨by repeat (first | (with_reducible first | exact HB.out | apply below_alloc | apply pw_below_drewN | apply below_drew1) | exact HB.out)⟩⟩
                    · rw [if_neg c25] at H
                      have w_ : wrap64 (2 * (t318.size : Int)) = 2 * (t318.size : Int) := by have := of_eq_true c4b0; unfold wrap64; omega
                      have c25z_ : ((t330.size : Int) = 2 * (t318.size : Int)) = False := eq_false (w_ ▸ c25)
                      clear w_
                      have c25b0 : ((t330.size : Int) == (wrap64 (2 * (t318.size : Int)))) = false := beq_eq_false_iff_ne.mpr c25
                      have c25b1 : ((t330.size : Int) != (wrap64 (2 * (t318.size : Int)))) = true := bne_iff_ne.mpr c25
                      have H' := Aside0.mk H
                      clear H
                      obtain ⟨Ao28, co28, eo28⟩ := Kd.R_slice HO326.out
                      subst eo28
                      obtain ⟨Ao29, co29, eo29⟩ := Kd.R_slice HO322.out
                      subst eo29
                      go_wp2
                      repeat (go_quiet (fail); try go_wp2)
                      go_meet
                      case rel => exact ⟨_, (true), (by first | rfl | (simp; done) | (simp [*]; done)), H', ⟨by first | omega | exact Nat.le_refl _⟩, ⟨by repeat (first | (with_reducible first | exact HB.out | apply below_alloc | apply pw_below_drewN | apply below_drew1) | exact HB.out)⟩⟩
                  · rw [if_neg c24] at H
                    have c24b0 : ((t327.size : Int) == (t318.size : Int)) = false := beq_eq_false_iff_ne.mpr c24
                    have c24b1 : ((t327.size : Int) != (t318.size : Int)) = true := bne_iff_ne.mpr c24
                    have c24b2 : (t327.size == t318.size) = false := by first | simpa using c24 | (simp at c24 ⊢; omega)
                    have H' := Aside0.mk H
                    clear H
                    obtain ⟨Ao30, co30, eo30⟩ := Kd.R_slice HO326.out
                    subst eo30
                    obtain ⟨Ao31, co31, eo31⟩ := Kd.R_slice HO322.out
                    subst eo31
                    go_wp2
                    repeat (go_quiet (fail); try go_wp2)
                    go_meet
                    case rel => exact ⟨_, (true), (by first | rfl | (simp; done) | (simp [*]; done)), H', ⟨by first | omega | exact Nat.le_refl _⟩, ⟨by repeat (first | (with_reducible first | exact HB.out | apply below_alloc | apply pw_below_drewN | apply below_drew1) | exact HB.out)⟩⟩
            · rw [if_neg c17] at H
              have c17b0 : (t332 == 0) = false := beq_eq_false_iff_ne.mpr c17
              have c17b1 : (t332 != 0) = true := bne_iff_ne.mpr c17
              have H' := Aside0.mk H
              clear H
              go_wp2
              repeat (go_quiet (fail); try go_wp2)
              go_meet
              case rel => exact ⟨_, (true), (by first | rfl | (simp; done) | (simp [*]; done)), H', ⟨by first | omega | exact Nat.le_refl _⟩, ⟨by repeat (first | (with_reducible first | exact HB.out | apply below_alloc | apply pw_below_drewN | apply below_drew1) | exact HB.out)⟩⟩
          · rw [if_neg c16] at H
            have c16b0 : (t329 == 0) = false := beq_eq_false_iff_ne.mpr c16
            have c16b1 : (t329 != 0) = true := bne_iff_ne.mpr c16
            have H' := Aside0.mk H
            clear H
            go_wp2
            repeat (go_quiet (fail); try go_wp2)
            go_meet
            case rel => exact ⟨_, (true), (by first | rfl | (simp; done) | (simp [*]; done)), H', ⟨by first | omega | exact Nat.le_refl _⟩, ⟨by repeat (first | (with_reducible first | exact HB.out | apply below_alloc | apply pw_below_drewN | apply below_drew1) | exact HB.out)⟩⟩
        · rw [if_neg c15] at H
          have c15b0 : (t324 == 0) = false := beq_eq_false_iff_ne.mpr c15
          have c15b1 : (t324 != 0) = true := bne_iff_ne.mpr c15
          have H' := Aside0.mk H
          clear H
          go_wp2
          repeat (go_quiet (fail); try go_wp2)
          go_meet
          case rel => exact ⟨_, (true), (by first | rfl | (simp; done) | (simp [*]; done)), H', ⟨by first | omega | exact Nat.le_refl _⟩, ⟨by repeat (first | (with_reducible first | exact HB.out | apply below_alloc | apply pw_below_drewN | apply below_drew1) | exact HB.out)⟩⟩
      · rw [if_neg c14] at H
        have c14b0 : (t320 == 0) = false := beq_eq_false_iff_ne.mpr c14
        have c14b1 : (t320 != 0) = true := bne_iff_ne.mpr c14
        (first | rw [c14b0] | (simp only [i64_w, i32_w]; rw [c14b0]) | skip)
        have H' := Aside0.mk H
        clear H
        go_wp2
        repeat (go_quiet (fail); try go_wp2)
        go_meet
        case rel => exact ⟨_, (true), (by first | rfl | (simp; done) | (simp [*]; done)), H', ⟨by first | omega | exact Nat.le_refl _⟩, ⟨by repeat (first | (with_reducible first | exact HB.out | apply below_alloc | apply pw_below_drewN | apply below_drew1) | exact HB.out)⟩⟩
    case rest =>
      clear HC8
      try clear c1
      try clear c2
      try clear p2
      try clear c4
      try clear c4b0
      try clear c4b1
      try clear c4b2
      try clear p6
      try clear c14
      try clear c14b0
      try clear c14b1
      try clear c15
      try clear c15b0
      try clear c15b1
      try clear c16
      try clear c16b0
      try clear c16b1
      try clear c17
      try clear c17b0
      try clear c17b1
      try clear c18
      try clear c18b0
      try clear c18b1
      try clear c21
      try clear c21b0
      try clear c24
      try clear c24b0
      try clear c24b1
      try clear c24b2
      try clear c25
      try clear c25b0
      try clear c25b1
      obtain ⟨kq, x92_7, rfl, HA, HJ7, HB⟩ := hcut
      cases kq with
      | zero => exact absurd HA.out (by simp [numnahlaw09_ParseDoubled.j0])
      | succ kj7 =>
        have H := HA.out
        clear HA
        simp only [numnahlaw09_ParseDoubled.j0] at H
        by_cases c32 : x92_7 = true
        · subst c32
          have H1 : (some false) = some r := by rw [if_pos rfl] at H; exact H
          clear H
          have H := H1
          clear H1
          obtain rfl := Option.some.inj H
          go_wp2
          repeat (go_quiet (fail); try go_wp2)
          go_ret
          exact ⟨by first | rfl | (simp [errW_none, errW_some] <;> rfl) | (simp [*, errW_none, errW_some] <;> rfl), by repeat (first | (with_reducible first | exact HB.out | apply below_alloc | apply pw_below_drewN | apply below_drew1) | exact HB.out)⟩
        · replace c32 := Bool.eq_false_iff.mpr c32
          subst c32
          have H1 : (numnahlaw09_ParseDoubled.l0 kj7 t327 t330 0) = some r := by rw [if_neg (show ¬ (false = true) by decide)] at H; exact H
          clear H
          have H := H1
          clear H1
          have H' := Aside0.mk H
          clear H
          go_wp2
          repeat (go_quiet (fail); try go_wp2)
          go_loopg [14] kj7 (fun kq v14 w' => ∃ (x14_2 : Int), v14 = .int .i64 x14_2 ∧ Aside0 (numnahlaw09_ParseDoubled.l0 kq t327 t330 x14_2 = some r) ∧ Aside0 (kq ≤ kj7) ∧ Aside0 (Below w.heap.size w w'))
          case atStart => exact ⟨(0), (by first | rfl | (simp; done) | (simp [*]; done)), H', ⟨Nat.le_refl _⟩, ⟨by repeat (first | (with_reducible first | exact HB.out | apply below_alloc | apply pw_below_drewN | apply below_drew1) | exact HB.out)⟩⟩
          case round =>
            clear H'
            try clear c1
            try clear c2
            try clear p2
            try clear c3
            try clear c4
            try clear c4b0
            try clear c4b1
            try clear c4b2
            try clear p6
            try clear c14
            try clear c14b0
            try clear c14b1
            try clear c15
            try clear c15b0
            try clear c15b1
            try clear c16
            try clear c16b0
            try clear c16b1
            try clear c17
            try clear c17b0
            try clear c17b1
            try clear c18
            try clear c18b0
            try clear c18b1
            try clear c21
            try clear c21b0
            try clear c24
            try clear c24b0
            try clear c24b1
            try clear c24b2
            try clear c25
            try clear c25b0
            try clear c25b1
            try clear c32
            try clear p2
            try clear p6
            obtain ⟨x14_2, rfl, HA, HK2, HB⟩ := hrel
            cases gk with
            | zero => exact absurd HA.out (by simp [numnahlaw09_ParseDoubled.l0])
            | succ k2 =>
              have H := HA.out
              clear HA
              simp only [numnahlaw09_ParseDoubled.l0] at H
              by_cases c33 : x14_2 < (t327.size : Int)
              · rw [if_pos c33] at H
                have c33b0 : decide (x14_2 < (t327.size : Int)) = true := decide_eq_true c33
                clear c33
                obtain ⟨ji34, hji34⟩ : ∃ j_ : Int, (wrap64 (2 * x14_2)) = j_ := ⟨_, rfl⟩
                replace H : (if 0 ≤ (ji34) then (if (ji34) < (t330.size : Int) then (if 0 ≤ x14_2 then (if (bt t330 (ji34)) = (bt t327 x14_2) then (if 0 ≤ (wrap64 ((ji34) + 1)) then (if (wrap64 ((ji34) + 1)) < (t330.size : Int) then (if (bt t330 (wrap64 ((ji34) + 1))) = (bt t327 x14_2) then (numnahlaw09_ParseDoubled.l0 k2 t327 t330 (wrap64 (x14_2 + 1))) else (some false)) else (none)) else (none)) else (some false)) else (none)) else (none)) else (none)) = some r := by first | (rw [hji34] at H; exact H) | (simp only [hji34] at H ⊢; exact H)
                have hji34w : (IntKind.i64.wrap (2 * x14_2)) = ji34 := (i64_w _).trans hji34
                by_cases c35 : 0 ≤ (ji34)
                · rw [if_pos c35] at H
                  have c35b0 : decide (0 ≤ (ji34)) = true := decide_eq_true c35
                  clear c35
                  by_cases c36 : (ji34) < (t330.size : Int)
                  · rw [if_pos c36] at H
                    have c36b0 : decide ((ji34) < (t330.size : Int)) = true := decide_eq_true c36
                    clear c36
                    by_cases c38 : 0 ≤ x14_2
                    · rw [if_pos c38] at H
                      have c38b0 : decide (0 ≤ x14_2) = true := decide_eq_true c38
                      clear c38
                      by_cases c40 : (bt t330 (ji34)) = (bt t327 x14_2)
                      · rw [if_pos c40] at H
                        have c40b0 : ((bt t330 (ji34)) == (bt t327 x14_2)) = true := beq_iff_eq.mpr c40
                        have c40b1 : ((bt t330 (ji34)) != (bt t327 x14_2)) = false := bne_eq_false_iff_eq.mpr c40
                        clear c40
                        obtain ⟨ji41, hji41⟩ : ∃ j_ : Int, (wrap64 ((ji34) + 1)) = j_ := ⟨_, rfl⟩
                        replace H : (if 0 ≤ (ji41) then (if (ji41) < (t330.size : Int) then (if (bt t330 (ji41)) = (bt t327 x14_2) then (numnahlaw09_ParseDoubled.l0 k2 t327 t330 (wrap64 (x14_2 + 1))) else (some false)) else (none)) else (none)) = some r := by first | (rw [hji41] at H; exact H) | (simp only [hji41] at H ⊢; exact H)
                        have hji41w : (IntKind.i64.wrap ((ji34) + 1)) = ji41 := (i64_w _).trans hji41
                        by_cases c42 : 0 ≤ (ji41)
                        · rw [if_pos c42] at H
                          have c42b0 : decide (0 ≤ (ji41)) = true := decide_eq_true c42
                          clear c42
                          by_cases c43 : (ji41) < (t330.size : Int)
                          · rw [if_pos c43] at H
                            have c43b0 : decide ((ji41) < (t330.size : Int)) = true := decide_eq_true c43
                            clear c43
                            by_cases c46 : (bt t330 (ji41)) = (bt t327 x14_2)
                            · rw [if_pos c46] at H
                              have c46b0 : ((bt t330 (ji41)) == (bt t327 x14_2)) = true := beq_iff_eq.mpr c46
                              have c46b1 : ((bt t330 (ji41)) != (bt t327 x14_2)) = false := bne_eq_false_iff_eq.mpr c46
                              clear c46
                              have H' := Aside0.mk H
                              clear H
                              have p37 : 0 ≤ ((ji34) : Int) := of_decide_eq_true (by first | (with_reducible assumption) | assumption)
                              have q37 : (ji34) < (t330.size : Int) := of_decide_eq_true (by first | (with_reducible assumption) | assumption)
                              have hx37 := bt_at t330 (ji34)
                              replace p37 := eq_true p37
                              replace q37 := eq_true q37
                              have p39 : 0 ≤ (x14_2 : Int) := of_decide_eq_true (by first | (with_reducible assumption) | assumption)
                              have q39 : x14_2 < (t327.size : Int) := of_decide_eq_true (by first | (with_reducible assumption) | assumption)
                              have hx39 := bt_at t327 x14_2
                              replace p39 := eq_true p39
                              replace q39 := eq_true q39
                              have p44 : 0 ≤ ((ji41) : Int) := of_decide_eq_true (by first | (with_reducible assumption) | assumption)
                              have q44 : (ji41) < (t330.size : Int) := of_decide_eq_true (by first | (with_reducible assumption) | assumption)
                              have hx44 := bt_at t330 (ji41)
                              replace p44 := eq_true p44
                              replace q44 := eq_true q44
                              have p45 : 0 ≤ (x14_2 : Int) := of_decide_eq_true (by first | (with_reducible assumption) | assumption)
                              have q45 : x14_2 < (t327.size : Int) := of_decide_eq_true (by first | (with_reducible assumption) | assumption)
                              have hx45 := bt_at t327 x14_2
                              replace p45 := eq_true p45
                              replace q45 := eq_true q45
                              go_wp2
                              repeat (go_quiet (fail); try go_wp2)
                              go_roundg k2
                              case measure => have := HJ7.out; have := HK2.out; omega
                              case rel => exact ⟨(wrap64 (x14_2 + 1)), (by first | rfl | (simp; done) | (simp [*]; done)), H', ⟨by have := HJ7.out; have := HK2.out; omega⟩, ⟨by repeat (first | (with_reducible first | exact HB.out | apply below_alloc | apply pw_below_drewN | apply below_drew1) | exact HB.out)⟩⟩
                            · rw [if_neg c46] at H
                              have c46b0 : ((bt t330 (ji41)) == (bt t327 x14_2)) = false := beq_eq_false_iff_ne.mpr c46
                              have c46b1 : ((bt t330 (ji41)) != (bt t327 x14_2)) = true := bne_iff_ne.mpr c46
                              obtain rfl := Option.some.inj H
                              have p37 : 0 ≤ ((ji34) : Int) := of_decide_eq_true (by first | (with_reducible assumption) | assumption)
                              have q37 : (ji34) < (t330.size : Int) := of_decide_eq_true (by first | (with_reducible assumption) | assumption)
                              have hx37 := bt_at t330 (ji34)
                              replace p37 := eq_true p37
                              replace q37 := eq_true q37
                              have p39 : 0 ≤ (x14_2 : Int) := of_decide_eq_true (by first | (with_reducible assumption) | assumption)
                              have q39 : x14_2 < (t327.size : Int) := of_decide_eq_true (by first | (with_reducible assumption) | assumption)
                              have hx39 := bt_at t327 x14_2
                              replace p39 := eq_true p39
                              replace q39 := eq_true q39
                              have p44 : 0 ≤ ((ji41) : Int) := of_decide_eq_true (by first | (with_reducible assumption) | assumption)
                              have q44 : (ji41) < (t330.size : Int) := of_decide_eq_true (by first | (with_reducible assumption) | assumption)
                              have hx44 := bt_at t330 (ji41)
                              replace p44 := eq_true p44
                              replace q44 := eq_true q44
                              have p45 : 0 ≤ (x14_2 : Int) := of_decide_eq_true (by first | (with_reducible assumption) | assumption)
                              have q45 : x14_2 < (t327.size : Int) := of_decide_eq_true (by first | (with_reducible assumption) | assumption)
                              have hx45 := bt_at t327 x14_2
                              replace p45 := eq_true p45
                              replace q45 := eq_true q45
                              go_wp2
                              repeat (go_quiet (fail); try go_wp2)
                              go_ret
                              exact ⟨by first | rfl | (simp [errW_none, errW_some] <;> rfl) | (simp only [← hji34, ← hji41]; first | rfl | (simp [errW_none, errW_some] <;> rfl)) | (simp [*, errW_none, errW_some] <;> rfl), by repeat (first | (with_reducible first | exact HB.out | apply below_alloc | apply pw_below_drewN | apply below_drew1) | exact HB.out)⟩
                          · rw [if_neg c43] at H
                            exact absurd H (by simp)
                        · rw [if_neg c42] at H
                          exact absurd H (by simp)
                      · rw [if_neg c40] at H
                        have c40b0 : ((bt t330 (ji34)) == (bt t327 x14_2)) = false := beq_eq_false_iff_ne.mpr c40
                        have c40b1 : ((bt t330 (ji34)) != (bt t327 x14_2)) = true := bne_iff_ne.mpr c40
                        obtain rfl := Option.some.inj H
                        have p37 : 0 ≤ ((ji34) : Int) := of_decide_eq_true (by first | (with_reducible assumption) | assumption)
                        have q37 : (ji34) < (t330.size : Int) := of_decide_eq_true (by first | (with_reducible assumption) | assumption)
                        have hx37 := bt_at t330 (ji34)
                        replace p37 := eq_true p37
                        replace q37 := eq_true q37
                        have p39 : 0 ≤ (x14_2 : Int) := of_decide_eq_true (by first | (with_reducible assumption) | assumption)
                        have q39 : x14_2 < (t327.size : Int) := of_decide_eq_true (by first | (with_reducible assumption) | assumption)
                        have hx39 := bt_at t327 x14_2
                        replace p39 := eq_true p39
                        replace q39 := eq_true q39
                        go_wp2
                        repeat (go_quiet (fail); try go_wp2)
                        go_ret
                        exact ⟨by first | rfl | (simp [errW_none, errW_some] <;> rfl) | (simp only [← hji34]; first | rfl | (simp [errW_none, errW_some] <;> rfl)) | (simp [*, errW_none, errW_some] <;> rfl), by repeat (first | (with_reducible first | exact HB.out | apply below_alloc | apply pw_below_drewN | apply below_drew1) | exact HB.out)⟩
                    · rw [if_neg c38] at H
                      exact absurd H (by simp)
                  · rw [if_neg c36] at H
                    exact absurd H (by simp)
                · rw [if_neg c35] at H
                  exact absurd H (by simp)
              · rw [if_neg c33] at H
                have c33b0 : decide (x14_2 < (t327.size : Int)) = false := decide_eq_false c33
                clear c33
                replace H := Option.bind_eq_some_iff.mp H
                obtain ⟨t333, A470, H⟩ := H
                replace H : (some t333) = some r := H
                have A47 := Aside0.mk A470
                clear A470
                obtain rfl := Option.some.inj H
                go_wp2_with (first | (go_at_call 25; (with_reducible refine (numnahlaw09_awake.calls (hG := ?hg) k2  t333 _ A47.out).mono ?_); (case hg => exact gw_now hG (by repeat (first | (with_reducible first | exact HB.out | apply below_alloc | apply pw_below_drewN | apply below_drew1) | exact HB.out))); rintro e w48 ⟨rfl, hb⟩; have n0_ := Aside0.mk (below_step (by repeat (first | (with_reducible first | exact HB.out | apply below_alloc | apply pw_below_drewN | apply below_drew1) | exact HB.out)) hb); clear HB; have HB := n0_; clear n0_; (try clear hb); (try clear hb2); (try clear hk); (try clear hi)))
                repeat (go_quiet (first | (go_at_call 25; (with_reducible refine (numnahlaw09_awake.calls (hG := ?hg) k2  t333 _ A47.out).mono ?_); (case hg => exact gw_now hG (by repeat (first | (with_reducible first | exact HB.out | apply below_alloc | apply pw_below_drewN | apply below_drew1) | exact HB.out))); rintro e w48 ⟨rfl, hb⟩; have n0_ := Aside0.mk (below_step (by repeat (first | (with_reducible first | exact HB.out | apply below_alloc | apply pw_below_drewN | apply below_drew1) | exact HB.out)) hb); clear HB; have HB := n0_; clear n0_; (try clear hb); (try clear hb2); (try clear hk); (try clear hi))); try go_wp2_with (first | (go_at_call 25; (with_reducible refine (numnahlaw09_awake.calls (hG := ?hg) k2  t333 _ A47.out).mono ?_); (case hg => exact gw_now hG (by repeat (first | (with_reducible first | exact HB.out | apply below_alloc | apply pw_below_drewN | apply below_drew1) | exact HB.out))); rintro e w48 ⟨rfl, hb⟩; have n0_ := Aside0.mk (below_step (by repeat (first | (with_reducible first | exact HB.out | apply below_alloc | apply pw_below_drewN | apply below_drew1) | exact HB.out)) hb); clear HB; have HB := n0_; clear n0_; (try clear hb); (try clear hb2); (try clear hk); (try clear hi))))
                go_ret
                exact ⟨by first | rfl | (simp [errW_none, errW_some] <;> rfl) | (simp [*, errW_none, errW_some] <;> rfl), by repeat (first | (with_reducible first | exact HB.out | apply below_alloc | apply pw_below_drewN | apply below_drew1) | exact HB.out)⟩
  · rw [if_neg c4] at H
    exact absurd H (by simp)

/-- THE ONE PURE STATEMENT of numnahlaw09_ParseDoubled: yours. -/
def numnahlaw09_ParseDoubled.Pure : Prop := ∀ (a0 : ByteArray), a0.size ≤ 140737488351232 → ∃ k, numnahlaw09_ParseDoubled.f k a0 = some true
theorem numnahlaw09_ParseDoubled.walk (P : numnahlaw09_ParseDoubled.Pure) (a0 : ByteArray) (w : World) (hG : GW w) (w0 : a0.size ≤ 140737488351232) :
    Calls Tryd.prog 4 #[.string a0] w fun e w' => e = .returned (.bool true) ∧ Below w.heap.size w w' := by
  obtain ⟨k, h⟩ := P a0 w0
  refine (numnahlaw09_ParseDoubled.calls (hG := hG) k a0 true w h).mono ?_
  rintro e w' ⟨rfl, hd⟩
  exact ⟨rfl, hd⟩

end Go.Proofs.YtpeeflkodpnbpaaDoor.Pr
