-- Laid by wip/tools/inj.py of this project, which drives the kit's printer. Lean checks it.
import Derived.Test.YtpeeflkodpnbpaaDoorPr0
import Derived.Test.YtpeeflkodpnbpaaDoorHEarl
import Derived.Test.YtpeeflkodpnbpaaDoorHSubs
import Derived.Test.YtpeeflkodpnbpaaDoorPrA23
import Derived.Test.YtpeeflkodpnbpaaDoorPrB19
namespace Go.Proofs.YtpeeflkodpnbpaaDoor.Pr
open Go.RowKit Go.Proofs.YtpeeflkodpnbpaaDoorW.PrintWords Go.Proofs.YtpeeflkodpnbpaaDoorW.PrintLast Go.Proofs.YtpeeflkodpnbpaaDoorW.PrintMore
attribute [local go_sem] max2_int min2_int max_two min_two max_three min_three max_four min_four   -- for this text's walks alone
set_option linter.unusedVariables false
set_option linter.unusedSimpArgs false

/-! ### numnahlaw09_ParseNested: function 6 -/
mutual
def numnahlaw09_ParseNested.j0 : Nat → ByteArray → List Int → List Int → Bool → Option (Bool)
  | 0, _, _, _, _ => none
  | k + 1, x5, x8, x10, x68 => if x68 = true then (some false) else (numnahlaw09_ParseNested.l0 k x5 x8 x10 0)
def numnahlaw09_ParseNested.l0 : Nat → ByteArray → List Int → List Int → Int → Option (Bool)
  | 0, _, _, _, _ => none
  | k + 1, x5, x8, x10, x12 => if x12 ≤ (x5.size : Int) then (if 0 ≤ x12 then (if x12 < (x10.length : Int) then (if x12 < (x8.length : Int) then (if (rd x10 x12) < (rd x8 x12) then (some false) else (if (rd x10 x12) > (wrap64 ((rd x8 x12) + 1)) then (some false) else (if (rd x8 x12) > (wrap64 ((wrap64 ((x5.size : Int) + 1)) - x12)) then (some false) else (if x12 > 0 then (if 0 ≤ (wrap64 (x12 - 1)) then (if (wrap64 (x12 - 1)) < (x8.length : Int) then (if (rd x8 x12) > (wrap64 (4 * (rd x8 (wrap64 (x12 - 1))))) then (some false) else (numnahlaw09_ParseNested.l0 k x5 x8 x10 (wrap64 (x12 + 1)))) else (none)) else (none)) else (numnahlaw09_ParseNested.l0 k x5 x8 x10 (wrap64 (x12 + 1))))))) else (none)) else (none)) else (none)) else ((numnahlaw09_awake.f k).bind fun t362 => (some t362))
end
def numnahlaw09_ParseNested.f (k : Nat) (a0 : ByteArray) (a1 : Int) : Option (Bool) := (numnahlaw09_tame.f k a0 100).bind fun t343 => ((numnahlaw09_mod.f a1 4).bind fun t344 => (if 0 ≤ t344 then (if t344 ≤ (wrap64 (t344 + 1)) then (if (wrap64 (t344 + 1)) ≤ 4 then (if t343.size + ((⟨#[97, 98, 99, 100]⟩ : ByteArray).extract (t344 : Int).toNat ((wrap64 (t344 + 1)) : Int).toNat).size ≤ 9223372036854775807 then ((parse_Substrings.f t343).bind fun bt345 => ((parse_Substrings.f (t343 ++ ((⟨#[97, 98, 99, 100]⟩ : ByteArray).extract (t344 : Int).toNat ((wrap64 (t344 + 1)) : Int).toNat))).bind fun bt349 => (if bt345.2 = 0 then (if bt349.2 = 0 then (if (bt345.1.length : Int) = (wrap64 ((t343.size : Int) + 1)) then (if (bt349.1.length : Int) = (wrap64 ((t343.size : Int) + 2)) then (if 0 < (bt345.1.length : Int) then (if (rd bt345.1 0) = 1 then (if 0 ≤ (t343.size : Int) then (if (t343.size : Int) < (bt345.1.length : Int) then (numnahlaw09_ParseNested.j0 k t343 bt345.1 bt349.1 ((rd bt345.1 (t343.size : Int)) != 1)) else (none)) else (none)) else (numnahlaw09_ParseNested.j0 k t343 bt345.1 bt349.1 true)) else (none)) else (numnahlaw09_ParseNested.j0 k t343 bt345.1 bt349.1 true)) else (numnahlaw09_ParseNested.j0 k t343 bt345.1 bt349.1 true)) else (numnahlaw09_ParseNested.j0 k t343 bt345.1 bt349.1 true)) else (numnahlaw09_ParseNested.j0 k t343 bt345.1 bt349.1 true)))) else (none)) else (none)) else (none)) else (none)))
theorem numnahlaw09_ParseNested.mono_l : ∀ k, (∀ y0 y1 y2 y3, LeO (numnahlaw09_ParseNested.j0 k y0 y1 y2 y3) (numnahlaw09_ParseNested.j0 (k + 1) y0 y1 y2 y3)) ∧ (∀ y0 y1 y2 y3, LeO (numnahlaw09_ParseNested.l0 k y0 y1 y2 y3) (numnahlaw09_ParseNested.l0 (k + 1) y0 y1 y2 y3))
  | 0 => ⟨fun _ _ _ _ r h => by simp [numnahlaw09_ParseNested.j0] at h, fun _ _ _ _ r h => by simp [numnahlaw09_ParseNested.l0] at h⟩
  | k + 1 => by
    obtain ⟨ih0, ih1⟩ := numnahlaw09_ParseNested.mono_l k
    refine ⟨?_, ?_⟩
    · intro y0 y1 y2 y3
      unfold numnahlaw09_ParseNested.j0
      repeat' first
      | (with_reducible exact ih0 _ _ _ _)
      | (with_reducible exact ih1 _ _ _ _)
      | (with_reducible exact numnahlaw09_awake.mono _)
      | (with_reducible exact numnahlaw09_tame.mono _ _ _)
      | (with_reducible exact LeO.refl _)
      | (with_reducible exact LeO.none _)
      | (with_reducible refine LeO.ite ?_ ?_)
      | (with_reducible refine LeO.bind ?_ (fun _ => ?_))
      | exact ih0 _ _ _ _
      | exact ih1 _ _ _ _
      | exact numnahlaw09_awake.mono _
      | exact numnahlaw09_tame.mono _ _ _
      | exact LeO.none _
      | refine LeO.ite ?_ ?_
      | refine LeO.bind ?_ (fun _ => ?_)
    · intro y0 y1 y2 y3
      unfold numnahlaw09_ParseNested.l0
      repeat' first
      | (with_reducible exact ih0 _ _ _ _)
      | (with_reducible exact ih1 _ _ _ _)
      | (with_reducible exact numnahlaw09_awake.mono _)
      | (with_reducible exact numnahlaw09_tame.mono _ _ _)
      | (with_reducible exact LeO.refl _)
      | (with_reducible exact LeO.none _)
      | (with_reducible refine LeO.ite ?_ ?_)
      | (with_reducible refine LeO.bind ?_ (fun _ => ?_))
      | exact ih0 _ _ _ _
      | exact ih1 _ _ _ _
      | exact numnahlaw09_awake.mono _
      | exact numnahlaw09_tame.mono _ _ _
      | exact LeO.none _
      | refine LeO.ite ?_ ?_
      | refine LeO.bind ?_ (fun _ => ?_)
theorem numnahlaw09_ParseNested.mono : ∀ a0 a1 k, LeO (numnahlaw09_ParseNested.f k a0 a1) (numnahlaw09_ParseNested.f (k + 1) a0 a1) := by
  intro a0 a1 k
  obtain ⟨ih0, ih1⟩ := numnahlaw09_ParseNested.mono_l k
  unfold numnahlaw09_ParseNested.f
  repeat' first
      | (with_reducible exact ih0 _ _ _ _)
      | (with_reducible exact ih1 _ _ _ _)
      | (with_reducible exact numnahlaw09_awake.mono _)
      | (with_reducible exact numnahlaw09_tame.mono _ _ _)
      | (with_reducible exact LeO.refl _)
      | (with_reducible exact LeO.none _)
      | (with_reducible refine LeO.ite ?_ ?_)
      | (with_reducible refine LeO.bind ?_ (fun _ => ?_))
      | exact ih0 _ _ _ _
      | exact ih1 _ _ _ _
      | exact numnahlaw09_awake.mono _
      | exact numnahlaw09_tame.mono _ _ _
      | exact LeO.none _
      | refine LeO.ite ?_ ?_
      | refine LeO.bind ?_ (fun _ => ?_)
set_option maxHeartbeats 8000000 in
set_option maxRecDepth 100000 in
theorem numnahlaw09_ParseNested.calls (k : Nat) (a0 : ByteArray) (a1 : Int) (r : Bool) (w : World) (hG : GW w) (h : numnahlaw09_ParseNested.f k a0 a1 = some r) :
    Calls Tryd.prog 6 #[.string a0, .int .i64 a1] w fun e w' => e = .returned (.bool r) ∧ Below w.heap.size w w' := by
  have HB := Aside0.mk (Below.refl w.heap.size w)
  have H : ((numnahlaw09_tame.f k a0 100).bind fun t343 => ((numnahlaw09_mod.f a1 4).bind fun t344 => (if 0 ≤ t344 then (if t344 ≤ (wrap64 (t344 + 1)) then (if (wrap64 (t344 + 1)) ≤ 4 then (if t343.size + ((⟨#[97, 98, 99, 100]⟩ : ByteArray).extract (t344 : Int).toNat ((wrap64 (t344 + 1)) : Int).toNat).size ≤ 9223372036854775807 then ((parse_Substrings.f t343).bind fun bt345 => ((parse_Substrings.f (t343 ++ ((⟨#[97, 98, 99, 100]⟩ : ByteArray).extract (t344 : Int).toNat ((wrap64 (t344 + 1)) : Int).toNat))).bind fun bt349 => (if bt345.2 = 0 then (if bt349.2 = 0 then (if (bt345.1.length : Int) = (wrap64 ((t343.size : Int) + 1)) then (if (bt349.1.length : Int) = (wrap64 ((t343.size : Int) + 2)) then (if 0 < (bt345.1.length : Int) then (if (rd bt345.1 0) = 1 then (if 0 ≤ (t343.size : Int) then (if (t343.size : Int) < (bt345.1.length : Int) then (numnahlaw09_ParseNested.j0 k t343 bt345.1 bt349.1 ((rd bt345.1 (t343.size : Int)) != 1)) else (none)) else (none)) else (numnahlaw09_ParseNested.j0 k t343 bt345.1 bt349.1 true)) else (none)) else (numnahlaw09_ParseNested.j0 k t343 bt345.1 bt349.1 true)) else (numnahlaw09_ParseNested.j0 k t343 bt345.1 bt349.1 true)) else (numnahlaw09_ParseNested.j0 k t343 bt345.1 bt349.1 true)) else (numnahlaw09_ParseNested.j0 k t343 bt345.1 bt349.1 true)))) else (none)) else (none)) else (none)) else (none)))) = some r := h
  clear h
  replace H := Option.bind_eq_some_iff.mp H
  obtain ⟨t343, A30, H⟩ := H
  replace H : ((numnahlaw09_mod.f a1 4).bind fun t344 => (if 0 ≤ t344 then (if t344 ≤ (wrap64 (t344 + 1)) then (if (wrap64 (t344 + 1)) ≤ 4 then (if t343.size + ((⟨#[97, 98, 99, 100]⟩ : ByteArray).extract (t344 : Int).toNat ((wrap64 (t344 + 1)) : Int).toNat).size ≤ 9223372036854775807 then ((parse_Substrings.f t343).bind fun bt345 => ((parse_Substrings.f (t343 ++ ((⟨#[97, 98, 99, 100]⟩ : ByteArray).extract (t344 : Int).toNat ((wrap64 (t344 + 1)) : Int).toNat))).bind fun bt349 => (if bt345.2 = 0 then (if bt349.2 = 0 then (if (bt345.1.length : Int) = (wrap64 ((t343.size : Int) + 1)) then (if (bt349.1.length : Int) = (wrap64 ((t343.size : Int) + 2)) then (if 0 < (bt345.1.length : Int) then (if (rd bt345.1 0) = 1 then (if 0 ≤ (t343.size : Int) then (if (t343.size : Int) < (bt345.1.length : Int) then (numnahlaw09_ParseNested.j0 k t343 bt345.1 bt349.1 ((rd bt345.1 (t343.size : Int)) != 1)) else (none)) else (none)) else (numnahlaw09_ParseNested.j0 k t343 bt345.1 bt349.1 true)) else (none)) else (numnahlaw09_ParseNested.j0 k t343 bt345.1 bt349.1 true)) else (numnahlaw09_ParseNested.j0 k t343 bt345.1 bt349.1 true)) else (numnahlaw09_ParseNested.j0 k t343 bt345.1 bt349.1 true)) else (numnahlaw09_ParseNested.j0 k t343 bt345.1 bt349.1 true)))) else (none)) else (none)) else (none)) else (none))) = some r := H
  have A3 := Aside0.mk A30
  clear A30
  replace H := Option.bind_eq_some_iff.mp H
  obtain ⟨t344, A40, H⟩ := H
  replace H : (if 0 ≤ t344 then (if t344 ≤ (wrap64 (t344 + 1)) then (if (wrap64 (t344 + 1)) ≤ 4 then (if t343.size + ((⟨#[97, 98, 99, 100]⟩ : ByteArray).extract (t344 : Int).toNat ((wrap64 (t344 + 1)) : Int).toNat).size ≤ 9223372036854775807 then ((parse_Substrings.f t343).bind fun bt345 => ((parse_Substrings.f (t343 ++ ((⟨#[97, 98, 99, 100]⟩ : ByteArray).extract (t344 : Int).toNat ((wrap64 (t344 + 1)) : Int).toNat))).bind fun bt349 => (if bt345.2 = 0 then (if bt349.2 = 0 then (if (bt345.1.length : Int) = (wrap64 ((t343.size : Int) + 1)) then (if (bt349.1.length : Int) = (wrap64 ((t343.size : Int) + 2)) then (if 0 < (bt345.1.length : Int) then (if (rd bt345.1 0) = 1 then (if 0 ≤ (t343.size : Int) then (if (t343.size : Int) < (bt345.1.length : Int) then (numnahlaw09_ParseNested.j0 k t343 bt345.1 bt349.1 ((rd bt345.1 (t343.size : Int)) != 1)) else (none)) else (none)) else (numnahlaw09_ParseNested.j0 k t343 bt345.1 bt349.1 true)) else (none)) else (numnahlaw09_ParseNested.j0 k t343 bt345.1 bt349.1 true)) else (numnahlaw09_ParseNested.j0 k t343 bt345.1 bt349.1 true)) else (numnahlaw09_ParseNested.j0 k t343 bt345.1 bt349.1 true)) else (numnahlaw09_ParseNested.j0 k t343 bt345.1 bt349.1 true)))) else (none)) else (none)) else (none)) else (none)) = some r := H
  have A4 := Aside0.mk A40
  clear A40
  by_cases c5 : 0 ≤ t344
  · rw [if_pos c5] at H
    have c5b0 := eq_true c5
    have c5b1 : decide (0 ≤ t344) = true := decide_eq_true c5
    clear c5
    by_cases c6 : t344 ≤ (wrap64 (t344 + 1))
    · rw [if_pos c6] at H
      have c6b0 := eq_true c6
      have c6b1 : decide (t344 ≤ (wrap64 (t344 + 1))) = true := decide_eq_true c6
      by_cases c7 : (wrap64 (t344 + 1)) ≤ 4
      · rw [if_pos c7] at H
        have c7b0 := eq_true c7
        have c7b1 : decide ((wrap64 (t344 + 1)) ≤ 4) = true := decide_eq_true c7
        by_cases c8 : t343.size + ((⟨#[97, 98, 99, 100]⟩ : ByteArray).extract (t344 : Int).toNat ((wrap64 (t344 + 1)) : Int).toNat).size ≤ 9223372036854775807
        · rw [if_pos c8] at H
          have c8b0 := eq_true c8
          have c8b1 : decide (t343.size + ((⟨#[97, 98, 99, 100]⟩ : ByteArray).extract (t344 : Int).toNat ((wrap64 (t344 + 1)) : Int).toNat).size ≤ 9223372036854775807) = true := decide_eq_true c8
          try have c8b2 : (9223372036854775807 < t343.size + ((⟨#[97, 98, 99, 100]⟩ : ByteArray).extract (t344 : Int).toNat ((wrap64 (t344 + 1)) : Int).toNat).size) = False := eq_false (Nat.not_lt.2 c8)
          replace H := Option.bind_eq_some_iff.mp H
          obtain ⟨⟨t345, t346⟩, A90, H⟩ := H
          replace H : ((parse_Substrings.f (t343 ++ ((⟨#[97, 98, 99, 100]⟩ : ByteArray).extract (t344 : Int).toNat ((wrap64 (t344 + 1)) : Int).toNat))).bind fun bt349 => (if t346 = 0 then (if bt349.2 = 0 then (if (t345.length : Int) = (wrap64 ((t343.size : Int) + 1)) then (if (bt349.1.length : Int) = (wrap64 ((t343.size : Int) + 2)) then (if 0 < (t345.length : Int) then (if (rd t345 0) = 1 then (if 0 ≤ (t343.size : Int) then (if (t343.size : Int) < (t345.length : Int) then (numnahlaw09_ParseNested.j0 k t343 t345 bt349.1 ((rd t345 (t343.size : Int)) != 1)) else (none)) else (none)) else (numnahlaw09_ParseNested.j0 k t343 t345 bt349.1 true)) else (none)) else (numnahlaw09_ParseNested.j0 k t343 t345 bt349.1 true)) else (numnahlaw09_ParseNested.j0 k t343 t345 bt349.1 true)) else (numnahlaw09_ParseNested.j0 k t343 t345 bt349.1 true)) else (numnahlaw09_ParseNested.j0 k t343 t345 bt349.1 true))) = some r := H
          have A9 := Aside0.mk A90
          clear A90
          replace H := Option.bind_eq_some_iff.mp H
          obtain ⟨⟨t349, t350⟩, A100, H⟩ := H
          replace H : (if t346 = 0 then (if t350 = 0 then (if (t345.length : Int) = (wrap64 ((t343.size : Int) + 1)) then (if (t349.length : Int) = (wrap64 ((t343.size : Int) + 2)) then (if 0 < (t345.length : Int) then (if (rd t345 0) = 1 then (if 0 ≤ (t343.size : Int) then (if (t343.size : Int) < (t345.length : Int) then (numnahlaw09_ParseNested.j0 k t343 t345 t349 ((rd t345 (t343.size : Int)) != 1)) else (none)) else (none)) else (numnahlaw09_ParseNested.j0 k t343 t345 t349 true)) else (none)) else (numnahlaw09_ParseNested.j0 k t343 t345 t349 true)) else (numnahlaw09_ParseNested.j0 k t343 t345 t349 true)) else (numnahlaw09_ParseNested.j0 k t343 t345 t349 true)) else (numnahlaw09_ParseNested.j0 k t343 t345 t349 true)) = some r := H
          have A10 := Aside0.mk A100
          clear A100
          have HC11 := Aside0.mk H
          clear H
          go_enter Tryd.func6, Tryd.ntmps6
          go_upto_region 6 with (first | (go_at_call 29; (with_reducible refine (numnahlaw09_tame.calls k a0 100 t343 _ A3.out).mono ?_); rintro e w12 ⟨rfl, hb⟩; have n0_ := Aside0.mk (below_step (by repeat (first | (with_reducible first | exact HB.out | apply below_alloc | apply pw_below_drewN | apply below_drew1) | exact HB.out)) hb); clear HB; have HB := n0_; clear n0_; (try clear hb); (try clear hb2); (try clear hk); (try clear hi)) | (go_at_call 31; (with_reducible refine (numnahlaw09_mod.calls a1 4 t344 _ A4.out).mono ?_); rintro e w' ⟨rfl, ⟨nd, rfl⟩⟩; (try first | exact ⟨rfl, _, World.drewN_drewN _ _ _⟩ | exact ⟨rfl, _, Eq.trans (World.drewN_drewN _ _ _) (congrArg (World.drewN _) (Nat.add_assoc _ _ _))⟩)) | (go_at_call 32; (with_reducible refine (parse_Substrings.calls t343 t345 t346 _ A9.out).mono ?_); rintro e w13 ⟨v347, rfl, ho0, hb⟩; have n0_ := Aside0.mk (Kd.R_lower ho0 (below_size (by repeat (first | (with_reducible first | exact HB.out | apply below_alloc | apply pw_below_drewN | apply below_drew1) | exact HB.out)))); have n1_ := Aside0.mk (below_step (by repeat (first | (with_reducible first | exact HB.out | apply below_alloc | apply pw_below_drewN | apply below_drew1) | exact HB.out)) hb); clear HB; have HO348 := n0_; have HB := n1_; clear n0_ n1_; (try clear hb); (try clear hb2); (try clear hk); (try clear hi); (try clear ho0)) | (go_at_call 32; (with_reducible refine (parse_Substrings.calls (t343 ++ ((⟨#[97, 98, 99, 100]⟩ : ByteArray).extract (t344 : Int).toNat ((wrap64 (t344 + 1)) : Int).toNat)) t349 t350 _ A10.out).mono ?_); rintro e w14 ⟨v351, rfl, ho0, hb⟩; have n0_ := Aside0.mk (Kd.R_elder' (by (with_reducible repeat (first | apply Kd.R_alloc | apply Kd.R_drewN | apply Kd.R_drew)); exact HO348.out) (Kd.R_base ho0) hb); have n1_ := Aside0.mk (Kd.R_lower (Kd.R_new' ho0 (Kd.R_lt (by (with_reducible repeat (first | apply Kd.R_alloc | apply Kd.R_drewN | apply Kd.R_drew)); exact HO348.out))) (below_size (by repeat (first | (with_reducible first | exact HB.out | apply below_alloc | apply pw_below_drewN | apply below_drew1) | exact HB.out)))); have n2_ := Aside0.mk (below_step (by repeat (first | (with_reducible first | exact HB.out | apply below_alloc | apply pw_below_drewN | apply below_drew1) | exact HB.out)) hb); clear HO348; clear HB; have HO348 := n0_; have HO352 := n1_; have HB := n2_; clear n0_ n1_ n2_; (try clear hb); (try clear hb2); (try clear hk); (try clear hi); (try clear ho0)))
          repeat (go_quiet (first | (go_at_call 29; (with_reducible refine (numnahlaw09_tame.calls k a0 100 t343 _ A3.out).mono ?_); rintro e w12 ⟨rfl, hb⟩; have n0_ := Aside0.mk (below_step (by repeat (first | (with_reducible first | exact HB.out | apply below_alloc | apply pw_below_drewN | apply below_drew1) | exact HB.out)) hb); clear HB; have HB := n0_; clear n0_; (try clear hb); (try clear hb2); (try clear hk); (try clear hi)) | (go_at_call 31; (with_reducible refine (numnahlaw09_mod.calls a1 4 t344 _ A4.out).mono ?_); rintro e w' ⟨rfl, ⟨nd, rfl⟩⟩; (try first | exact ⟨rfl, _, World.drewN_drewN _ _ _⟩ | exact ⟨rfl, _, Eq.trans (World.drewN_drewN _ _ _) (congrArg (World.drewN _) (Nat.add_assoc _ _ _))⟩)) | (go_at_call 32; (with_reducible refine (parse_Substrings.calls t343 t345 t346 _ A9.out).mono ?_); rintro e w13 ⟨v347, rfl, ho0, hb⟩; have n0_ := Aside0.mk (Kd.R_lower ho0 (below_size (by repeat (first | (with_reducible first | exact HB.out | apply below_alloc | apply pw_below_drewN | apply below_drew1) | exact HB.out)))); have n1_ := Aside0.mk (below_step (by repeat (first | (with_reducible first | exact HB.out | apply below_alloc | apply pw_below_drewN | apply below_drew1) | exact HB.out)) hb); clear HB; have HO348 := n0_; have HB := n1_; clear n0_ n1_; (try clear hb); (try clear hb2); (try clear hk); (try clear hi); (try clear ho0)) | (go_at_call 32; (with_reducible refine (parse_Substrings.calls (t343 ++ ((⟨#[97, 98, 99, 100]⟩ : ByteArray).extract (t344 : Int).toNat ((wrap64 (t344 + 1)) : Int).toNat)) t349 t350 _ A10.out).mono ?_); rintro e w14 ⟨v351, rfl, ho0, hb⟩; have n0_ := Aside0.mk (Kd.R_elder' (by (with_reducible repeat (first | apply Kd.R_alloc | apply Kd.R_drewN | apply Kd.R_drew)); exact HO348.out) (Kd.R_base ho0) hb); have n1_ := Aside0.mk (Kd.R_lower (Kd.R_new' ho0 (Kd.R_lt (by (with_reducible repeat (first | apply Kd.R_alloc | apply Kd.R_drewN | apply Kd.R_drew)); exact HO348.out))) (below_size (by repeat (first | (with_reducible first | exact HB.out | apply below_alloc | apply pw_below_drewN | apply below_drew1) | exact HB.out)))); have n2_ := Aside0.mk (below_step (by repeat (first | (with_reducible first | exact HB.out | apply below_alloc | apply pw_below_drewN | apply below_drew1) | exact HB.out)) hb); clear HO348; clear HB; have HO348 := n0_; have HO352 := n1_; have HB := n2_; clear n0_ n1_ n2_; (try clear hb); (try clear hb2); (try clear hk); (try clear hi); (try clear ho0))); go_upto_region 6 with (first | (go_at_call 29; (with_reducible refine (numnahlaw09_tame.calls k a0 100 t343 _ A3.out).mono ?_); rintro e w12 ⟨rfl, hb⟩; have n0_ := Aside0.mk (below_step (by repeat (first | (with_reducible first | exact HB.out | apply below_alloc | apply pw_below_drewN | apply below_drew1) | exact HB.out)) hb); clear HB; have HB := n0_; clear n0_; (try clear hb); (try clear hb2); (try clear hk); (try clear hi)) | (go_at_call 31; (with_reducible refine (numnahlaw09_mod.calls a1 4 t344 _ A4.out).mono ?_); rintro e w' ⟨rfl, ⟨nd, rfl⟩⟩; (try first | exact ⟨rfl, _, World.drewN_drewN _ _ _⟩ | exact ⟨rfl, _, Eq.trans (World.drewN_drewN _ _ _) (congrArg (World.drewN _) (Nat.add_assoc _ _ _))⟩)) | (go_at_call 32; (with_reducible refine (parse_Substrings.calls t343 t345 t346 _ A9.out).mono ?_); rintro e w13 ⟨v347, rfl, ho0, hb⟩; have n0_ := Aside0.mk (Kd.R_lower ho0 (below_size (by repeat (first | (with_reducible first | exact HB.out | apply below_alloc | apply pw_below_drewN | apply below_drew1) | exact HB.out)))); have n1_ := Aside0.mk (below_step (by repeat (first | (with_reducible first | exact HB.out | apply below_alloc | apply pw_below_drewN | apply below_drew1) | exact HB.out)) hb); clear HB; have HO348 := n0_; have HB := n1_; clear n0_ n1_; (try clear hb); (try clear hb2); (try clear hk); (try clear hi); (try clear ho0)) | (go_at_call 32; (with_reducible refine (parse_Substrings.calls (t343 ++ ((⟨#[97, 98, 99, 100]⟩ : ByteArray).extract (t344 : Int).toNat ((wrap64 (t344 + 1)) : Int).toNat)) t349 t350 _ A10.out).mono ?_); rintro e w14 ⟨v351, rfl, ho0, hb⟩; have n0_ := Aside0.mk (Kd.R_elder' (by (with_reducible repeat (first | apply Kd.R_alloc | apply Kd.R_drewN | apply Kd.R_drew)); exact HO348.out) (Kd.R_base ho0) hb); have n1_ := Aside0.mk (Kd.R_lower (Kd.R_new' ho0 (Kd.R_lt (by (with_reducible repeat (first | apply Kd.R_alloc | apply Kd.R_drewN | apply Kd.R_drew)); exact HO348.out))) (below_size (by repeat (first | (with_reducible first | exact HB.out | apply below_alloc | apply pw_below_drewN | apply below_drew1) | exact HB.out)))); have n2_ := Aside0.mk (below_step (by repeat (first | (with_reducible first | exact HB.out | apply below_alloc | apply pw_below_drewN | apply below_drew1) | exact HB.out)) hb); clear HO348; clear HB; have HO348 := n0_; have HO352 := n1_; have HB := n2_; clear n0_ n1_ n2_; (try clear hb); (try clear hb2); (try clear hk); (try clear hi); (try clear ho0))))
          (try simp only [Act.put, List.setIfInBounds_toArray, List.set_cons_zero, List.set_cons_succ])
          go_cut [68] (fun v68 wc => ∃ (kq : Nat) (x68_10 : Bool), v68 = .bool x68_10 ∧ Aside0 (numnahlaw09_ParseNested.j0 kq t343 t345 t349 x68_10 = some r) ∧ Aside0 (kq ≤ k) ∧ Aside0 (Kd.R (Kd.int .i64) 3 wc w.heap.size (fun k_ => some k_ ≠ (v351 : Value).ownBlock) v347 t345) ∧ Aside0 (Kd.R (Kd.int .i64) 3 wc w.heap.size (fun k_ => some k_ ≠ (v347 : Value).ownBlock) v351 t349) ∧ Aside0 (Below w.heap.size w wc))
          case first =>
            have H := HC11.out
            clear HC11
            by_cases c15 : t346 = 0
            · rw [if_pos c15] at H
              have c15b0 : (t346 == 0) = true := beq_iff_eq.mpr c15
              have c15b1 : (t346 != 0) = false := bne_eq_false_iff_eq.mpr c15
              clear c15
              (first | rw [c15b0] | (simp only [i64_w, i32_w]; rw [c15b0]) | skip)
              by_cases c16 : t350 = 0
              · rw [if_pos c16] at H
                have c16b0 : (t350 == 0) = true := beq_iff_eq.mpr c16
                have c16b1 : (t350 != 0) = false := bne_eq_false_iff_eq.mpr c16
                clear c16
                by_cases c17 : (t345.length : Int) = (wrap64 ((t343.size : Int) + 1))
                · rw [if_pos c17] at H
                  have c17b0 : ((t345.length : Int) == (wrap64 ((t343.size : Int) + 1))) = true := beq_iff_eq.mpr c17
                  have c17b1 : ((t345.length : Int) != (wrap64 ((t343.size : Int) + 1))) = false := bne_eq_false_iff_eq.mpr c17
                  clear c17
                  by_cases c18 : (t349.length : Int) = (wrap64 ((t343.size : Int) + 2))
                  · rw [if_pos c18] at H
                    have c18b0 : ((t349.length : Int) == (wrap64 ((t343.size : Int) + 2))) = true := beq_iff_eq.mpr c18
                    have c18b1 : ((t349.length : Int) != (wrap64 ((t343.size : Int) + 2))) = false := bne_eq_false_iff_eq.mpr c18
                    clear c18
                    by_cases c19 : 0 < (t345.length : Int)
                    · rw [if_pos c19] at H
                      have c19b0 : decide (0 < (t345.length : Int)) = true := decide_eq_true c19
                      have c19b1 : decide (0 < t345.length) = true := decide_eq_true (by omega)
                      clear c19
                      by_cases c20 : (rd t345 0) = 1
                      · rw [if_pos c20] at H
                        have c20b0 : ((rd t345 0) == 1) = true := beq_iff_eq.mpr c20
                        have c20b1 : ((rd t345 0) != 1) = false := bne_eq_false_iff_eq.mpr c20
                        clear c20
                        by_cases c21 : 0 ≤ (t343.size : Int)
                        · rw [if_pos c21] at H
                          have c21b0 : decide (0 ≤ (t343.size : Int)) = true := decide_eq_true c21
                          have c21b1 : decide (0 ≤ t343.size) = true := decide_eq_true (by omega)
                          clear c21
                          by_cases c22 : (t343.size : Int) < (t345.length : Int)
                          · rw [if_pos c22] at H
                            have c22b0 : decide ((t343.size : Int) < (t345.length : Int)) = true := decide_eq_true c22
                            have c22b1 : decide (t343.size < t345.length) = true := decide_eq_true (Int.ofNat_lt.mp c22)
                            clear c22
                            have H' := Aside0.mk H
                            clear H
                            obtain ⟨Ao23, co23, eo23⟩ := Kd.R_slice HO348.out
                            subst eo23
                            obtain ⟨Ao24, co24, eo24⟩ := Kd.R_slice HO352.out
                            subst eo24
                            have p353 : 0 ≤ (0 : Int) := (by omega)
                            have q353 : 0 < (t345.length : Int) := of_decide_eq_true (by first | (with_reducible assumption) | assumption)
                            obtain ⟨ad353, e353, hx353_0⟩ := Kd.at_int (Kd.R_reads' HO348.out).2.2 0 p353 q353
                            cases e353
                            have qi353 : (0 < t345.length) = True := eq_true (by omega)
                            (try rw [show ((0 : Int)).toNat = 0 from rfl] at hx353_0)
                            (try rw [Addr.add_zero'] at hx353_0)
                            replace p353 := eq_true p353
                            replace q353 := eq_true q353
                            have p354 : 0 ≤ ((t343.size : Int) : Int) := of_decide_eq_true (by first | (with_reducible assumption) | assumption)
                            have q354 : (t343.size : Int) < (t345.length : Int) := of_decide_eq_true (by first | (with_reducible assumption) | assumption)
                            obtain ⟨ad354, e354, hx354_0⟩ := Kd.at_int (Kd.R_reads' HO348.out).2.2 (t343.size : Int) p354 q354
                            (try simp only [Int.toNat_natCast] at hx354_0)
                            obtain rfl : ad353 = ad354 := (by injection e354)
                            replace p354 := eq_true p354
                            replace q354 := eq_true q354
                            have q354n_ : (t343.size < t345.length) = True := eq_true (by have := of_eq_true q354; omega)
                            go_wp2
                            repeat (go_quiet (fail); try go_wp2)
                            go_meet
                            case rel => exact ⟨_, (((rd t345 (t343.size : Int)) != 1)), (by first | rfl | (simp; done) | (simp [*]; done)), H', ⟨by first | omega | exact Nat.le_refl _⟩, ⟨by (with_reducible repeat (first | apply Kd.R_alloc | apply Kd.R_drewN | apply Kd.R_drew)); exact Kd.R_mono HO348.out (fun _ hk => hk.2)⟩, ⟨by (with_reducible repeat (first | apply Kd.R_alloc | apply Kd.R_drewN | apply Kd.R_drew)); exact Kd.R_mono HO352.out (fun _ hk => hk.2)⟩, ⟨by repeat (first | (with_reducible first | exact HB.out | apply below_alloc | apply pw_below_drewN | apply below_drew1) | exact HB.out)⟩⟩
                          · rw [if_neg c22] at H
                            exact absurd H (by simp)
                        · rw [if_neg c21] at H
                          exact absurd H (by simp)
                      · rw [if_neg c20] at H
                        have c20b0 : ((rd t345 0) == 1) = false := beq_eq_false_iff_ne.mpr c20
                        have c20b1 : ((rd t345 0) != 1) = true := bne_iff_ne.mpr c20
                        have H' := Aside0.mk H
                        clear H
                        obtain ⟨Ao25, co25, eo25⟩ := Kd.R_slice HO348.out
                        subst eo25
                        obtain ⟨Ao26, co26, eo26⟩ := Kd.R_slice HO352.out
                        subst eo26
                        have p353 : 0 ≤ (0 : Int) := (by omega)
                        have q353 : 0 < (t345.length : Int) := of_decide_eq_true (by first | (with_reducible assumption) | assumption)
                        obtain ⟨ad353, e353, hx353_0⟩ := Kd.at_int (Kd.R_reads' HO348.out).2.2 0 p353 q353
                        cases e353
                        have qi353 : (0 < t345.length) = True := eq_true (by omega)
                        (try rw [show ((0 : Int)).toNat = 0 from rfl] at hx353_0)
                        (try rw [Addr.add_zero'] at hx353_0)
                        replace p353 := eq_true p353
                        replace q353 := eq_true q353
                        go_wp2
                        repeat (go_quiet (fail); try go_wp2)
                        go_meet
                        case rel => exact ⟨_, (true), (by first | rfl | (simp; done) | (simp [*]; done)), H', ⟨by first | omega | exact Nat.le_refl _⟩, ⟨by (with_reducible repeat (first | apply Kd.R_alloc | apply Kd.R_drewN | apply Kd.R_drew)); exact Kd.R_mono HO348.out (fun _ hk => hk.2)⟩, ⟨by (with_reducible repeat (first | apply Kd.R_alloc | apply Kd.R_drewN | apply Kd.R_drew)); exact Kd.R_mono HO352.out (fun _ hk => hk.2)⟩, ⟨by repeat (first | (with_reducible first | exact HB.out | apply below_alloc | apply pw_below_drewN | apply below_drew1) | exact HB.out)⟩⟩
                    · rw [if_neg c19] at H
                      exact absurd H (by simp)
                  · rw [if_neg c18] at H
                    have c18b0 : ((t349.length : Int) == (wrap64 ((t343.size : Int) + 2))) = false := beq_eq_false_iff_ne.mpr c18
                    have c18b1 : ((t349.length : Int) != (wrap64 ((t343.size : Int) + 2))) = true := bne_iff_ne.mpr c18
                    have H' := Aside0.mk H
                    clear H
                    obtain ⟨Ao27, co27, eo27⟩ := Kd.R_slice HO348.out
                    subst eo27
                    obtain ⟨Ao28, co28, eo28⟩ := Kd.R_slice HO352.out
                    subst eo28
                    go_wp2
                    repeat (go_quiet (fail); try go_wp2)
                    go_meet
                    case rel => exact ⟨_, (true), (by first | rfl | (simp; done) | (simp [*]; done)), H', ⟨by first | omega | exact Nat.le_refl _⟩, ⟨by (with_reducible repeat (first | apply Kd.R_alloc | apply Kd.R_drewN | apply Kd.R_drew)); exact Kd.R_mono HO348.out (fun _ hk => hk.2)⟩, ⟨by (with_reducible repeat (first | apply Kd.R_alloc | apply Kd.R_drewN | apply Kd.R_drew)); exact Kd.R_mono HO352.out (fun _ hk => hk.2)⟩, ⟨by repeat (first | (with_reducible first | exact HB.out | apply below_alloc | apply pw_below_drewN | apply below_drew1) | exact HB.out)⟩⟩
                · rw [if_neg c17] at H
                  have c17b0 : ((t345.length : Int) == (wrap64 ((t343.size : Int) + 1))) = false := beq_eq_false_iff_ne.mpr c17
                  have c17b1 : ((t345.length : Int) != (wrap64 ((t343.size : Int) + 1))) = true := bne_iff_ne.mpr c17
                  have H' := Aside0.mk H
                  clear H
                  obtain ⟨Ao29, co29, eo29⟩ := Kd.R_slice HO348.out
                  subst eo29
                  go_wp2
                  repeat (go_quiet (fail); try go_wp2)
                  go_meet
                  case rel => exact ⟨_, (true), (by first | rfl | (simp; done) | (simp [*]; done)), H', ⟨by first | omega | exact Nat.le_refl _⟩, ⟨by (with_reducible repeat (first | apply Kd.R_alloc | apply Kd.R_drewN | apply Kd.R_drew)); exact Kd.R_mono HO348.out (fun _ hk => hk.2)⟩, ⟨by (with_reducible repeat (first | apply Kd.R_alloc | apply Kd.R_drewN | apply Kd.R_drew)); exact Kd.R_mono HO352.out (fun _ hk => hk.2)⟩, ⟨by repeat (first | (with_reducible first | exact HB.out | apply below_alloc | apply pw_below_drewN | apply below_drew1) | exact HB.out)⟩⟩
              · rw [if_neg c16] at H
                have c16b0 : (t350 == 0) = false := beq_eq_false_iff_ne.mpr c16
                have c16b1 : (t350 != 0) = true := bne_iff_ne.mpr c16
                have H' := Aside0.mk H
                clear H
                go_wp2
                repeat (go_quiet (fail); try go_wp2)
                go_meet
                case rel => exact ⟨_, (true), (by first | rfl | (simp; done) | (simp [*]; done)), H', ⟨by first | omega | exact Nat.le_refl _⟩, ⟨by (with_reducible repeat (first | apply Kd.R_alloc | apply Kd.R_drewN | apply Kd.R_drew)); exact Kd.R_mono HO348.out (fun _ hk => hk.2)⟩, ⟨by (with_reducible repeat (first | apply Kd.R_alloc | apply Kd.R_drewN | apply Kd.R_drew)); exact Kd.R_mono HO352.out (fun _ hk => hk.2)⟩, ⟨by repeat (first | (with_reducible first | exact HB.out | apply below_alloc | apply pw_below_drewN | apply below_drew1) | exact HB.out)⟩⟩
            · rw [if_neg c15] at H
              have c15b0 : (t346 == 0) = false := beq_eq_false_iff_ne.mpr c15
              have c15b1 : (t346 != 0) = true := bne_iff_ne.mpr c15
              (first | rw [c15b0] | (simp only [i64_w, i32_w]; rw [c15b0]) | skip)
              have H' := Aside0.mk H
              clear H
              go_wp2
              repeat (go_quiet (fail); try go_wp2)
              go_meet
              case rel => exact ⟨_, (true), (by first | rfl | (simp; done) | (simp [*]; done)), H', ⟨by first | omega | exact Nat.le_refl _⟩, ⟨by (with_reducible repeat (first | apply Kd.R_alloc | apply Kd.R_drewN | apply Kd.R_drew)); exact Kd.R_mono HO348.out (fun _ hk => hk.2)⟩, ⟨by (with_reducible repeat (first | apply Kd.R_alloc | apply Kd.R_drewN | apply Kd.R_drew)); exact Kd.R_mono HO352.out (fun _ hk => hk.2)⟩, ⟨by repeat (first | (with_reducible first | exact HB.out | apply below_alloc | apply pw_below_drewN | apply below_drew1) | exact HB.out)⟩⟩
          case rest =>
            clear HC11
            try clear c1
            try clear c2
            try clear p2
            try clear p3
            try clear q3
            try clear hx3
            try clear qi3
            try clear c5
            try clear c5b0
            try clear c5b1
            try clear c6
            try clear c6b0
            try clear c6b1
            try clear p6
            try clear c7
            try clear c7b0
            try clear c7b1
            try clear c8
            try clear c8b0
            try clear c8b1
            try clear c8b2
            try clear c15
            try clear c15b0
            try clear c15b1
            try clear c16
            try clear c16b0
            try clear c16b1
            try clear c17
            try clear c17b0
            try clear c17b1
            try clear c18
            try clear c18b0
            try clear c18b1
            try clear c19
            try clear c19b0
            try clear c19b1
            try clear c20
            try clear c20b0
            try clear c20b1
            try clear c21
            try clear c21b0
            try clear c21b1
            try clear c22
            try clear c22b0
            try clear c22b1
            try clear hx353_0
            try clear hx354_0
            try clear p353
            try clear p354
            try clear q353
            try clear q354
            obtain ⟨kq, x68_10, rfl, HA, HJ10, HO_8, HO_10, HB⟩ := hcut
            cases kq with
            | zero => exact absurd HA.out (by simp [numnahlaw09_ParseNested.j0])
            | succ kj10 =>
              have H := HA.out
              clear HA
              simp only [numnahlaw09_ParseNested.j0] at H
              by_cases c30 : x68_10 = true
              · subst c30
                have H1 : (some false) = some r := by rw [if_pos rfl] at H; exact H
                clear H
                have H := H1
                clear H1
                obtain rfl := Option.some.inj H
                go_wp2
                repeat (go_quiet (fail); try go_wp2)
                go_ret
                exact ⟨by first | rfl | (simp [errW_none, errW_some] <;> rfl) | (simp [*, errW_none, errW_some] <;> rfl), by repeat (first | (with_reducible first | exact HB.out | apply below_alloc | apply pw_below_drewN | apply below_drew1) | exact HB.out)⟩
              · replace c30 := Bool.eq_false_iff.mpr c30
                subst c30
                have H1 : (numnahlaw09_ParseNested.l0 kj10 t343 t345 t349 0) = some r := by rw [if_neg (show ¬ (false = true) by decide)] at H; exact H
                clear H
                have H := H1
                clear H1
                have H' := Aside0.mk H
                clear H
                go_wp2
                repeat (go_quiet (fail); try go_wp2)
                go_loopg [12] kj10 (fun kq v12 w' => ∃ (x12_2 : Int), v12 = .int .i64 x12_2 ∧ Aside0 (numnahlaw09_ParseNested.l0 kq t343 t345 t349 x12_2 = some r) ∧ Aside0 (kq ≤ kj10) ∧ Aside0 (Kd.R (Kd.int .i64) 3 w' w.heap.size (fun k_ => some k_ ≠ (v351 : Value).ownBlock) v347 t345) ∧ Aside0 (Kd.R (Kd.int .i64) 3 w' w.heap.size (fun k_ => some k_ ≠ (v347 : Value).ownBlock) v351 t349) ∧ Aside0 (Below w.heap.size w w'))
                case atStart => exact ⟨(0), (by first | rfl | (simp; done) | (simp [*]; done)), H', ⟨Nat.le_refl _⟩, ⟨by (with_reducible repeat (first | apply Kd.R_alloc | apply Kd.R_drewN | apply Kd.R_drew)); exact HO_8.out⟩, ⟨by (with_reducible repeat (first | apply Kd.R_alloc | apply Kd.R_drewN | apply Kd.R_drew)); exact HO_10.out⟩, ⟨by repeat (first | (with_reducible first | exact HB.out | apply below_alloc | apply pw_below_drewN | apply below_drew1) | exact HB.out)⟩⟩
                case round =>
                  clear H'
                  try clear c1
                  try clear c2
                  try clear p2
                  try clear c3
                  try clear p3
                  try clear q3
                  try clear hx3
                  try clear qi3
                  try clear c5
                  try clear c5b0
                  try clear c5b1
                  try clear c6
                  try clear c6b0
                  try clear c6b1
                  try clear p6
                  try clear c7
                  try clear c7b0
                  try clear c7b1
                  try clear c8
                  try clear c8b0
                  try clear c8b1
                  try clear c8b2
                  try clear c15
                  try clear c15b0
                  try clear c15b1
                  try clear c16
                  try clear c16b0
                  try clear c16b1
                  try clear c17
                  try clear c17b0
                  try clear c17b1
                  try clear c18
                  try clear c18b0
                  try clear c18b1
                  try clear c19
                  try clear c19b0
                  try clear c19b1
                  try clear c20
                  try clear c20b0
                  try clear c20b1
                  try clear c21
                  try clear c21b0
                  try clear c21b1
                  try clear c22
                  try clear c22b0
                  try clear c22b1
                  try clear c30
                  try clear hx353_0
                  try clear hx354_0
                  try clear p2
                  try clear p3
                  try clear p353
                  try clear p354
                  try clear p6
                  try clear q3
                  try clear q353
                  try clear q354
                  obtain ⟨x12_2, rfl, HA, HK2, HO_8, HO_10, HB⟩ := hrel
                  cases gk with
                  | zero => exact absurd HA.out (by simp [numnahlaw09_ParseNested.l0])
                  | succ k2 =>
                    have H := HA.out
                    clear HA
                    simp only [numnahlaw09_ParseNested.l0] at H
                    by_cases c31 : x12_2 ≤ (t343.size : Int)
                    · rw [if_pos c31] at H
                      have c31b0 : decide (x12_2 ≤ (t343.size : Int)) = true := decide_eq_true c31
                      clear c31
                      by_cases c32 : 0 ≤ x12_2
                      · rw [if_pos c32] at H
                        have c32b0 : decide (0 ≤ x12_2) = true := decide_eq_true c32
                        clear c32
                        by_cases c33 : x12_2 < (t349.length : Int)
                        · rw [if_pos c33] at H
                          have c33b0 : decide (x12_2 < (t349.length : Int)) = true := decide_eq_true c33
                          clear c33
                          by_cases c34 : x12_2 < (t345.length : Int)
                          · rw [if_pos c34] at H
                            have c34b0 : decide (x12_2 < (t345.length : Int)) = true := decide_eq_true c34
                            clear c34
                            by_cases c35 : (rd t349 x12_2) < (rd t345 x12_2)
                            · rw [if_pos c35] at H
                              have c35b0 : decide ((rd t349 x12_2) < (rd t345 x12_2)) = true := decide_eq_true c35
                              clear c35
                              obtain rfl := Option.some.inj H
                              obtain ⟨Ao36, co36, eo36⟩ := Kd.R_slice HO_10.out
                              subst eo36
                              have p355 : 0 ≤ (x12_2 : Int) := of_decide_eq_true (by first | (with_reducible assumption) | assumption)
                              have q355 : x12_2 < (t349.length : Int) := of_decide_eq_true (by first | (with_reducible assumption) | assumption)
                              obtain ⟨ad355, e355, hx355_0⟩ := Kd.at_int (Kd.R_reads' HO_10.out).2.2 x12_2 p355 q355
                              cases e355
                              replace p355 := eq_true p355
                              replace q355 := eq_true q355
                              obtain ⟨Ao37, co37, eo37⟩ := Kd.R_slice HO_8.out
                              subst eo37
                              have p356 : 0 ≤ (x12_2 : Int) := of_decide_eq_true (by first | (with_reducible assumption) | assumption)
                              have q356 : x12_2 < (t345.length : Int) := of_decide_eq_true (by first | (with_reducible assumption) | assumption)
                              obtain ⟨ad356, e356, hx356_0⟩ := Kd.at_int (Kd.R_reads' HO_8.out).2.2 x12_2 p356 q356
                              cases e356
                              replace p356 := eq_true p356
                              replace q356 := eq_true q356
                              go_wp2
                              repeat (go_quiet (fail); try go_wp2)
                              go_ret
                              exact ⟨by first | rfl | (simp [errW_none, errW_some] <;> rfl) | (simp [*, errW_none, errW_some] <;> rfl), by repeat (first | (with_reducible first | exact HB.out | apply below_alloc | apply pw_below_drewN | apply below_drew1) | exact HB.out)⟩
                            · rw [if_neg c35] at H
                              have c35b0 : decide ((rd t349 x12_2) < (rd t345 x12_2)) = false := decide_eq_false c35
                              clear c35
                              by_cases c38 : (rd t349 x12_2) > (wrap64 ((rd t345 x12_2) + 1))
                              · rw [if_pos c38] at H
                                have c38b0 : decide ((wrap64 ((rd t345 x12_2) + 1)) < (rd t349 x12_2)) = true := decide_eq_true c38
                                clear c38
                                obtain rfl := Option.some.inj H
                                obtain ⟨Ao39, co39, eo39⟩ := Kd.R_slice HO_10.out
                                subst eo39
                                have p355 : 0 ≤ (x12_2 : Int) := of_decide_eq_true (by first | (with_reducible assumption) | assumption)
                                have q355 : x12_2 < (t349.length : Int) := of_decide_eq_true (by first | (with_reducible assumption) | assumption)
                                obtain ⟨ad355, e355, hx355_0⟩ := Kd.at_int (Kd.R_reads' HO_10.out).2.2 x12_2 p355 q355
                                cases e355
                                replace p355 := eq_true p355
                                replace q355 := eq_true q355
                                obtain ⟨Ao40, co40, eo40⟩ := Kd.R_slice HO_8.out
                                subst eo40
                                have p356 : 0 ≤ (x12_2 : Int) := of_decide_eq_true (by first | (with_reducible assumption) | assumption)
                                have q356 : x12_2 < (t345.length : Int) := of_decide_eq_true (by first | (with_reducible assumption) | assumption)
                                obtain ⟨ad356, e356, hx356_0⟩ := Kd.at_int (Kd.R_reads' HO_8.out).2.2 x12_2 p356 q356
                                cases e356
                                replace p356 := eq_true p356
                                replace q356 := eq_true q356
                                have p357 : 0 ≤ (x12_2 : Int) := of_decide_eq_true (by first | (with_reducible assumption) | assumption)
                                have q357 : x12_2 < (t349.length : Int) := of_decide_eq_true (by first | (with_reducible assumption) | assumption)
                                obtain ⟨ad357, e357, hx357_0⟩ := Kd.at_int (Kd.R_reads' HO_10.out).2.2 x12_2 p357 q357
                                obtain rfl : ad355 = ad357 := (by injection e357)
                                replace p357 := eq_true p357
                                replace q357 := eq_true q357
                                have p358 : 0 ≤ (x12_2 : Int) := of_decide_eq_true (by first | (with_reducible assumption) | assumption)
                                have q358 : x12_2 < (t345.length : Int) := of_decide_eq_true (by first | (with_reducible assumption) | assumption)
                                obtain ⟨ad358, e358, hx358_0⟩ := Kd.at_int (Kd.R_reads' HO_8.out).2.2 x12_2 p358 q358
                                obtain rfl : ad356 = ad358 := (by injection e358)
                                replace p358 := eq_true p358
                                replace q358 := eq_true q358
                                go_wp2
                                repeat (go_quiet (fail); try go_wp2)
                                go_ret
                                exact ⟨by first | rfl | (simp [errW_none, errW_some] <;> rfl) | (simp [*, errW_none, errW_some] <;> rfl), by repeat (first | (with_reducible first | exact HB.out | apply below_alloc | apply pw_below_drewN | apply below_drew1) | exact HB.out)⟩
                              · rw [if_neg c38] at H
                                have c38b0 : decide ((wrap64 ((rd t345 x12_2) + 1)) < (rd t349 x12_2)) = false := decide_eq_false c38
                                clear c38
                                by_cases c41 : (rd t345 x12_2) > (wrap64 ((wrap64 ((t343.size : Int) + 1)) - x12_2))
                                · rw [if_pos c41] at H
                                  have c41b0 : decide ((wrap64 ((wrap64 ((t343.size : Int) + 1)) - x12_2)) < (rd t345 x12_2)) = true := decide_eq_true c41
                                  clear c41
                                  obtain rfl := Option.some.inj H
                                  obtain ⟨Ao42, co42, eo42⟩ := Kd.R_slice HO_10.out
                                  subst eo42
                                  have p355 : 0 ≤ (x12_2 : Int) := of_decide_eq_true (by first | (with_reducible assumption) | assumption)
                                  have q355 : x12_2 < (t349.length : Int) := of_decide_eq_true (by first | (with_reducible assumption) | assumption)
                                  obtain ⟨ad355, e355, hx355_0⟩ := Kd.at_int (Kd.R_reads' HO_10.out).2.2 x12_2 p355 q355
                                  cases e355
                                  replace p355 := eq_true p355
                                  replace q355 := eq_true q355
                                  obtain ⟨Ao43, co43, eo43⟩ := Kd.R_slice HO_8.out
                                  subst eo43
                                  have p356 : 0 ≤ (x12_2 : Int) := of_decide_eq_true (by first | (with_reducible assumption) | assumption)
                                  have q356 : x12_2 < (t345.length : Int) := of_decide_eq_true (by first | (with_reducible assumption) | assumption)
                                  obtain ⟨ad356, e356, hx356_0⟩ := Kd.at_int (Kd.R_reads' HO_8.out).2.2 x12_2 p356 q356
                                  cases e356
                                  replace p356 := eq_true p356
                                  replace q356 := eq_true q356
                                  have p357 : 0 ≤ (x12_2 : Int) := of_decide_eq_true (by first | (with_reducible assumption) | assumption)
                                  have q357 : x12_2 < (t349.length : Int) := of_decide_eq_true (by first | (with_reducible assumption) | assumption)
                                  obtain ⟨ad357, e357, hx357_0⟩ := Kd.at_int (Kd.R_reads' HO_10.out).2.2 x12_2 p357 q357
                                  obtain rfl : ad355 = ad357 := (by injection e357)
                                  replace p357 := eq_true p357
                                  replace q357 := eq_true q357
                                  have p358 : 0 ≤ (x12_2 : Int) := of_decide_eq_true (by first | (with_reducible assumption) | assumption)
                                  have q358 : x12_2 < (t345.length : Int) := of_decide_eq_true (by first | (with_reducible assumption) | assumption)
                                  obtain ⟨ad358, e358, hx358_0⟩ := Kd.at_int (Kd.R_reads' HO_8.out).2.2 x12_2 p358 q358
                                  obtain rfl : ad356 = ad358 := (by injection e358)
                                  replace p358 := eq_true p358
                                  replace q358 := eq_true q358
                                  have p359 : 0 ≤ (x12_2 : Int) := of_decide_eq_true (by first | (with_reducible assumption) | assumption)
                                  have q359 : x12_2 < (t345.length : Int) := of_decide_eq_true (by first | (with_reducible assumption) | assumption)
                                  obtain ⟨ad359, e359, hx359_0⟩ := Kd.at_int (Kd.R_reads' HO_8.out).2.2 x12_2 p359 q359
                                  obtain rfl : ad356 = ad359 := (by injection e359)
                                  replace p359 := eq_true p359
                                  replace q359 := eq_true q359
                                  go_wp2
                                  repeat (go_quiet (fail); try go_wp2)
                                  go_ret
                                  exact ⟨by first | rfl | (simp [errW_none, errW_some] <;> rfl) | (simp [*, errW_none, errW_some] <;> rfl), by repeat (first | (with_reducible first | exact HB.out | apply below_alloc | apply pw_below_drewN | apply below_drew1) | exact HB.out)⟩
                                · rw [if_neg c41] at H
                                  have c41b0 : decide ((wrap64 ((wrap64 ((t343.size : Int) + 1)) - x12_2)) < (rd t345 x12_2)) = false := decide_eq_false c41
                                  clear c41
                                  by_cases c44 : x12_2 > 0
                                  · rw [if_pos c44] at H
                                    have c44b0 : decide (0 < x12_2) = true := decide_eq_true c44
                                    clear c44
                                    obtain ⟨ji45, hji45⟩ : ∃ j_ : Int, (wrap64 (x12_2 - 1)) = j_ := ⟨_, rfl⟩
                                    replace H : (if 0 ≤ (ji45) then (if (ji45) < (t345.length : Int) then (if (rd t345 x12_2) > (wrap64 (4 * (rd t345 (ji45)))) then (some false) else (numnahlaw09_ParseNested.l0 k2 t343 t345 t349 (wrap64 (x12_2 + 1)))) else (none)) else (none)) = some r := by first | (rw [hji45] at H; exact H) | (simp only [hji45] at H ⊢; exact H)
                                    have hji45w : (IntKind.i64.wrap (x12_2 - 1)) = ji45 := (i64_w _).trans hji45
                                    by_cases c46 : 0 ≤ (ji45)
                                    · rw [if_pos c46] at H
                                      have c46b0 : decide (0 ≤ (ji45)) = true := decide_eq_true c46
                                      clear c46
                                      by_cases c47 : (ji45) < (t345.length : Int)
                                      · rw [if_pos c47] at H
                                        have c47b0 : decide ((ji45) < (t345.length : Int)) = true := decide_eq_true c47
                                        clear c47
                                        by_cases c48 : (rd t345 x12_2) > (wrap64 (4 * (rd t345 (ji45))))
                                        · rw [if_pos c48] at H
                                          have c48b0 : decide ((wrap64 (4 * (rd t345 (ji45)))) < (rd t345 x12_2)) = true := decide_eq_true c48
                                          clear c48
                                          obtain rfl := Option.some.inj H
                                          obtain ⟨Ao49, co49, eo49⟩ := Kd.R_slice HO_10.out
                                          subst eo49
                                          have p355 : 0 ≤ (x12_2 : Int) := of_decide_eq_true (by first | (with_reducible assumption) | assumption)
                                          have q355 : x12_2 < (t349.length : Int) := of_decide_eq_true (by first | (with_reducible assumption) | assumption)
                                          obtain ⟨ad355, e355, hx355_0⟩ := Kd.at_int (Kd.R_reads' HO_10.out).2.2 x12_2 p355 q355
                                          cases e355
                                          replace p355 := eq_true p355
                                          replace q355 := eq_true q355
                                          obtain ⟨Ao50, co50, eo50⟩ := Kd.R_slice HO_8.out
                                          subst eo50
                                          have p356 : 0 ≤ (x12_2 : Int) := of_decide_eq_true (by first | (with_reducible assumption) | assumption)
                                          have q356 : x12_2 < (t345.length : Int) := of_decide_eq_true (by first | (with_reducible assumption) | assumption)
                                          obtain ⟨ad356, e356, hx356_0⟩ := Kd.at_int (Kd.R_reads' HO_8.out).2.2 x12_2 p356 q356
                                          cases e356
                                          replace p356 := eq_true p356
                                          replace q356 := eq_true q356
                                          have p357 : 0 ≤ (x12_2 : Int) := of_decide_eq_true (by first | (with_reducible assumption) | assumption)
                                          have q357 : x12_2 < (t349.length : Int) := of_decide_eq_true (by first | (with_reducible assumption) | assumption)
                                          obtain ⟨ad357, e357, hx357_0⟩ := Kd.at_int (Kd.R_reads' HO_10.out).2.2 x12_2 p357 q357
                                          obtain rfl : ad355 = ad357 := (by injection e357)
                                          replace p357 := eq_true p357
                                          replace q357 := eq_true q357
                                          have p358 : 0 ≤ (x12_2 : Int) := of_decide_eq_true (by first | (with_reducible assumption) | assumption)
                                          have q358 : x12_2 < (t345.length : Int) := of_decide_eq_true (by first | (with_reducible assumption) | assumption)
                                          obtain ⟨ad358, e358, hx358_0⟩ := Kd.at_int (Kd.R_reads' HO_8.out).2.2 x12_2 p358 q358
                                          obtain rfl : ad356 = ad358 := (by injection e358)
                                          replace p358 := eq_true p358
                                          replace q358 := eq_true q358
                                          have p359 : 0 ≤ (x12_2 : Int) := of_decide_eq_true (by first | (with_reducible assumption) | assumption)
                                          have q359 : x12_2 < (t345.length : Int) := of_decide_eq_true (by first | (with_reducible assumption) | assumption)
                                          obtain ⟨ad359, e359, hx359_0⟩ := Kd.at_int (Kd.R_reads' HO_8.out).2.2 x12_2 p359 q359
                                          obtain rfl : ad356 = ad359 := (by injection e359)
                                          replace p359 := eq_true p359
                                          replace q359 := eq_true q359
                                          have p360 : 0 ≤ (x12_2 : Int) := of_decide_eq_true (by first | (with_reducible assumption) | assumption)
                                          have q360 : x12_2 < (t345.length : Int) := of_decide_eq_true (by first | (with_reducible assumption) | assumption)
                                          obtain ⟨ad360, e360, hx360_0⟩ := Kd.at_int (Kd.R_reads' HO_8.out).2.2 x12_2 p360 q360
                                          obtain rfl : ad356 = ad360 := (by injection e360)
                                          replace p360 := eq_true p360
                                          replace q360 := eq_true q360
                                          have p361 : 0 ≤ ((ji45) : Int) := of_decide_eq_true (by first | (with_reducible assumption) | assumption)
                                          have q361 : (ji45) < (t345.length : Int) := of_decide_eq_true (by first | (with_reducible assumption) | assumption)
                                          obtain ⟨ad361, e361, hx361_0⟩ := Kd.at_int (Kd.R_reads' HO_8.out).2.2 (ji45) p361 q361
                                          obtain rfl : ad356 = ad361 := (by injection e361)
                                          replace p361 := eq_true p361
                                          replace q361 := eq_true q361
                                          go_wp2
                                          repeat (go_quiet (fail); try go_wp2)
                                          go_ret
                                          exact ⟨by first | rfl | (simp [errW_none, errW_some] <;> rfl) | (simp only [← hji45]; first | rfl | (simp [errW_none, errW_some] <;> rfl)) | (simp [*, errW_none, errW_some] <;> rfl), by repeat (first | (with_reducible first | exact HB.out | apply below_alloc | apply pw_below_drewN | apply below_drew1) | exact HB.out)⟩
                                        · rw [if_neg c48] at H
                                          have c48b0 : decide ((wrap64 (4 * (rd t345 (ji45)))) < (rd t345 x12_2)) = false := decide_eq_false c48
                                          clear c48
                                          have H' := Aside0.mk H
                                          clear H
                                          obtain ⟨Ao51, co51, eo51⟩ := Kd.R_slice HO_10.out
                                          subst eo51
                                          have p355 : 0 ≤ (x12_2 : Int) := of_decide_eq_true (by first | (with_reducible assumption) | assumption)
                                          have q355 : x12_2 < (t349.length : Int) := of_decide_eq_true (by first | (with_reducible assumption) | assumption)
                                          obtain ⟨ad355, e355, hx355_0⟩ := Kd.at_int (Kd.R_reads' HO_10.out).2.2 x12_2 p355 q355
                                          cases e355
                                          replace p355 := eq_true p355
                                          replace q355 := eq_true q355
                                          obtain ⟨Ao52, co52, eo52⟩ := Kd.R_slice HO_8.out
                                          subst eo52
                                          have p356 : 0 ≤ (x12_2 : Int) := of_decide_eq_true (by first | (with_reducible assumption) | assumption)
                                          have q356 : x12_2 < (t345.length : Int) := of_decide_eq_true (by first | (with_reducible assumption) | assumption)
                                          obtain ⟨ad356, e356, hx356_0⟩ := Kd.at_int (Kd.R_reads' HO_8.out).2.2 x12_2 p356 q356
                                          cases e356
                                          replace p356 := eq_true p356
                                          replace q356 := eq_true q356
                                          have p357 : 0 ≤ (x12_2 : Int) := of_decide_eq_true (by first | (with_reducible assumption) | assumption)
                                          have q357 : x12_2 < (t349.length : Int) := of_decide_eq_true (by first | (with_reducible assumption) | assumption)
                                          obtain ⟨ad357, e357, hx357_0⟩ := Kd.at_int (Kd.R_reads' HO_10.out).2.2 x12_2 p357 q357
                                          obtain rfl : ad355 = ad357 := (by injection e357)
                                          replace p357 := eq_true p357
                                          replace q357 := eq_true q357
                                          have p358 : 0 ≤ (x12_2 : Int) := of_decide_eq_true (by first | (with_reducible assumption) | assumption)
                                          have q358 : x12_2 < (t345.length : Int) := of_decide_eq_true (by first | (with_reducible assumption) | assumption)
                                          obtain ⟨ad358, e358, hx358_0⟩ := Kd.at_int (Kd.R_reads' HO_8.out).2.2 x12_2 p358 q358
                                          obtain rfl : ad356 = ad358 := (by injection e358)
                                          replace p358 := eq_true p358
                                          replace q358 := eq_true q358
                                          have p359 : 0 ≤ (x12_2 : Int) := of_decide_eq_true (by first | (with_reducible assumption) | assumption)
                                          have q359 : x12_2 < (t345.length : Int) := of_decide_eq_true (by first | (with_reducible assumption) | assumption)
                                          obtain ⟨ad359, e359, hx359_0⟩ := Kd.at_int (Kd.R_reads' HO_8.out).2.2 x12_2 p359 q359
                                          obtain rfl : ad356 = ad359 := (by injection e359)
                                          replace p359 := eq_true p359
                                          replace q359 := eq_true q359
                                          have p360 : 0 ≤ (x12_2 : Int) := of_decide_eq_true (by first | (with_reducible assumption) | assumption)
                                          have q360 : x12_2 < (t345.length : Int) := of_decide_eq_true (by first | (with_reducible assumption) | assumption)
                                          obtain ⟨ad360, e360, hx360_0⟩ := Kd.at_int (Kd.R_reads' HO_8.out).2.2 x12_2 p360 q360
                                          obtain rfl : ad356 = ad360 := (by injection e360)
                                          replace p360 := eq_true p360
                                          replace q360 := eq_true q360
                                          have p361 : 0 ≤ ((ji45) : Int) := of_decide_eq_true (by first | (with_reducible assumption) | assumption)
                                          have q361 : (ji45) < (t345.length : Int) := of_decide_eq_true (by first | (with_reducible assumption) | assumption)
                                          obtain ⟨ad361, e361, hx361_0⟩ := Kd.at_int (Kd.R_reads' HO_8.out).2.2 (ji45) p361 q361
                                          obtain rfl : ad356 = ad361 := (by injection e361)
                                          replace p361 := eq_true p361
                                          replace q361 := eq_true q361
                                          go_wp2
                                          repeat (go_quiet (fail); try go_wp2)
                                          go_roundg k2
                                          case measure => have := HJ10.out; have := HK2.out; omega
                                          case rel => exact ⟨(wrap64 (x12_2 + 1)), (by first | rfl | (simp; done) | (simp [*]; done)), H', ⟨by have := HJ10.out; have := HK2.out; omega⟩, ⟨by (with_reducible repeat (first | apply Kd.R_alloc | apply Kd.R_drewN | apply Kd.R_drew)); exact HO_8.out⟩, ⟨by (with_reducible repeat (first | apply Kd.R_alloc | apply Kd.R_drewN | apply Kd.R_drew)); exact HO_10.out⟩, ⟨by repeat (first | (with_reducible first | exact HB.out | apply below_alloc | apply pw_below_drewN | apply below_drew1) | exact HB.out)⟩⟩
                                      · rw [if_neg c47] at H
                                        exact absurd H (by simp)
                                    · rw [if_neg c46] at H
                                      exact absurd H (by simp)
                                  · rw [if_neg c44] at H
                                    have c44b0 : decide (0 < x12_2) = false := decide_eq_false c44
                                    clear c44
                                    have H' := Aside0.mk H
                                    clear H
                                    obtain ⟨Ao53, co53, eo53⟩ := Kd.R_slice HO_10.out
                                    subst eo53
                                    have p355 : 0 ≤ (x12_2 : Int) := of_decide_eq_true (by first | (with_reducible assumption) | assumption)
                                    have q355 : x12_2 < (t349.length : Int) := of_decide_eq_true (by first | (with_reducible assumption) | assumption)
                                    obtain ⟨ad355, e355, hx355_0⟩ := Kd.at_int (Kd.R_reads' HO_10.out).2.2 x12_2 p355 q355
                                    cases e355
                                    replace p355 := eq_true p355
                                    replace q355 := eq_true q355
                                    obtain ⟨Ao54, co54, eo54⟩ := Kd.R_slice HO_8.out
                                    subst eo54
                                    have p356 : 0 ≤ (x12_2 : Int) := of_decide_eq_true (by first | (with_reducible assumption) | assumption)
                                    have q356 : x12_2 < (t345.length : Int) := of_decide_eq_true (by first | (with_reducible assumption) | assumption)
                                    obtain ⟨ad356, e356, hx356_0⟩ := Kd.at_int (Kd.R_reads' HO_8.out).2.2 x12_2 p356 q356
                                    cases e356
                                    replace p356 := eq_true p356
                                    replace q356 := eq_true q356
                                    have p357 : 0 ≤ (x12_2 : Int) := of_decide_eq_true (by first | (with_reducible assumption) | assumption)
                                    have q357 : x12_2 < (t349.length : Int) := of_decide_eq_true (by first | (with_reducible assumption) | assumption)
                                    obtain ⟨ad357, e357, hx357_0⟩ := Kd.at_int (Kd.R_reads' HO_10.out).2.2 x12_2 p357 q357
                                    obtain rfl : ad355 = ad357 := (by injection e357)
                                    replace p357 := eq_true p357
                                    replace q357 := eq_true q357
                                    have p358 : 0 ≤ (x12_2 : Int) := of_decide_eq_true (by first | (with_reducible assumption) | assumption)
                                    have q358 : x12_2 < (t345.length : Int) := of_decide_eq_true (by first | (with_reducible assumption) | assumption)
                                    obtain ⟨ad358, e358, hx358_0⟩ := Kd.at_int (Kd.R_reads' HO_8.out).2.2 x12_2 p358 q358
                                    obtain rfl : ad356 = ad358 := (by injection e358)
                                    replace p358 := eq_true p358
                                    replace q358 := eq_true q358
                                    have p359 : 0 ≤ (x12_2 : Int) := of_decide_eq_true (by first | (with_reducible assumption) | assumption)
                                    have q359 : x12_2 < (t345.length : Int) := of_decide_eq_true (by first | (with_reducible assumption) | assumption)
                                    obtain ⟨ad359, e359, hx359_0⟩ := Kd.at_int (Kd.R_reads' HO_8.out).2.2 x12_2 p359 q359
                                    obtain rfl : ad356 = ad359 := (by injection e359)
                                    replace p359 := eq_true p359
                                    replace q359 := eq_true q359
                                    go_wp2
                                    repeat (go_quiet (fail); try go_wp2)
                                    go_roundg k2
                                    case measure => have := HJ10.out; have := HK2.out; omega
                                    case rel => exact ⟨(wrap64 (x12_2 + 1)), (by first | rfl | (simp; done) | (simp [*]; done)), H', ⟨by have := HJ10.out; have := HK2.out; omega⟩, ⟨by (with_reducible repeat (first | apply Kd.R_alloc | apply Kd.R_drewN | apply Kd.R_drew)); exact HO_8.out⟩, ⟨by (with_reducible repeat (first | apply Kd.R_alloc | apply Kd.R_drewN | apply Kd.R_drew)); exact HO_10.out⟩, ⟨by repeat (first | (with_reducible first | exact HB.out | apply below_alloc | apply pw_below_drewN | apply below_drew1) | exact HB.out)⟩⟩
                          · rw [if_neg c34] at H
                            exact absurd H (by simp)
                        · rw [if_neg c33] at H
                          exact absurd H (by simp)
                      · rw [if_neg c32] at H
                        exact absurd H (by simp)
                    · rw [if_neg c31] at H
                      have c31b0 : decide (x12_2 ≤ (t343.size : Int)) = false := decide_eq_false c31
                      clear c31
                      replace H := Option.bind_eq_some_iff.mp H
                      obtain ⟨t362, A550, H⟩ := H
                      replace H : (some t362) = some r := H
                      have A55 := Aside0.mk A550
                      clear A550
                      obtain rfl := Option.some.inj H
                      go_wp2_with (first | (go_at_call 25; (with_reducible refine (numnahlaw09_awake.calls (hG := ?hg) k2  t362 _ A55.out).mono ?_); (case hg => exact gw_now hG (by repeat (first | (with_reducible first | exact HB.out | apply below_alloc | apply pw_below_drewN | apply below_drew1) | exact HB.out))); rintro e w56 ⟨rfl, hb⟩; have n0_ := Aside0.mk (Kd.R_below (by (with_reducible repeat (first | apply Kd.R_alloc | apply Kd.R_drewN | apply Kd.R_drew)); exact HO_8.out) hb); have n1_ := Aside0.mk (Kd.R_below (by (with_reducible repeat (first | apply Kd.R_alloc | apply Kd.R_drewN | apply Kd.R_drew)); exact HO_10.out) hb); have n2_ := Aside0.mk (below_step (by repeat (first | (with_reducible first | exact HB.out | apply below_alloc | apply pw_below_drewN | apply below_drew1) | exact HB.out)) hb); clear HO_8; clear HO_10; clear HB; have HO_8 := n0_; have HO_10 := n1_; have HB := n2_; clear n0_ n1_ n2_; (try clear hb); (try clear hb2); (try clear hk); (try clear hi)))
                      repeat (go_quiet (first | (go_at_call 25; (with_reducible refine (numnahlaw09_awake.calls (hG := ?hg) k2  t362 _ A55.out).mono ?_); (case hg => exact gw_now hG (by repeat (first | (with_reducible first | exact HB.out | apply below_alloc | apply pw_below_drewN | apply below_drew1) | exact HB.out))); rintro e w56 ⟨rfl, hb⟩; have n0_ := Aside0.mk (Kd.R_below (by (with_reducible repeat (first | apply Kd.R_alloc | apply Kd.R_drewN | apply Kd.R_drew)); exact HO_8.out) hb); have n1_ := Aside0.mk (Kd.R_below (by (with_reducible repeat (first | apply Kd.R_alloc | apply Kd.R_drewN | apply Kd.R_drew)); exact HO_10.out) hb); have n2_ := Aside0.mk (below_step (by repeat (first | (with_reducible first | exact HB.out | apply below_alloc | apply pw_below_drewN | apply below_drew1) | exact HB.out)) hb); clear HO_8; clear HO_10; clear HB; have HO_8 := n0_; have HO_10 := n1_; have HB := n2_; clear n0_ n1_ n2_; (try clear hb); (try clear hb2); (try clear hk); (try clear hi))); try go_wp2_with (first | (go_at_call 25; (with_reducible refine (numnahlaw09_awake.calls (hG := ?hg) k2  t362 _ A55.out).mono ?_); (case hg => exact gw_now hG (by repeat (first | (with_reducible first | exact HB.out | apply below_alloc | apply pw_below_drewN | apply below_drew1) | exact HB.out))); rintro e w56 ⟨rfl, hb⟩; have n0_ := Aside0.mk (Kd.R_below (by (with_reducible repeat (first | apply Kd.R_alloc | apply Kd.R_drewN | apply Kd.R_drew)); exact HO_8.out) hb); have n1_ := Aside0.mk (Kd.R_below (by (with_reducible repeat (first | apply Kd.R_alloc | apply Kd.R_drewN | apply Kd.R_drew)); exact HO_10.out) hb); have n2_ := Aside0.mk (below_step (by repeat (first | (with_reducible first | exact HB.out | apply below_alloc | apply pw_below_drewN | apply below_drew1) | exact HB.out)) hb); clear HO_8; clear HO_10; clear HB; have HO_8 := n0_; have HO_10 := n1_; have HB := n2_; clear n0_ n1_ n2_; (try clear hb); (try clear hb2); (try clear hk); (try clear hi))))
                      go_ret
                      exact ⟨by first | rfl | (simp [errW_none, errW_some] <;> rfl) | (simp [*, errW_none, errW_some] <;> rfl), by repeat (first | (with_reducible first | exact HB.out | apply below_alloc | apply pw_below_drewN | apply below_drew1) | exact HB.out)⟩
        · rw [if_neg c8] at H
          exact absurd H (by simp)
      · rw [if_neg c7] at H
        exact absurd H (by simp)
    · rw [if_neg c6] at H
      exact absurd H (by simp)
  · rw [if_neg c5] at H
    exact absurd H (by simp)

/-- THE ONE PURE STATEMENT of numnahlaw09_ParseNested: yours. -/
def numnahlaw09_ParseNested.Pure : Prop := ∀ (a0 : ByteArray) (a1 : Int), a0.size ≤ 140737488351232 → (Lit.int .i64 a1).wf = true → ∃ k, numnahlaw09_ParseNested.f k a0 a1 = some true
theorem numnahlaw09_ParseNested.walk (P : numnahlaw09_ParseNested.Pure) (a0 : ByteArray) (a1 : Int) (w : World) (hG : GW w) (w0 : a0.size ≤ 140737488351232) (w1 : (Lit.int .i64 a1).wf = true) :
    Calls Tryd.prog 6 #[.string a0, .int .i64 a1] w fun e w' => e = .returned (.bool true) ∧ Below w.heap.size w w' := by
  obtain ⟨k, h⟩ := P a0 a1 w0 w1
  refine (numnahlaw09_ParseNested.calls (hG := hG) k a0 a1 true w h).mono ?_
  rintro e w' ⟨rfl, hd⟩
  exact ⟨rfl, hd⟩

end Go.Proofs.YtpeeflkodpnbpaaDoor.Pr
