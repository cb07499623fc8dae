-- Laid by wip/tools/inj.py of this project, which drives the kit's printer. Lean checks it.
import Derived.Test.YtpeeflkodpnbpaaDoorPr0
import Derived.Test.YtpeeflkodpnbpaaDoorHEarl
import Derived.Test.YtpeeflkodpnbpaaDoorHCopy
import Derived.Test.YtpeeflkodpnbpaaDoorHDelta
import Derived.Test.YtpeeflkodpnbpaaDoorHFew
import Derived.Test.YtpeeflkodpnbpaaDoorPrA23
import Derived.Test.YtpeeflkodpnbpaaDoorPrB18
import Derived.Test.YtpeeflkodpnbpaaDoorPrB19
import Derived.Test.YtpeeflkodpnbpaaDoorPrB23
namespace Go.Proofs.YtpeeflkodpnbpaaDoor.Pr
open Go.RowKit Go.Proofs.YtpeeflkodpnbpaaDoorW.PrintWords Go.Proofs.YtpeeflkodpnbpaaDoorW.PrintLast Go.Proofs.YtpeeflkodpnbpaaDoorW.PrintMore
attribute [local go_sem] max2_int min2_int max_two min_two max_three min_three max_four min_four   -- for this text's walks alone
set_option linter.unusedVariables false
set_option linter.unusedSimpArgs false

/-! ### numnahlaw09_ParseFew: function 11 -/
mutual
def numnahlaw09_ParseFew.j0 : Nat → Int → ByteArray → List (S63) → List Int → Bool → Int → Int → Option (Bool)
  | 0, _, _, _, _, _, _, _ => none
  | k + 1, x1, x5, x6, x13, x97, x573000, x573001 => if x97 = true then (some false) else (numnahlaw09_ParseFew.l0 k x1 x5 x6 x13 ([] : List Int) 0 0 x573000 x573001)
def numnahlaw09_ParseFew.l0 : Nat → Int → ByteArray → List (S63) → List Int → List Int → Int → Int → Int → Int → Option (Bool)
  | 0, _, _, _, _, _, _, _, _, _ => none
  | k + 1, x1, x5, x6, x13, x15, x17, x18, x573000, x573001 => if x18 < (x6.length : Int) then (if 0 ≤ x18 then (if x15.length < 17592186044416 then (numnahlaw09_ParseFew.l0 k x1 x5 x6 x13 (x15 ++ [wrap64 ((wrap64 (x17 + (mn (mx ((rd_T63 x6 x18).f1) 1) (x5.size : Int)))) - 1)]) (wrap64 (x17 + (mn (mx ((rd_T63 x6 x18).f1) 1) (x5.size : Int)))) (wrap64 (x18 + 1)) x573000 x573001) else (none)) else (none)) else (numnahlaw09_ParseFew.l1 k x1 x5 x13 x15 ([] : List Int) 0 x573000 x573001)
def numnahlaw09_ParseFew.l1 : Nat → Int → ByteArray → List Int → List Int → List Int → Int → Int → Int → Option (Bool)
  | 0, _, _, _, _, _, _, _, _ => none
  | k + 1, x1, x5, x13, x15, x16, x19, x573000, x573001 => if x19 < (x5.size : Int) then ((numnahlaw09_mod.f x1 16384).bind fun t581 => (if 0 ≤ x19 then (if (Int.tmod (shr .i64 t581 x19) 2) = 1 then (if x16.length < 17592186044416 then (numnahlaw09_ParseFew.l1 k x1 x5 x13 x15 (x16 ++ [x19]) (wrap64 (x19 + 1)) x573000 x573001) else (none)) else (numnahlaw09_ParseFew.l1 k x1 x5 x13 x15 x16 (wrap64 (x19 + 1)) x573000 x573001)) else (none))) else (if x573001 = 0 then (none) else ((parse_Touches.f k x5 x15).bind fun bt585 => ((parse_Touches.f k x5 x13).bind fun bt588 => ((parse_Touches.f k x5 x16).bind fun bt591 => (if bt585.2.2 = 0 then (if bt585.2.1 = true then (if bt588.2.2 = 0 then (if bt588.2.1 = true then (if bt591.2.2 = 0 then (if (x13.length : Int) < (wrap64 (Int.tdiv (wrap64 ((wrap64 (x573000 + x573001)) - 1)) x573001)) then (some false) else (if (x15.length : Int) < (x13.length : Int) then (some false) else (if bt591.2.1 = true then (if (x16.length : Int) ≥ (x13.length : Int) then ((numnahlaw09_awake.f k).bind fun t594 => (some t594)) else (some false)) else ((numnahlaw09_awake.f k).bind fun t595 => (some t595))))) else (some false)) else (some false)) else (some false)) else (some false)) else (some false))))))
end
def numnahlaw09_ParseFew.f (k : Nat) (a0 : ByteArray) (a1 : Int) : Option (Bool) := (numnahlaw09_tame.f k a0 14).bind fun t558 => (if t558.toList = ([] : List UInt8) then ((numnahlaw09_awake.f k).bind fun t559 => (some t559)) else ((parse_Copying.f t558).bind fun bt560 => ((parse_Learning.f t558).bind fun bt564 => ((parse_Delta.f t558).bind fun bt568 => ((parse_Fewest.f t558).bind fun bt573 => (if bt560.2 = 0 then (if bt564.2 = 0 then (if bt568.2.2.2 = 0 then (if bt573.2 = 0 then (if bt568.2.1 < 1 then (numnahlaw09_ParseFew.j0 k a1 t558 bt560.1 bt573.1 true bt568.1 bt568.2.1) else (if bt568.1 < 1 then (numnahlaw09_ParseFew.j0 k a1 t558 bt560.1 bt573.1 true bt568.1 bt568.2.1) else (if bt568.1 > 200 then (numnahlaw09_ParseFew.j0 k a1 t558 bt560.1 bt573.1 true bt568.1 bt568.2.1) else (if bt568.2.1 > 200 then (numnahlaw09_ParseFew.j0 k a1 t558 bt560.1 bt573.1 true bt568.1 bt568.2.1) else (numnahlaw09_ParseFew.j0 k a1 t558 bt560.1 bt573.1 (decide ((bt560.1.length : Int) > (wrap64 (2 * (bt564.1.length : Int))))) bt568.1 bt568.2.1))))) else (numnahlaw09_ParseFew.j0 k a1 t558 bt560.1 bt573.1 true bt568.1 bt568.2.1)) else (numnahlaw09_ParseFew.j0 k a1 t558 bt560.1 bt573.1 true bt568.1 bt568.2.1)) else (numnahlaw09_ParseFew.j0 k a1 t558 bt560.1 bt573.1 true bt568.1 bt568.2.1)) else (numnahlaw09_ParseFew.j0 k a1 t558 bt560.1 bt573.1 true bt568.1 bt568.2.1)))))))
theorem numnahlaw09_ParseFew.mono_l : ∀ k, (∀ y0 y1 y2 y3 y4 y5 y6, LeO (numnahlaw09_ParseFew.j0 k y0 y1 y2 y3 y4 y5 y6) (numnahlaw09_ParseFew.j0 (k + 1) y0 y1 y2 y3 y4 y5 y6)) ∧ (∀ y0 y1 y2 y3 y4 y5 y6 y7 y8, LeO (numnahlaw09_ParseFew.l0 k y0 y1 y2 y3 y4 y5 y6 y7 y8) (numnahlaw09_ParseFew.l0 (k + 1) y0 y1 y2 y3 y4 y5 y6 y7 y8)) ∧ (∀ y0 y1 y2 y3 y4 y5 y6 y7, LeO (numnahlaw09_ParseFew.l1 k y0 y1 y2 y3 y4 y5 y6 y7) (numnahlaw09_ParseFew.l1 (k + 1) y0 y1 y2 y3 y4 y5 y6 y7))
  | 0 => ⟨fun _ _ _ _ _ _ _ r h => by simp [numnahlaw09_ParseFew.j0] at h, fun _ _ _ _ _ _ _ _ _ r h => by simp [numnahlaw09_ParseFew.l0] at h, fun _ _ _ _ _ _ _ _ r h => by simp [numnahlaw09_ParseFew.l1] at h⟩
  | k + 1 => by
    obtain ⟨ih0, ih1, ih2⟩ := numnahlaw09_ParseFew.mono_l k
    refine ⟨?_, ?_, ?_⟩
    · intro y0 y1 y2 y3 y4 y5 y6
      unfold numnahlaw09_ParseFew.j0
      repeat' first
      | (with_reducible exact ih0 _ _ _ _ _ _ _)
      | (with_reducible exact ih1 _ _ _ _ _ _ _ _ _)
      | (with_reducible exact ih2 _ _ _ _ _ _ _ _)
      | (with_reducible exact numnahlaw09_awake.mono _)
      | (with_reducible exact numnahlaw09_tame.mono _ _ _)
      | (with_reducible exact parse_Touches.mono _ _ _)
      | (with_reducible exact LeO.refl _)
      | (with_reducible exact LeO.none _)
      | (with_reducible refine LeO.ite ?_ ?_)
      | (with_reducible refine LeO.bind ?_ (fun _ => ?_))
      | exact ih0 _ _ _ _ _ _ _
      | exact ih1 _ _ _ _ _ _ _ _ _
      | exact ih2 _ _ _ _ _ _ _ _
      | exact numnahlaw09_awake.mono _
      | exact numnahlaw09_tame.mono _ _ _
      | exact parse_Touches.mono _ _ _
      | exact LeO.none _
      | refine LeO.ite ?_ ?_
      | refine LeO.bind ?_ (fun _ => ?_)
    · intro y0 y1 y2 y3 y4 y5 y6 y7 y8
      unfold numnahlaw09_ParseFew.l0
      repeat' first
      | (with_reducible exact ih0 _ _ _ _ _ _ _)
      | (with_reducible exact ih1 _ _ _ _ _ _ _ _ _)
      | (with_reducible exact ih2 _ _ _ _ _ _ _ _)
      | (with_reducible exact numnahlaw09_awake.mono _)
      | (with_reducible exact numnahlaw09_tame.mono _ _ _)
      | (with_reducible exact parse_Touches.mono _ _ _)
      | (with_reducible exact LeO.refl _)
      | (with_reducible exact LeO.none _)
      | (with_reducible refine LeO.ite ?_ ?_)
      | (with_reducible refine LeO.bind ?_ (fun _ => ?_))
      | exact ih0 _ _ _ _ _ _ _
      | exact ih1 _ _ _ _ _ _ _ _ _
      | exact ih2 _ _ _ _ _ _ _ _
      | exact numnahlaw09_awake.mono _
      | exact numnahlaw09_tame.mono _ _ _
      | exact parse_Touches.mono _ _ _
      | exact LeO.none _
      | refine LeO.ite ?_ ?_
      | refine LeO.bind ?_ (fun _ => ?_)
    · intro y0 y1 y2 y3 y4 y5 y6 y7
      unfold numnahlaw09_ParseFew.l1
      repeat' first
      | (with_reducible exact ih0 _ _ _ _ _ _ _)
      | (with_reducible exact ih1 _ _ _ _ _ _ _ _ _)
      | (with_reducible exact ih2 _ _ _ _ _ _ _ _)
      | (with_reducible exact numnahlaw09_awake.mono _)
      | (with_reducible exact numnahlaw09_tame.mono _ _ _)
      | (with_reducible exact parse_Touches.mono _ _ _)
      | (with_reducible exact LeO.refl _)
      | (with_reducible exact LeO.none _)
      | (with_reducible refine LeO.ite ?_ ?_)
      | (with_reducible refine LeO.bind ?_ (fun _ => ?_))
      | exact ih0 _ _ _ _ _ _ _
      | exact ih1 _ _ _ _ _ _ _ _ _
      | exact ih2 _ _ _ _ _ _ _ _
      | exact numnahlaw09_awake.mono _
      | exact numnahlaw09_tame.mono _ _ _
      | exact parse_Touches.mono _ _ _
      | exact LeO.none _
      | refine LeO.ite ?_ ?_
      | refine LeO.bind ?_ (fun _ => ?_)
theorem numnahlaw09_ParseFew.mono : ∀ a0 a1 k, LeO (numnahlaw09_ParseFew.f k a0 a1) (numnahlaw09_ParseFew.f (k + 1) a0 a1) := by
  intro a0 a1 k
  obtain ⟨ih0, ih1, ih2⟩ := numnahlaw09_ParseFew.mono_l k
  unfold numnahlaw09_ParseFew.f
  repeat' first
      | (with_reducible exact ih0 _ _ _ _ _ _ _)
      | (with_reducible exact ih1 _ _ _ _ _ _ _ _ _)
      | (with_reducible exact ih2 _ _ _ _ _ _ _ _)
      | (with_reducible exact numnahlaw09_awake.mono _)
      | (with_reducible exact numnahlaw09_tame.mono _ _ _)
      | (with_reducible exact parse_Touches.mono _ _ _)
      | (with_reducible exact LeO.refl _)
      | (with_reducible exact LeO.none _)
      | (with_reducible refine LeO.ite ?_ ?_)
      | (with_reducible refine LeO.bind ?_ (fun _ => ?_))
      | exact ih0 _ _ _ _ _ _ _
      | exact ih1 _ _ _ _ _ _ _ _ _
      | exact ih2 _ _ _ _ _ _ _ _
      | exact numnahlaw09_awake.mono _
      | exact numnahlaw09_tame.mono _ _ _
      | exact parse_Touches.mono _ _ _
      | exact LeO.none _
      | refine LeO.ite ?_ ?_
      | refine LeO.bind ?_ (fun _ => ?_)
set_option maxHeartbeats 8000000 in
set_option maxRecDepth 100000 in
theorem numnahlaw09_ParseFew.calls (k : Nat) (a0 : ByteArray) (a1 : Int) (r : Bool) (w : World) (hG : GW w) (h : numnahlaw09_ParseFew.f k a0 a1 = some r) :
    Calls Tryd.prog 11 #[.string a0, .int .i64 a1] w fun e w' => e = .returned (.bool r) ∧ Below w.heap.size w w' := by
  have hu59 := Tryd.underlying59
  have HB := Aside0.mk (Below.refl w.heap.size w)
  have H : ((numnahlaw09_tame.f k a0 14).bind fun t558 => (if t558.toList = ([] : List UInt8) then ((numnahlaw09_awake.f k).bind fun t559 => (some t559)) else ((parse_Copying.f t558).bind fun bt560 => ((parse_Learning.f t558).bind fun bt564 => ((parse_Delta.f t558).bind fun bt568 => ((parse_Fewest.f t558).bind fun bt573 => (if bt560.2 = 0 then (if bt564.2 = 0 then (if bt568.2.2.2 = 0 then (if bt573.2 = 0 then (if bt568.2.1 < 1 then (numnahlaw09_ParseFew.j0 k a1 t558 bt560.1 bt573.1 true bt568.1 bt568.2.1) else (if bt568.1 < 1 then (numnahlaw09_ParseFew.j0 k a1 t558 bt560.1 bt573.1 true bt568.1 bt568.2.1) else (if bt568.1 > 200 then (numnahlaw09_ParseFew.j0 k a1 t558 bt560.1 bt573.1 true bt568.1 bt568.2.1) else (if bt568.2.1 > 200 then (numnahlaw09_ParseFew.j0 k a1 t558 bt560.1 bt573.1 true bt568.1 bt568.2.1) else (numnahlaw09_ParseFew.j0 k a1 t558 bt560.1 bt573.1 (decide ((bt560.1.length : Int) > (wrap64 (2 * (bt564.1.length : Int))))) bt568.1 bt568.2.1))))) else (numnahlaw09_ParseFew.j0 k a1 t558 bt560.1 bt573.1 true bt568.1 bt568.2.1)) else (numnahlaw09_ParseFew.j0 k a1 t558 bt560.1 bt573.1 true bt568.1 bt568.2.1)) else (numnahlaw09_ParseFew.j0 k a1 t558 bt560.1 bt573.1 true bt568.1 bt568.2.1)) else (numnahlaw09_ParseFew.j0 k a1 t558 bt560.1 bt573.1 true bt568.1 bt568.2.1)))))))) = some r := h
  clear h
  replace H := Option.bind_eq_some_iff.mp H
  obtain ⟨t558, A30, H⟩ := H
  replace H : (if t558.toList = ([] : List UInt8) then ((numnahlaw09_awake.f k).bind fun t559 => (some t559)) else ((parse_Copying.f t558).bind fun bt560 => ((parse_Learning.f t558).bind fun bt564 => ((parse_Delta.f t558).bind fun bt568 => ((parse_Fewest.f t558).bind fun bt573 => (if bt560.2 = 0 then (if bt564.2 = 0 then (if bt568.2.2.2 = 0 then (if bt573.2 = 0 then (if bt568.2.1 < 1 then (numnahlaw09_ParseFew.j0 k a1 t558 bt560.1 bt573.1 true bt568.1 bt568.2.1) else (if bt568.1 < 1 then (numnahlaw09_ParseFew.j0 k a1 t558 bt560.1 bt573.1 true bt568.1 bt568.2.1) else (if bt568.1 > 200 then (numnahlaw09_ParseFew.j0 k a1 t558 bt560.1 bt573.1 true bt568.1 bt568.2.1) else (if bt568.2.1 > 200 then (numnahlaw09_ParseFew.j0 k a1 t558 bt560.1 bt573.1 true bt568.1 bt568.2.1) else (numnahlaw09_ParseFew.j0 k a1 t558 bt560.1 bt573.1 (decide ((bt560.1.length : Int) > (wrap64 (2 * (bt564.1.length : Int))))) bt568.1 bt568.2.1))))) else (numnahlaw09_ParseFew.j0 k a1 t558 bt560.1 bt573.1 true bt568.1 bt568.2.1)) else (numnahlaw09_ParseFew.j0 k a1 t558 bt560.1 bt573.1 true bt568.1 bt568.2.1)) else (numnahlaw09_ParseFew.j0 k a1 t558 bt560.1 bt573.1 true bt568.1 bt568.2.1)) else (numnahlaw09_ParseFew.j0 k a1 t558 bt560.1 bt573.1 true bt568.1 bt568.2.1))))))) = some r := H
  have A3 := Aside0.mk A30
  clear A30
  by_cases c4 : t558.toList = ([] : List UInt8)
  · rw [if_pos c4] at H
    have c4b0 : (t558.toList == ([] : List UInt8)) = true := beq_iff_eq.mpr c4
    have c4b1 : (t558.toList != ([] : List UInt8)) = false := bne_eq_false_iff_eq.mpr c4
    clear c4
    replace H := Option.bind_eq_some_iff.mp H
    obtain ⟨t559, A50, H⟩ := H
    replace H : (some t559) = some r := H
    have A5 := Aside0.mk A50
    clear A50
    obtain rfl := Option.some.inj H
    go_enter Tryd.func11, Tryd.ntmps11
    go_wp2_with (first | ((with_reducible refine gate_callee (f := 29) rfl ?_); refine goesL_ (some 31) rfl rfl Tryd.func29 (by kernel_rfl) rfl #[.string a0, .int .i64 14] rfl (by (try simp only [List.map_toArray, List.map_cons, List.map_nil]); first | done | rfl | (simp only [List.length_drop, List.length_take]; rfl)) ?_; (with_reducible refine (numnahlaw09_tame.calls k a0 14 t558 _ A3.out).mono ?_); rintro e w6 ⟨rfl, hb⟩; refine ⟨_, rfl, ?_⟩; have n0_ := Aside0.mk (below_step (by repeat (first | (with_reducible first | exact HB.out | apply below_alloc | apply pw_below_drewN | apply below_drew1) | exact HB.out)) hb); clear HB; have HB := n0_; clear n0_; (try clear hb); (try clear hb2); (try clear hk); (try clear hi)) | ((with_reducible refine gate_callee (f := 25) rfl ?_); refine goesL_ (some 34) rfl rfl Tryd.func25 (by kernel_rfl) rfl #[] rfl (by (try simp only [List.map_toArray, List.map_cons, List.map_nil]); first | done | rfl | (simp only [List.length_drop, List.length_take]; rfl)) ?_; (with_reducible refine (numnahlaw09_awake.calls (hG := ?hg) k  t559 _ A5.out).mono ?_); (case hg => exact gw_now hG (by repeat (first | (with_reducible first | exact HB.out | apply below_alloc | apply pw_below_drewN | apply below_drew1) | exact HB.out))); rintro e w7 ⟨rfl, hb⟩; refine ⟨_, rfl, ?_⟩; have n0_ := Aside0.mk (below_step (by repeat (first | (with_reducible first | exact HB.out | apply below_alloc | apply pw_below_drewN | apply below_drew1) | exact HB.out)) hb); clear HB; have HB := n0_; clear n0_; (try clear hb); (try clear hb2); (try clear hk); (try clear hi)))
    go_ret
    exact ⟨by first | rfl | (simp [errW_none, errW_some] <;> rfl) | (simp [*, errW_none, errW_some] <;> rfl), by repeat (first | (with_reducible first | exact HB.out | apply below_alloc | apply pw_below_drewN | apply below_drew1) | exact HB.out)⟩
  · rw [if_neg c4] at H
    have c4b0 : (t558.toList == ([] : List UInt8)) = false := beq_eq_false_iff_ne.mpr c4
    have c4b1 : (t558.toList != ([] : List UInt8)) = true := bne_iff_ne.mpr c4
    replace H := Option.bind_eq_some_iff.mp H
    obtain ⟨⟨t560, t561⟩, A80, H⟩ := H
    replace H : ((parse_Learning.f t558).bind fun bt564 => ((parse_Delta.f t558).bind fun bt568 => ((parse_Fewest.f t558).bind fun bt573 => (if t561 = 0 then (if bt564.2 = 0 then (if bt568.2.2.2 = 0 then (if bt573.2 = 0 then (if bt568.2.1 < 1 then (numnahlaw09_ParseFew.j0 k a1 t558 t560 bt573.1 true bt568.1 bt568.2.1) else (if bt568.1 < 1 then (numnahlaw09_ParseFew.j0 k a1 t558 t560 bt573.1 true bt568.1 bt568.2.1) else (if bt568.1 > 200 then (numnahlaw09_ParseFew.j0 k a1 t558 t560 bt573.1 true bt568.1 bt568.2.1) else (if bt568.2.1 > 200 then (numnahlaw09_ParseFew.j0 k a1 t558 t560 bt573.1 true bt568.1 bt568.2.1) else (numnahlaw09_ParseFew.j0 k a1 t558 t560 bt573.1 (decide ((t560.length : Int) > (wrap64 (2 * (bt564.1.length : Int))))) bt568.1 bt568.2.1))))) else (numnahlaw09_ParseFew.j0 k a1 t558 t560 bt573.1 true bt568.1 bt568.2.1)) else (numnahlaw09_ParseFew.j0 k a1 t558 t560 bt573.1 true bt568.1 bt568.2.1)) else (numnahlaw09_ParseFew.j0 k a1 t558 t560 bt573.1 true bt568.1 bt568.2.1)) else (numnahlaw09_ParseFew.j0 k a1 t558 t560 bt573.1 true bt568.1 bt568.2.1))))) = some r := H
    have A8 := Aside0.mk A80
    clear A80
    replace H := Option.bind_eq_some_iff.mp H
    obtain ⟨⟨t564, t565⟩, A90, H⟩ := H
    replace H : ((parse_Delta.f t558).bind fun bt568 => ((parse_Fewest.f t558).bind fun bt573 => (if t561 = 0 then (if t565 = 0 then (if bt568.2.2.2 = 0 then (if bt573.2 = 0 then (if bt568.2.1 < 1 then (numnahlaw09_ParseFew.j0 k a1 t558 t560 bt573.1 true bt568.1 bt568.2.1) else (if bt568.1 < 1 then (numnahlaw09_ParseFew.j0 k a1 t558 t560 bt573.1 true bt568.1 bt568.2.1) else (if bt568.1 > 200 then (numnahlaw09_ParseFew.j0 k a1 t558 t560 bt573.1 true bt568.1 bt568.2.1) else (if bt568.2.1 > 200 then (numnahlaw09_ParseFew.j0 k a1 t558 t560 bt573.1 true bt568.1 bt568.2.1) else (numnahlaw09_ParseFew.j0 k a1 t558 t560 bt573.1 (decide ((t560.length : Int) > (wrap64 (2 * (t564.length : Int))))) bt568.1 bt568.2.1))))) else (numnahlaw09_ParseFew.j0 k a1 t558 t560 bt573.1 true bt568.1 bt568.2.1)) else (numnahlaw09_ParseFew.j0 k a1 t558 t560 bt573.1 true bt568.1 bt568.2.1)) else (numnahlaw09_ParseFew.j0 k a1 t558 t560 bt573.1 true bt568.1 bt568.2.1)) else (numnahlaw09_ParseFew.j0 k a1 t558 t560 bt573.1 true bt568.1 bt568.2.1)))) = some r := H
    have A9 := Aside0.mk A90
    clear A90
    replace H := Option.bind_eq_some_iff.mp H
    obtain ⟨⟨t568, t569, t570, t571⟩, A100, H⟩ := H
    replace H : ((parse_Fewest.f t558).bind fun bt573 => (if t561 = 0 then (if t565 = 0 then (if t571 = 0 then (if bt573.2 = 0 then (if t569 < 1 then (numnahlaw09_ParseFew.j0 k a1 t558 t560 bt573.1 true t568 t569) else (if t568 < 1 then (numnahlaw09_ParseFew.j0 k a1 t558 t560 bt573.1 true t568 t569) else (if t568 > 200 then (numnahlaw09_ParseFew.j0 k a1 t558 t560 bt573.1 true t568 t569) else (if t569 > 200 then (numnahlaw09_ParseFew.j0 k a1 t558 t560 bt573.1 true t568 t569) else (numnahlaw09_ParseFew.j0 k a1 t558 t560 bt573.1 (decide ((t560.length : Int) > (wrap64 (2 * (t564.length : Int))))) t568 t569))))) else (numnahlaw09_ParseFew.j0 k a1 t558 t560 bt573.1 true t568 t569)) else (numnahlaw09_ParseFew.j0 k a1 t558 t560 bt573.1 true t568 t569)) else (numnahlaw09_ParseFew.j0 k a1 t558 t560 bt573.1 true t568 t569)) else (numnahlaw09_ParseFew.j0 k a1 t558 t560 bt573.1 true t568 t569))) = some r := H
    have A10 := Aside0.mk A100
    clear A100
    replace H := Option.bind_eq_some_iff.mp H
    obtain ⟨⟨t573, t574⟩, A110, H⟩ := H
    replace H : (if t561 = 0 then (if t565 = 0 then (if t571 = 0 then (if t574 = 0 then (if t569 < 1 then (numnahlaw09_ParseFew.j0 k a1 t558 t560 t573 true t568 t569) else (if t568 < 1 then (numnahlaw09_ParseFew.j0 k a1 t558 t560 t573 true t568 t569) else (if t568 > 200 then (numnahlaw09_ParseFew.j0 k a1 t558 t560 t573 true t568 t569) else (if t569 > 200 then (numnahlaw09_ParseFew.j0 k a1 t558 t560 t573 true t568 t569) else (numnahlaw09_ParseFew.j0 k a1 t558 t560 t573 (decide ((t560.length : Int) > (wrap64 (2 * (t564.length : Int))))) t568 t569))))) else (numnahlaw09_ParseFew.j0 k a1 t558 t560 t573 true t568 t569)) else (numnahlaw09_ParseFew.j0 k a1 t558 t560 t573 true t568 t569)) else (numnahlaw09_ParseFew.j0 k a1 t558 t560 t573 true t568 t569)) else (numnahlaw09_ParseFew.j0 k a1 t558 t560 t573 true t568 t569)) = some r := H
    have A11 := Aside0.mk A110
    clear A110
    have HC12 := Aside0.mk H
    clear H
    go_enter Tryd.func11, Tryd.ntmps11
    go_upto_region 8 with (first | ((with_reducible refine gate_callee (f := 29) rfl ?_); refine goesL_ (some 31) rfl rfl Tryd.func29 (by kernel_rfl) rfl #[.string a0, .int .i64 14] rfl (by (try simp only [List.map_toArray, List.map_cons, List.map_nil]); first | done | rfl | (simp only [List.length_drop, List.length_take]; rfl)) ?_; (with_reducible refine (numnahlaw09_tame.calls k a0 14 t558 _ A3.out).mono ?_); rintro e w13 ⟨rfl, hb⟩; refine ⟨_, rfl, ?_⟩; have n0_ := Aside0.mk (below_step (by repeat (first | (with_reducible first | exact HB.out | apply below_alloc | apply pw_below_drewN | apply below_drew1) | exact HB.out)) hb); clear HB; have HB := n0_; clear n0_; (try clear hb); (try clear hb2); (try clear hk); (try clear hi)) | ((with_reducible refine gate_callee (f := 22) rfl ?_); refine goesL_ (some 37) rfl rfl Tryd.func22 (by kernel_rfl) rfl #[.string t558] rfl (by (try simp only [List.map_toArray, List.map_cons, List.map_nil]); first | done | rfl | (simp only [List.length_drop, List.length_take]; rfl)) ?_; (with_reducible refine (parse_Copying.calls (hG := ?hg) t558 t560 t561 _ A8.out).mono ?_); (case hg => exact gw_now hG (by repeat (first | (with_reducible first | exact HB.out | apply below_alloc | apply pw_below_drewN | apply below_drew1) | exact HB.out))); rintro e w14 ⟨v562, rfl, ho0, hb⟩; refine ⟨_, rfl, ?_⟩; have n0_ := Aside0.mk (Kd.R_lower ho0 (below_size (by repeat (first | (with_reducible first | exact HB.out | apply below_alloc | apply pw_below_drewN | apply below_drew1) | exact HB.out)))); have n1_ := Aside0.mk (below_step (by repeat (first | (with_reducible first | exact HB.out | apply below_alloc | apply pw_below_drewN | apply below_drew1) | exact HB.out)) hb); clear HB; have HO563 := n0_; have HB := n1_; clear n0_ n1_; (try clear hb); (try clear hb2); (try clear hk); (try clear hi); (try clear ho0)) | ((with_reducible refine gate_callee (f := 23) rfl ?_); refine goesL_ (some 42) rfl rfl Tryd.func23 (by kernel_rfl) rfl #[.string t558] rfl (by (try simp only [List.map_toArray, List.map_cons, List.map_nil]); first | done | rfl | (simp only [List.length_drop, List.length_take]; rfl)) ?_; (with_reducible refine (parse_Learning.calls t558 t564 t565 _ A9.out).mono ?_); rintro e w15 ⟨v566, rfl, ho0, hb⟩; refine ⟨_, rfl, ?_⟩; have n0_ := Aside0.mk (Kd.R_elder' (by (with_reducible repeat (first | apply Kd.R_alloc | apply Kd.R_drewN | apply Kd.R_drew)); exact HO563.out) (Kd.R_base ho0) hb); have n1_ := Aside0.mk (Kd.R_lower (Kd.R_new' ho0 (Kd.R_lt (by (with_reducible repeat (first | apply Kd.R_alloc | apply Kd.R_drewN | apply Kd.R_drew)); exact HO563.out))) (below_size (by repeat (first | (with_reducible first | exact HB.out | apply below_alloc | apply pw_below_drewN | apply below_drew1) | exact HB.out)))); have n2_ := Aside0.mk (below_step (by repeat (first | (with_reducible first | exact HB.out | apply below_alloc | apply pw_below_drewN | apply below_drew1) | exact HB.out)) hb); clear HO563; clear HB; have HO563 := n0_; have HO567 := n1_; have HB := n2_; clear n0_ n1_ n2_; (try clear hb); (try clear hb2); (try clear hk); (try clear hi); (try clear ho0)) | ((with_reducible refine gate_callee (f := 46) rfl ?_); refine goesL_ (some 47) rfl rfl Tryd.func46 (by kernel_rfl) rfl #[.string t558] rfl (by (try simp only [List.map_toArray, List.map_cons, List.map_nil]); first | done | rfl | (simp only [List.length_drop, List.length_take]; rfl)) ?_; (with_reducible refine (parse_Delta.calls t558 t568 t569 t570 t571 _ A10.out).mono ?_); rintro e w16 ⟨rfl, hb⟩; refine ⟨_, rfl, ?_⟩; have n0_ := Aside0.mk (Kd.R_below (by (with_reducible repeat (first | apply Kd.R_alloc | apply Kd.R_drewN | apply Kd.R_drew)); exact HO563.out) hb); have n1_ := Aside0.mk (Kd.R_below (by (with_reducible repeat (first | apply Kd.R_alloc | apply Kd.R_drewN | apply Kd.R_drew)); exact HO567.out) hb); have n2_ := Aside0.mk (below_step (by repeat (first | (with_reducible first | exact HB.out | apply below_alloc | apply pw_below_drewN | apply below_drew1) | exact HB.out)) hb); clear HO563; clear HO567; clear HB; have HO563 := n0_; have HO567 := n1_; have HB := n2_; clear n0_ n1_ n2_; (try clear hb); (try clear hb2); (try clear hk); (try clear hi)) | ((with_reducible refine gate_dst (N := 10) rfl ?_); (try (refine gate_guard (by rfl) ?_; dsimp only)); refine box_event ?hg (N := 10) ?hd (cs := #[.int .i64 0, .int .i64 0]) (t := 59) ?hr ?_; (case hd => rfl); (case hg => rfl); (case hr => first | (go_simp; done) | (go_simp; rfl)); intro gb572 hg w17 hbox hb; have n0_ := Aside0.mk (Kd.R_below (by (with_reducible repeat (first | apply Kd.R_alloc | apply Kd.R_drewN | apply Kd.R_drew)); exact HO563.out) hb); have n1_ := Aside0.mk (Kd.R_below (by (with_reducible repeat (first | apply Kd.R_alloc | apply Kd.R_drewN | apply Kd.R_drew)); exact HO567.out) hb); have n2_ := Aside0.mk (below_step (by repeat (first | (with_reducible first | exact HB.out | apply below_alloc | apply pw_below_drewN | apply below_drew1) | exact HB.out)) hb); have n3_ := Aside0.mk (hbox); have n4_ := Aside0.mk ((by rw [hg]; exact (below_size (by repeat (first | (with_reducible first | exact HB.out | apply below_alloc | apply pw_below_drewN | apply below_drew1) | exact HB.out))) : w.heap.size ≤ gb572)); have n5_ := Aside0.mk ((by rw [hg]; exact (below_size (by repeat (first | (with_reducible first | exact HB.out | apply below_alloc | apply pw_below_drewN | apply below_drew1) | exact HB.out))) : w.heap.size ≤ gb572)); clear HO563; clear HO567; clear HB; have HO563 := n0_; have HO567 := n1_; have HB := n2_; have BK572 := n3_; have GW572 := n4_; have GE572 := n5_; clear n0_ n1_ n2_ n3_ n4_ n5_; clear hb hbox hg; have hcz18_0 : w17.cell? ⟨gb572, 0, none⟩ = some (.int .i64 0) := (blk_cell BK572.out 0).trans rfl; have hcz18_1 : w17.cell? ⟨gb572, 1, none⟩ = some (.int .i64 0) := (blk_cell BK572.out 1).trans rfl; have hfz18_0 := blk_frozen BK572.out 0; have hfz18_1 := blk_frozen BK572.out 1) | ((with_reducible refine gate_callee (f := 40) rfl ?_); refine goesL_ (some 53) rfl rfl Tryd.func40 (by kernel_rfl) rfl #[.string t558] rfl (by (try simp only [List.map_toArray, List.map_cons, List.map_nil]); first | done | rfl | (simp only [List.length_drop, List.length_take]; rfl)) ?_; (with_reducible refine (parse_Fewest.calls t558 t573 t574 _ A11.out).mono ?_); rintro e w19 ⟨v575, rfl, ho0, hb⟩; refine ⟨_, rfl, ?_⟩; have n0_ := Aside0.mk (Kd.R_below (by (with_reducible repeat (first | apply Kd.R_alloc | apply Kd.R_drewN | apply Kd.R_drew)); exact (Kd.R_mono (Kd.R_far (p := ⟨gb572, 1, none⟩) (Kd.R_far (p := ⟨gb572, 0, none⟩) (Kd.R_types HO563.out BK572.out (by decide)) (fun _ hk => hk.2) (.int .i64 t568)) (fun _ hk => hk.2) (.int .i64 t569)) (fun _ h_ => h_.1))) hb); have n1_ := Aside0.mk (Kd.R_below (by (with_reducible repeat (first | apply Kd.R_alloc | apply Kd.R_drewN | apply Kd.R_drew)); exact (Kd.R_mono (Kd.R_far (p := ⟨gb572, 1, none⟩) (Kd.R_far (p := ⟨gb572, 0, none⟩) (Kd.R_types HO567.out BK572.out (by decide)) (fun _ hk => hk.2) (.int .i64 t568)) (fun _ hk => hk.2) (.int .i64 t569)) (fun _ h_ => h_.1))) hb); have n2_ := Aside0.mk (Kd.R_lower ho0 (below_size (by repeat (first | (with_reducible first | exact HB.out | apply below_alloc | apply pw_below_drewN | apply below_drew1 | refine below_set ?_ GE572.out) | exact HB.out)))); have n3_ := Aside0.mk (blk_below (g := gb572) (o := .cells #[.int .i64 t568, .int .i64 t569] 59 (0, 0)) (by (with_reducible repeat (first | refine blk_drewN ?_ _ | refine blk_drew ?_ | refine blk_alloc ?_ _)); refine blk_put (cs := #[.int .i64 t568, .int .i64 0]) ?_ 1 _ rfl; (with_reducible repeat (first | refine blk_drewN ?_ _ | refine blk_drew ?_ | refine blk_alloc ?_ _)); refine blk_put (cs := #[.int .i64 0, .int .i64 0]) ?_ 0 _ rfl; (with_reducible repeat (first | refine blk_drewN ?_ _ | refine blk_drew ?_ | refine blk_alloc ?_ _)); exact BK572.out) hb); have n4_ := Aside0.mk (below_step (by repeat (first | (with_reducible first | exact HB.out | apply below_alloc | apply pw_below_drewN | apply below_drew1 | refine below_set ?_ GE572.out) | exact HB.out)) hb); clear HO563; clear HO567; clear BK572; clear HB; have HO563 := n0_; have HO567 := n1_; have HO576 := n2_; have BK572 := n3_; have HB := n4_; clear n0_ n1_ n2_ n3_ n4_; (try clear hb); (try clear hb2); (try clear hk); (try clear hi); (try clear ho0)))
    (try simp only [Act.put, List.setIfInBounds_toArray, List.set_cons_zero, List.set_cons_succ])
    go_cut [97] (fun v97 wc => ∃ (kq : Nat) (x97_11 : Bool), v97 = .bool x97_11 ∧ Aside0 (numnahlaw09_ParseFew.j0 kq a1 t558 t560 t573 x97_11 t568 t569 = some r) ∧ Aside0 (kq ≤ k) ∧ Aside0 (Kd.R k63 63 wc w.heap.size (fun _ => True) v562 t560) ∧ Aside0 (Kd.R (Kd.int .i64) 3 wc w.heap.size (fun _ => True) v575 t573) ∧ Aside0 (wc.heap[gb572]? = some (.cells #[.int .i64 t568, .int .i64 t569] 59 (0, 0))) ∧ Aside0 (Below w.heap.size w wc))
    case first =>
      have H := HC12.out
      clear HC12
      by_cases c20 : t561 = 0
      · rw [if_pos c20] at H
        have c20b0 : (t561 == 0) = true := beq_iff_eq.mpr c20
        have c20b1 : (t561 != 0) = false := bne_eq_false_iff_eq.mpr c20
        clear c20
        (first | rw [c20b0] | (simp only [i64_w, i32_w]; rw [c20b0]) | skip)
        by_cases c21 : t565 = 0
        · rw [if_pos c21] at H
          have c21b0 : (t565 == 0) = true := beq_iff_eq.mpr c21
          have c21b1 : (t565 != 0) = false := bne_eq_false_iff_eq.mpr c21
          clear c21
          by_cases c22 : t571 = 0
          · rw [if_pos c22] at H
            have c22b0 : (t571 == 0) = true := beq_iff_eq.mpr c22
            have c22b1 : (t571 != 0) = false := bne_eq_false_iff_eq.mpr c22
            clear c22
            by_cases c23 : t574 = 0
            · rw [if_pos c23] at H
              have c23b0 : (t574 == 0) = true := beq_iff_eq.mpr c23
              have c23b1 : (t574 != 0) = false := bne_eq_false_iff_eq.mpr c23
              clear c23
              by_cases c24 : t569 < 1
              · rw [if_pos c24] at H
                have c24b0 : decide (t569 < 1) = true := decide_eq_true c24
                clear c24
                have H' := Aside0.mk H
                clear H
                have hcz25_0 : w19.cell? ⟨gb572, 0, none⟩ = some (.int .i64 t568) := (blk_cell BK572.out 0).trans rfl
                have hcz25_1 : w19.cell? ⟨gb572, 1, none⟩ = some (.int .i64 t569) := (blk_cell BK572.out 1).trans rfl
                have hfz25_0 := blk_frozen BK572.out 0
                have hfz25_1 := blk_frozen BK572.out 1
                go_wp2
                go_meet
                case rel => exact ⟨_, (true), (by first | rfl | (simp; done) | (simp [*]; done)), H', ⟨by first | omega | exact Nat.le_refl _⟩, ⟨by (with_reducible repeat (first | apply Kd.R_alloc | apply Kd.R_drewN | apply Kd.R_drew)); exact Kd.R_mono HO563.out (fun _ hk => trivial)⟩, ⟨by (with_reducible repeat (first | apply Kd.R_alloc | apply Kd.R_drewN | apply Kd.R_drew)); exact HO576.out⟩, ⟨by (with_reducible repeat (first | refine blk_drewN ?_ _ | refine blk_drew ?_ | refine blk_alloc ?_ _)); exact BK572.out⟩, ⟨by repeat (first | (with_reducible first | exact HB.out | apply below_alloc | apply pw_below_drewN | apply below_drew1 | refine below_set ?_ GE572.out) | exact HB.out)⟩⟩
              · rw [if_neg c24] at H
                have c24b0 : decide (t569 < 1) = false := decide_eq_false c24
                clear c24
                by_cases c26 : t568 < 1
                · rw [if_pos c26] at H
                  have c26b0 : decide (t568 < 1) = true := decide_eq_true c26
                  clear c26
                  have H' := Aside0.mk H
                  clear H
                  have hcz27_0 : w19.cell? ⟨gb572, 0, none⟩ = some (.int .i64 t568) := (blk_cell BK572.out 0).trans rfl
                  have hcz27_1 : w19.cell? ⟨gb572, 1, none⟩ = some (.int .i64 t569) := (blk_cell BK572.out 1).trans rfl
                  have hfz27_0 := blk_frozen BK572.out 0
                  have hfz27_1 := blk_frozen BK572.out 1
                  go_wp2
                  go_meet
                  case rel => exact ⟨_, (true), (by first | rfl | (simp; done) | (simp [*]; done)), H', ⟨by first | omega | exact Nat.le_refl _⟩, ⟨by (with_reducible repeat (first | apply Kd.R_alloc | apply Kd.R_drewN | apply Kd.R_drew)); exact Kd.R_mono HO563.out (fun _ hk => trivial)⟩, ⟨by (with_reducible repeat (first | apply Kd.R_alloc | apply Kd.R_drewN | apply Kd.R_drew)); exact HO576.out⟩, ⟨by (with_reducible repeat (first | refine blk_drewN ?_ _ | refine blk_drew ?_ | refine blk_alloc ?_ _)); exact BK572.out⟩, ⟨by repeat (first | (with_reducible first | exact HB.out | apply below_alloc | apply pw_below_drewN | apply below_drew1 | refine below_set ?_ GE572.out) | exact HB.out)⟩⟩
                · rw [if_neg c26] at H
                  have c26b0 : decide (t568 < 1) = false := decide_eq_false c26
                  clear c26
                  by_cases c28 : t568 > 200
                  · rw [if_pos c28] at H
                    have c28b0 : decide (200 < t568) = true := decide_eq_true c28
                    clear c28
                    have H' := Aside0.mk H
                    clear H
                    have hcz29_0 : w19.cell? ⟨gb572, 0, none⟩ = some (.int .i64 t568) := (blk_cell BK572.out 0).trans rfl
                    have hcz29_1 : w19.cell? ⟨gb572, 1, none⟩ = some (.int .i64 t569) := (blk_cell BK572.out 1).trans rfl
                    have hfz29_0 := blk_frozen BK572.out 0
                    have hfz29_1 := blk_frozen BK572.out 1
                    go_wp2
                    go_meet
                    case rel => exact ⟨_, (true), (by first | rfl | (simp; done) | (simp [*]; done)), H', ⟨by first | omega | exact Nat.le_refl _⟩, ⟨by (with_reducible repeat (first | apply Kd.R_alloc | apply Kd.R_drewN | apply Kd.R_drew)); exact Kd.R_mono HO563.out (fun _ hk => trivial)⟩, ⟨by (with_reducible repeat (first | apply Kd.R_alloc | apply Kd.R_drewN | apply Kd.R_drew)); exact HO576.out⟩, ⟨by (with_reducible repeat (first | refine blk_drewN ?_ _ | refine blk_drew ?_ | refine blk_alloc ?_ _)); exact BK572.out⟩, ⟨by repeat (first | (with_reducible first | exact HB.out | apply below_alloc | apply pw_below_drewN | apply below_drew1 | refine below_set ?_ GE572.out) | exact HB.out)⟩⟩
                  · rw [if_neg c28] at H
                    have c28b0 : decide (200 < t568) = false := decide_eq_false c28
                    clear c28
                    by_cases c30 : t569 > 200
                    · rw [if_pos c30] at H
                      have c30b0 : decide (200 < t569) = true := decide_eq_true c30
                      clear c30
                      have H' := Aside0.mk H
                      clear H
                      have hcz31_0 : w19.cell? ⟨gb572, 0, none⟩ = some (.int .i64 t568) := (blk_cell BK572.out 0).trans rfl
                      have hcz31_1 : w19.cell? ⟨gb572, 1, none⟩ = some (.int .i64 t569) := (blk_cell BK572.out 1).trans rfl
                      have hfz31_0 := blk_frozen BK572.out 0
                      have hfz31_1 := blk_frozen BK572.out 1
                      go_wp2
                      go_meet
                      case rel => exact ⟨_, (true), (by first | rfl | (simp; done) | (simp [*]; done)), H', ⟨by first | omega | exact Nat.le_refl _⟩, ⟨by (with_reducible repeat (first | apply Kd.R_alloc | apply Kd.R_drewN | apply Kd.R_drew)); exact Kd.R_mono HO563.out (fun _ hk => trivial)⟩, ⟨by (with_reducible repeat (first | apply Kd.R_alloc | apply Kd.R_drewN | apply Kd.R_drew)); exact HO576.out⟩, ⟨by (with_reducible repeat (first | refine blk_drewN ?_ _ | refine blk_drew ?_ | refine blk_alloc ?_ _)); exact BK572.out⟩, ⟨by repeat (first | (with_reducible first | exact HB.out | apply below_alloc | apply pw_below_drewN | apply below_drew1 | refine below_set ?_ GE572.out) | exact HB.out)⟩⟩
                    · rw [if_neg c30] at H
                      have c30b0 : decide (200 < t569) = false := decide_eq_false c30
                      clear c30
                      have H' := Aside0.mk H
                      clear H
                      have hcz32_0 : w19.cell? ⟨gb572, 0, none⟩ = some (.int .i64 t568) := (blk_cell BK572.out 0).trans rfl
                      have hcz32_1 : w19.cell? ⟨gb572, 1, none⟩ = some (.int .i64 t569) := (blk_cell BK572.out 1).trans rfl
                      have hfz32_0 := blk_frozen BK572.out 0
                      have hfz32_1 := blk_frozen BK572.out 1
                      obtain ⟨Ao33, co33, eo33⟩ := Kd.R_slice HO563.out
                      subst eo33
                      obtain ⟨Ao34, co34, eo34⟩ := Kd.R_slice HO567.out
                      subst eo34
                      go_wp2
                      go_meet
                      case rel => exact ⟨_, (decide ((t560.length : Int) > (wrap64 (2 * (t564.length : Int))))), (by first | rfl | (simp; done) | (simp [*]; done)), H', ⟨by first | omega | exact Nat.le_refl _⟩, ⟨by (with_reducible repeat (first | apply Kd.R_alloc | apply Kd.R_drewN | apply Kd.R_drew)); exact Kd.R_mono HO563.out (fun _ hk => trivial)⟩, ⟨by (with_reducible repeat (first | apply Kd.R_alloc | apply Kd.R_drewN | apply Kd.R_drew)); exact HO576.out⟩, ⟨by (with_reducible repeat (first | refine blk_drewN ?_ _ | refine blk_drew ?_ | refine blk_alloc ?_ _)); exact BK572.out⟩, ⟨by repeat (first | (with_reducible first | exact HB.out | apply below_alloc | apply pw_below_drewN | apply below_drew1 | refine below_set ?_ GE572.out) | exact HB.out)⟩⟩
            · rw [if_neg c23] at H
              have c23b0 : (t574 == 0) = false := beq_eq_false_iff_ne.mpr c23
              have c23b1 : (t574 != 0) = true := bne_iff_ne.mpr c23
              have H' := Aside0.mk H
              clear H
              go_wp2
              go_meet
              case rel => exact ⟨_, (true), (by first | rfl | (simp; done) | (simp [*]; done)), H', ⟨by first | omega | exact Nat.le_refl _⟩, ⟨by (with_reducible repeat (first | apply Kd.R_alloc | apply Kd.R_drewN | apply Kd.R_drew)); exact Kd.R_mono HO563.out (fun _ hk => trivial)⟩, ⟨by (with_reducible repeat (first | apply Kd.R_alloc | apply Kd.R_drewN | apply Kd.R_drew)); exact HO576.out⟩, ⟨by (with_reducible repeat (first | refine blk_drewN ?_ _ | refine blk_drew ?_ | refine blk_alloc ?_ _)); exact BK572.out⟩, ⟨by repeat (first | (with_reducible first | exact HB.out | apply below_alloc | apply pw_below_drewN | apply below_drew1 | refine below_set ?_ GE572.out) | exact HB.out)⟩⟩
          · rw [if_neg c22] at H
            have c22b0 : (t571 == 0) = false := beq_eq_false_iff_ne.mpr c22
            have c22b1 : (t571 != 0) = true := bne_iff_ne.mpr c22
            have H' := Aside0.mk H
            clear H
            go_wp2
            go_meet
            case rel => exact ⟨_, (true), (by first | rfl | (simp; done) | (simp [*]; done)), H', ⟨by first | omega | exact Nat.le_refl _⟩, ⟨by (with_reducible repeat (first | apply Kd.R_alloc | apply Kd.R_drewN | apply Kd.R_drew)); exact Kd.R_mono HO563.out (fun _ hk => trivial)⟩, ⟨by (with_reducible repeat (first | apply Kd.R_alloc | apply Kd.R_drewN | apply Kd.R_drew)); exact HO576.out⟩, ⟨by (with_reducible repeat (first | refine blk_drewN ?_ _ | refine blk_drew ?_ | refine blk_alloc ?_ _)); exact BK572.out⟩, ⟨by repeat (first | (with_reducible first | exact HB.out | apply below_alloc | apply pw_below_drewN | apply below_drew1 | refine below_set ?_ GE572.out) | exact HB.out)⟩⟩
        · rw [if_neg c21] at H
          have c21b0 : (t565 == 0) = false := beq_eq_false_iff_ne.mpr c21
          have c21b1 : (t565 != 0) = true := bne_iff_ne.mpr c21
          have H' := Aside0.mk H
          clear H
          go_wp2
          go_meet
          case rel => exact ⟨_, (true), (by first | rfl | (simp; done) | (simp [*]; done)), H', ⟨by first | omega | exact Nat.le_refl _⟩, ⟨by (with_reducible repeat (first | apply Kd.R_alloc | apply Kd.R_drewN | apply Kd.R_drew)); exact Kd.R_mono HO563.out (fun _ hk => trivial)⟩, ⟨by (with_reducible repeat (first | apply Kd.R_alloc | apply Kd.R_drewN | apply Kd.R_drew)); exact HO576.out⟩, ⟨by (with_reducible repeat (first | refine blk_drewN ?_ _ | refine blk_drew ?_ | refine blk_alloc ?_ _)); exact BK572.out⟩, ⟨by repeat (first | (with_reducible first | exact HB.out | apply below_alloc | apply pw_below_drewN | apply below_drew1 | refine below_set ?_ GE572.out) | exact HB.out)⟩⟩
      · rw [if_neg c20] at H
        have c20b0 : (t561 == 0) = false := beq_eq_false_iff_ne.mpr c20
        have c20b1 : (t561 != 0) = true := bne_iff_ne.mpr c20
        (first | rw [c20b0] | (simp only [i64_w, i32_w]; rw [c20b0]) | skip)
        have H' := Aside0.mk H
        clear H
        go_wp2
        go_meet
        case rel => exact ⟨_, (true), (by first | rfl | (simp; done) | (simp [*]; done)), H', ⟨by first | omega | exact Nat.le_refl _⟩, ⟨by (with_reducible repeat (first | apply Kd.R_alloc | apply Kd.R_drewN | apply Kd.R_drew)); exact Kd.R_mono HO563.out (fun _ hk => trivial)⟩, ⟨by (with_reducible repeat (first | apply Kd.R_alloc | apply Kd.R_drewN | apply Kd.R_drew)); exact HO576.out⟩, ⟨by (with_reducible repeat (first | refine blk_drewN ?_ _ | refine blk_drew ?_ | refine blk_alloc ?_ _)); exact BK572.out⟩, ⟨by repeat (first | (with_reducible first | exact HB.out | apply below_alloc | apply pw_below_drewN | apply below_drew1 | refine below_set ?_ GE572.out) | exact HB.out)⟩⟩
    case rest =>
      clear HC12
      try clear c1
      try clear c2
      try clear p2
      try clear c3
      try clear c4
      try clear c4b0
      try clear c4b1
      try clear p6
      try clear c11
      try clear c20
      try clear c20b0
      try clear c20b1
      try clear c21
      try clear c21b0
      try clear c21b1
      try clear c22
      try clear c22b0
      try clear c22b1
      try clear c23
      try clear c23b0
      try clear c23b1
      try clear c24
      try clear c24b0
      try clear c25
      try clear c26
      try clear c26b0
      try clear c28
      try clear c28b0
      try clear c29
      try clear c30
      try clear c30b0
      try clear hcz18_0
      try clear hcz18_1
      try clear hcz25_0
      try clear hcz25_1
      try clear hcz27_0
      try clear hcz27_1
      try clear hcz29_0
      try clear hcz29_1
      try clear hcz31_0
      try clear hcz31_1
      try clear hcz32_0
      try clear hcz32_1
      try clear hfz18_0
      try clear hfz18_1
      try clear hfz25_0
      try clear hfz25_1
      try clear hfz27_0
      try clear hfz27_1
      try clear hfz29_0
      try clear hfz29_1
      try clear hfz31_0
      try clear hfz31_1
      try clear hfz32_0
      try clear hfz32_1
      obtain ⟨kq, x97_11, rfl, HA, HJ11, HO_6, HO_13, BK572, HB⟩ := hcut
      cases kq with
      | zero => exact absurd HA.out (by simp [numnahlaw09_ParseFew.j0])
      | succ kj11 =>
        have H := HA.out
        clear HA
        simp only [numnahlaw09_ParseFew.j0] at H
        by_cases c35 : x97_11 = true
        · subst c35
          have H1 : (some false) = some r := by rw [if_pos rfl] at H; exact H
          clear H
          have H := H1
          clear H1
          obtain rfl := Option.some.inj H
          go_wp2
          go_ret
          exact ⟨by first | rfl | (simp [errW_none, errW_some] <;> rfl) | (simp [*, errW_none, errW_some] <;> rfl), by repeat (first | (with_reducible first | exact HB.out | apply below_alloc | apply pw_below_drewN | apply below_drew1 | refine below_set ?_ GE572.out) | exact HB.out)⟩
        · replace c35 := Bool.eq_false_iff.mpr c35
          subst c35
          have H1 : (numnahlaw09_ParseFew.l0 kj11 a1 t558 t560 t573 ([] : List Int) 0 0 t568 t569) = some r := by rw [if_neg (show ¬ (false = true) by decide)] at H; exact H
          clear H
          have H := H1
          clear H1
          have H' := Aside0.mk H
          clear H
          go_wp2
          go_loopg [15, 17, 18] kj11 (fun kq v15 v17 v18 w' => ∃ (x15_2 : List Int) (x17_2 : Int) (x18_2 : Int), v17 = .int .i64 x17_2 ∧ v18 = .int .i64 x18_2 ∧ Aside0 (numnahlaw09_ParseFew.l0 kq a1 t558 t560 t573 x15_2 x17_2 x18_2 t568 t569 = some r) ∧ Aside0 (kq ≤ kj11) ∧ Aside0 (Kd.R k63 63 w' w.heap.size (fun _ => True) v562 t560) ∧ Aside0 (Kd.R (Kd.int .i64) 3 w' w.heap.size (fun k_ => some k_ ≠ (v15 : Value).ownBlock) v575 t573) ∧ Aside0 (Kd.R (Kd.int .i64) 3 w' w.heap.size (fun k_ => some k_ ≠ (v575 : Value).ownBlock) v15 x15_2) ∧ Aside0 (w'.heap[gb572]? = some (.cells #[.int .i64 t568, .int .i64 t569] 59 (0, 0))) ∧ Aside0 (Below w.heap.size w w'))
          case atStart => exact ⟨(([] : List Int)), (0), (0), (by first | rfl | (simp; done) | (simp [*]; done)), (by first | rfl | (simp; done) | (simp [*]; done)), H', ⟨Nat.le_refl _⟩, ⟨by (with_reducible repeat (first | apply Kd.R_alloc | apply Kd.R_drewN | apply Kd.R_drew)); exact HO_6.out⟩, ⟨by (with_reducible repeat (first | apply Kd.R_alloc | apply Kd.R_drewN | apply Kd.R_drew)); exact Kd.R_mono HO_13.out (fun _ hk => (by simp [Value.ownBlock]))⟩, ⟨by first | exact Kd.R_nil _ _ _ _ _ | exact Kd.N_nil _ _ _ _ _ | exact Kd.V_nil _ _ _ _ _ | exact Kd.Q_nil _ _ _ _ _ | exact Kd.S_nil _ _ _ _ _⟩, ⟨by (with_reducible repeat (first | refine blk_drewN ?_ _ | refine blk_drew ?_ | refine blk_alloc ?_ _)); exact BK572.out⟩, ⟨by repeat (first | (with_reducible first | exact HB.out | apply below_alloc | apply pw_below_drewN | apply below_drew1 | refine below_set ?_ GE572.out) | exact HB.out)⟩⟩
          case round =>
            clear H'
            try clear c1
            try clear c2
            try clear p2
            try clear c3
            try clear c4
            try clear c4b0
            try clear c4b1
            try clear p6
            try clear c11
            try clear c20
            try clear c20b0
            try clear c20b1
            try clear c21
            try clear c21b0
            try clear c21b1
            try clear c22
            try clear c22b0
            try clear c22b1
            try clear c23
            try clear c23b0
            try clear c23b1
            try clear c24
            try clear c24b0
            try clear c25
            try clear c26
            try clear c26b0
            try clear c28
            try clear c28b0
            try clear c29
            try clear c30
            try clear c30b0
            try clear c35
            try clear hcz18_0
            try clear hcz18_1
            try clear hcz25_0
            try clear hcz25_1
            try clear hcz27_0
            try clear hcz27_1
            try clear hcz29_0
            try clear hcz29_1
            try clear hcz31_0
            try clear hcz31_1
            try clear hcz32_0
            try clear hcz32_1
            try clear hfz18_0
            try clear hfz18_1
            try clear hfz25_0
            try clear hfz25_1
            try clear hfz27_0
            try clear hfz27_1
            try clear hfz29_0
            try clear hfz29_1
            try clear hfz31_0
            try clear hfz31_1
            try clear hfz32_0
            try clear hfz32_1
            try clear p2
            try clear p6
            obtain ⟨x15_2, x17_2, x18_2, rfl, rfl, HA, HK2, HO_6, HO_13, HO_15, BK572, HB⟩ := hrel
            cases gk with
            | zero => exact absurd HA.out (by simp [numnahlaw09_ParseFew.l0])
            | succ k2 =>
              have H := HA.out
              clear HA
              simp only [numnahlaw09_ParseFew.l0] at H
              by_cases c36 : x18_2 < (t560.length : Int)
              · rw [if_pos c36] at H
                have c36b0 : decide (x18_2 < (t560.length : Int)) = true := decide_eq_true c36
                clear c36
                by_cases c37 : 0 ≤ x18_2
                · rw [if_pos c37] at H
                  have c37b0 : decide (0 ≤ x18_2) = true := decide_eq_true c37
                  clear c37
                  obtain ⟨ji38, hji38⟩ : ∃ j_ : Int, (mx ((rd_T63 t560 x18_2).f1) 1) = j_ := ⟨_, rfl⟩
                  replace H : (if x15_2.length < 17592186044416 then (numnahlaw09_ParseFew.l0 k2 a1 t558 t560 t573 (x15_2 ++ [wrap64 ((wrap64 (x17_2 + (mn (ji38) (t558.size : Int)))) - 1)]) (wrap64 (x17_2 + (mn (ji38) (t558.size : Int)))) (wrap64 (x18_2 + 1)) t568 t569) else (none)) = some r := by first | (rw [hji38] at H; exact H) | (simp only [hji38] at H ⊢; exact H)
                  have hji38_ : (if ((rd_T63 t560 x18_2).f1) < 1 then 1 else ((rd_T63 t560 x18_2).f1)) = ji38 := hji38
                  obtain ⟨ji39, hji39⟩ : ∃ j_ : Int, (mn (ji38) (t558.size : Int)) = j_ := ⟨_, rfl⟩
                  replace H : (if x15_2.length < 17592186044416 then (numnahlaw09_ParseFew.l0 k2 a1 t558 t560 t573 (x15_2 ++ [wrap64 ((wrap64 (x17_2 + (ji39))) - 1)]) (wrap64 (x17_2 + (ji39))) (wrap64 (x18_2 + 1)) t568 t569) else (none)) = some r := by first | (rw [hji39] at H; exact H) | (simp only [hji39] at H ⊢; exact H)
                  have hji39_ : (if (t558.size : Int) < (ji38) then (t558.size : Int) else (ji38)) = ji39 := hji39
                  by_cases c40 : x15_2.length < 17592186044416
                  · rw [if_pos c40] at H
                    have LMc40 := Aside0.mk c40
                    clear c40
                    obtain ⟨y578, hy578⟩ : ∃ y_ : List Int, y_ = (x15_2 ++ [wrap64 ((wrap64 (x17_2 + (ji39))) - 1)]) := ⟨_, rfl⟩
                    replace H : (numnahlaw09_ParseFew.l0 k2 a1 t558 t560 t573 y578 (wrap64 (x17_2 + (ji39))) (wrap64 (x18_2 + 1)) t568 t569) = some r := by first | (rw [hy578]; with_reducible exact H) | (have H2_ := (Option.bind_some _ _).symm.trans H; rw [hy578]; with_reducible exact H2_) | (have H2_ := (Option.bind_some _ _).symm.trans H; with_reducible exact H2_) | with_reducible exact H | (rw [hy578]; exact H) | exact H
                    have Ny578 := Aside0.mk hy578
                    clear hy578
                    have H' := Aside0.mk H
                    clear H
                    obtain ⟨Ao41, co41, eo41⟩ := Kd.R_slice HO_6.out
                    subst eo41
                    have p577 : 0 ≤ (x18_2 : Int) := of_decide_eq_true (by first | (with_reducible assumption) | assumption)
                    have q577 : x18_2 < (t560.length : Int) := of_decide_eq_true (by first | (with_reducible assumption) | assumption)
                    obtain ⟨ad577, e577, hx577_0, hx577_1⟩ := at_T63 (Kd.R_reads' HO_6.out).2.2 x18_2 p577 q577
                    cases e577
                    replace p577 := eq_true p577
                    replace q577 := eq_true q577
                    go_wp2_with (first | ((with_reducible refine gate_builtin (b := .append) (xs := #[.tmp 115, .tmp 118]) rfl ?_); (try (refine gate_guard (by rfl) ?_; dsimp only)); at_builtin; refine Kd.R_append (Kd.int .i64) (w0 := w) w.heap.size rfl (.tmp 115) (.tmp 118) 34 3 (.int .i64 0) 8 rfl Tryd.underlying34 info3 rfl (by decide) (by omega) u15 x15_2 (wrap64 ((wrap64 (x17_2 + (ji39))) - 1)) [.int .i64 (wrap64 ((wrap64 (x17_2 + (ji39))) - 1))] (fun k_ => some k_ ≠ (v575 : Value).ownBlock) (fun _ => False) rfl rfl ?aP (fun _ hk => hk.elim) ?aF ?aO ?aB ?aS ?aL ?_; (case aP => exact rfl); (case aB => exact (by repeat (first | (with_reducible first | exact HB.out | apply below_alloc | apply pw_below_drewN | apply below_drew1 | refine below_set ?_ GE572.out) | exact HB.out))); (case aF => exact (fun k_ hk => Kd.fresh' (Kd.R_lt (by (with_reducible repeat (first | apply Kd.R_alloc | apply Kd.R_drewN | apply Kd.R_drew)); exact HO_13.out)) k_ hk)); (case aO => exact (by (with_reducible repeat (first | apply Kd.R_alloc | apply Kd.R_drewN | apply Kd.R_drew)); exact HO_15.out)); (case aS => exact (below_size (by repeat (first | (with_reducible first | exact HB.out | apply below_alloc | apply pw_below_drewN | apply below_drew1 | refine below_set ?_ GE572.out) | exact HB.out)))); (case aL => have := LMc40.out; omega); intro v579 w42 ho hb hg hat; rw [← Ny578.out] at ho; have n0_ := Aside0.mk (Kd.R_over' (by (with_reducible repeat (first | apply Kd.R_alloc | apply Kd.R_drewN | apply Kd.R_drew)); exact HO_6.out) (Kd.R_typed (by (with_reducible repeat (first | apply Kd.R_alloc | apply Kd.R_drewN | apply Kd.R_drew)); exact HO_15.out)) (by decide) hg); have n1_ := Aside0.mk (Kd.R_after (ok := (fun _ => True)) (by (with_reducible repeat (first | apply Kd.R_alloc | apply Kd.R_drewN | apply Kd.R_drew)); exact Kd.R_mono HO_13.out (fun _ hk => ⟨trivial, hk⟩)) hg hat); have n2_ := Aside0.mk (blk_grown (g := gb572) (o := .cells #[.int .i64 t568, .int .i64 t569] 59 (0, 0)) (by (with_reducible repeat (first | refine blk_drewN ?_ _ | refine blk_drew ?_ | refine blk_alloc ?_ _)); exact BK572.out) hg (Kd.R_ne HO_15.out BK572.out (by decide))); have n3_ := Aside0.mk (hb); have n4_ := Aside0.mk (ho); clear HO_6; clear HO_13; clear BK572; clear HB; clear HO_15; have HO_6 := n0_; have HO_13 := n1_; have BK572 := n2_; have HB := n3_; have HO580 := n4_; clear n0_ n1_ n2_ n3_ n4_; clear ho hb hg hat))
                    go_roundg k2
                    case measure => have := HJ11.out; have := HK2.out; omega
                    case rel => exact ⟨(y578), (wrap64 (x17_2 + (ji39))), (wrap64 (x18_2 + 1)), (by first | rfl | (simp; done) | (simp only [← hji39] <;> (first | rfl | simp)) | (simp [*]; done)), (by first | rfl | (simp; done) | (simp [*]; done)), H', ⟨by have := HJ11.out; have := HK2.out; omega⟩, ⟨by (with_reducible repeat (first | apply Kd.R_alloc | apply Kd.R_drewN | apply Kd.R_drew)); exact HO_6.out⟩, ⟨by (with_reducible repeat (first | apply Kd.R_alloc | apply Kd.R_drewN | apply Kd.R_drew)); exact Kd.R_mono HO_13.out (fun _ hk => hk.2)⟩, ⟨by (with_reducible repeat (first | apply Kd.R_alloc | apply Kd.R_drewN | apply Kd.R_drew)); exact HO580.out⟩, ⟨by (with_reducible repeat (first | refine blk_drewN ?_ _ | refine blk_drew ?_ | refine blk_alloc ?_ _)); exact BK572.out⟩, ⟨by repeat (first | (with_reducible first | exact HB.out | apply below_alloc | apply pw_below_drewN | apply below_drew1 | refine below_set ?_ GE572.out) | exact HB.out)⟩⟩
                  · rw [if_neg c40] at H
                    exact absurd H (by simp)
                · rw [if_neg c37] at H
                  exact absurd H (by simp)
              · rw [if_neg c36] at H
                have c36b0 : decide (x18_2 < (t560.length : Int)) = false := decide_eq_false c36
                clear c36
                have H' := Aside0.mk H
                clear H
                obtain ⟨Ao43, co43, eo43⟩ := Kd.R_slice HO_6.out
                subst eo43
                go_wp2
                go_loopg [16, 19] k2 (fun kq v16 v19 w' => ∃ (x16_3 : List Int) (x19_3 : Int), v19 = .int .i64 x19_3 ∧ Aside0 (numnahlaw09_ParseFew.l1 kq a1 t558 t573 x15_2 x16_3 x19_3 t568 t569 = some r) ∧ Aside0 (kq ≤ k2) ∧ Aside0 (Kd.R (Kd.int .i64) 3 w' w.heap.size (fun k_ => some k_ ≠ (u15 : Value).ownBlock ∧ some k_ ≠ (v16 : Value).ownBlock) v575 t573) ∧ Aside0 (Kd.R (Kd.int .i64) 3 w' w.heap.size (fun k_ => some k_ ≠ (v575 : Value).ownBlock ∧ some k_ ≠ (v16 : Value).ownBlock) u15 x15_2) ∧ Aside0 (Kd.R (Kd.int .i64) 3 w' w.heap.size (fun k_ => some k_ ≠ (v575 : Value).ownBlock ∧ some k_ ≠ (u15 : Value).ownBlock) v16 x16_3) ∧ Aside0 (w'.heap[gb572]? = some (.cells #[.int .i64 t568, .int .i64 t569] 59 (0, 0))) ∧ Aside0 (Below w.heap.size w w'))
                case atStart => exact ⟨(([] : List Int)), (0), (by first | rfl | (simp; done) | (simp [*]; done)), H', ⟨Nat.le_refl _⟩, ⟨by (with_reducible repeat (first | apply Kd.R_alloc | apply Kd.R_drewN | apply Kd.R_drew)); exact Kd.R_mono HO_13.out (fun _ hk => ⟨hk, (by simp [Value.ownBlock])⟩)⟩, ⟨by (with_reducible repeat (first | apply Kd.R_alloc | apply Kd.R_drewN | apply Kd.R_drew)); exact Kd.R_mono HO_15.out (fun _ hk => ⟨hk, (by simp [Value.ownBlock])⟩)⟩, ⟨by first | exact Kd.R_nil _ _ _ _ _ | exact Kd.N_nil _ _ _ _ _ | exact Kd.V_nil _ _ _ _ _ | exact Kd.Q_nil _ _ _ _ _ | exact Kd.S_nil _ _ _ _ _⟩, ⟨by (with_reducible repeat (first | refine blk_drewN ?_ _ | refine blk_drew ?_ | refine blk_alloc ?_ _)); exact BK572.out⟩, ⟨by repeat (first | (with_reducible first | exact HB.out | apply below_alloc | apply pw_below_drewN | apply below_drew1 | refine below_set ?_ GE572.out) | exact HB.out)⟩⟩
                case round =>
                  clear H'
                  try clear c1
                  try clear c2
                  try clear p2
                  try clear c3
                  try clear c4
                  try clear c4b0
                  try clear c4b1
                  try clear p5
                  try clear q5
                  try clear hx5
                  try clear p6
                  try clear c11
                  try clear c20
                  try clear c20b0
                  try clear c20b1
                  try clear c21
                  try clear c21b0
                  try clear c21b1
                  try clear c22
                  try clear c22b0
                  try clear c22b1
                  try clear c23
                  try clear c23b0
                  try clear c23b1
                  try clear c24
                  try clear c24b0
                  try clear c25
                  try clear c26
                  try clear c26b0
                  try clear c28
                  try clear c28b0
                  try clear c29
                  try clear c30
                  try clear c30b0
                  try clear c35
                  try clear c36
                  try clear c36b0
                  try clear c37
                  try clear c37b0
                  try clear c40
                  try clear hcz18_0
                  try clear hcz18_1
                  try clear hcz25_0
                  try clear hcz25_1
                  try clear hcz27_0
                  try clear hcz27_1
                  try clear hcz29_0
                  try clear hcz29_1
                  try clear hcz31_0
                  try clear hcz31_1
                  try clear hcz32_0
                  try clear hcz32_1
                  try clear hfz18_0
                  try clear hfz18_1
                  try clear hfz25_0
                  try clear hfz25_1
                  try clear hfz27_0
                  try clear hfz27_1
                  try clear hfz29_0
                  try clear hfz29_1
                  try clear hfz31_0
                  try clear hfz31_1
                  try clear hfz32_0
                  try clear hfz32_1
                  try clear hx577_0
                  try clear hx577_1
                  try clear p2
                  try clear p577
                  try clear p6
                  try clear q577
                  obtain ⟨x16_3, x19_3, rfl, HA, HK3, HO_13, HO_15, HO_16, BK572, HB⟩ := hrel
                  cases gk with
                  | zero => exact absurd HA.out (by simp [numnahlaw09_ParseFew.l1])
                  | succ k3 =>
                    have H := HA.out
                    clear HA
                    simp only [numnahlaw09_ParseFew.l1] at H
                    by_cases c44 : x19_3 < (t558.size : Int)
                    · rw [if_pos c44] at H
                      have c44b0 : decide (x19_3 < (t558.size : Int)) = true := decide_eq_true c44
                      clear c44
                      replace H := Option.bind_eq_some_iff.mp H
                      obtain ⟨t581, A450, H⟩ := H
                      replace H : (if 0 ≤ x19_3 then (if (Int.tmod (shr .i64 t581 x19_3) 2) = 1 then (if x16_3.length < 17592186044416 then (numnahlaw09_ParseFew.l1 k3 a1 t558 t573 x15_2 (x16_3 ++ [x19_3]) (wrap64 (x19_3 + 1)) t568 t569) else (none)) else (numnahlaw09_ParseFew.l1 k3 a1 t558 t573 x15_2 x16_3 (wrap64 (x19_3 + 1)) t568 t569)) else (none)) = some r := H
                      have A45 := Aside0.mk A450
                      clear A450
                      by_cases c46 : 0 ≤ x19_3
                      · rw [if_pos c46] at H
                        have c46b0 := eq_true c46
                        have c46b1 : decide (0 ≤ x19_3) = true := decide_eq_true c46
                        clear c46
                        obtain ⟨ji47, hji47⟩ : ∃ j_ : Int, (shr .i64 t581 x19_3) = j_ := ⟨_, rfl⟩
                        replace H : (if (Int.tmod (ji47) 2) = 1 then (if x16_3.length < 17592186044416 then (numnahlaw09_ParseFew.l1 k3 a1 t558 t573 x15_2 (x16_3 ++ [x19_3]) (wrap64 (x19_3 + 1)) t568 t569) else (none)) else (numnahlaw09_ParseFew.l1 k3 a1 t558 t573 x15_2 x16_3 (wrap64 (x19_3 + 1)) t568 t569)) = some r := by first | (rw [hji47] at H; exact H) | (simp only [hji47] at H ⊢; exact H)
                        (try rw [hji47] at A45)
                        have hji47_ : (t581 / 2 ^ min x19_3.toNat 64) = ji47 := hji47
                        have hji47z : x19_3 ≤ 64 → (t581 / 2 ^ x19_3.toNat) = ji47 := shr_small hji47
                        by_cases c48 : (Int.tmod (ji47) 2) = 1
                        · rw [if_pos c48] at H
                          have c48b0 : ((Int.tmod (ji47) 2) == 1) = true := beq_iff_eq.mpr c48
                          have c48b1 : ((Int.tmod (ji47) 2) != 1) = false := bne_eq_false_iff_eq.mpr c48
                          clear c48
                          by_cases c49 : x16_3.length < 17592186044416
                          · rw [if_pos c49] at H
                            have LMc49 := Aside0.mk c49
                            clear c49
                            obtain ⟨y582, hy582⟩ : ∃ y_ : List Int, y_ = (x16_3 ++ [x19_3]) := ⟨_, rfl⟩
                            replace H : (numnahlaw09_ParseFew.l1 k3 a1 t558 t573 x15_2 y582 (wrap64 (x19_3 + 1)) t568 t569) = some r := by first | (rw [hy582]; with_reducible exact H) | (have H2_ := (Option.bind_some _ _).symm.trans H; rw [hy582]; with_reducible exact H2_) | (have H2_ := (Option.bind_some _ _).symm.trans H; with_reducible exact H2_) | with_reducible exact H | (rw [hy582]; exact H) | exact H
                            have Ny582 := Aside0.mk hy582
                            clear hy582
                            have H' := Aside0.mk H
                            clear H
                            go_wp2_with (first | ((with_reducible refine gate_callee (f := 31) rfl ?_); refine goesL_ (some 127) rfl rfl Tryd.func31 (by kernel_rfl) rfl #[.int .i64 a1, .int .i64 16384] rfl (by (try simp only [List.map_toArray, List.map_cons, List.map_nil]); first | done | rfl | (simp only [List.length_drop, List.length_take]; rfl)) ?_; (with_reducible refine (numnahlaw09_mod.calls a1 16384 t581 _ A45.out).mono ?_); rintro e w' ⟨rfl, ⟨nd, rfl⟩⟩; refine ⟨_, rfl, ?_⟩) | ((with_reducible refine gate_builtin (b := .append) (xs := #[.tmp 132, .tmp 134]) rfl ?_); (try (refine gate_guard (by rfl) ?_; dsimp only)); at_builtin; refine Kd.R_append (Kd.int .i64) (w0 := w) w.heap.size rfl (.tmp 132) (.tmp 134) 34 3 (.int .i64 0) 8 rfl Tryd.underlying34 info3 rfl (by decide) (by omega) u16 x16_3 x19_3 [.int .i64 x19_3] (fun k_ => some k_ ≠ (v575 : Value).ownBlock ∧ some k_ ≠ (u15 : Value).ownBlock) (fun _ => False) rfl rfl ?aP (fun _ hk => hk.elim) ?aF ?aO ?aB ?aS ?aL ?_; (case aP => exact rfl); (case aB => exact (by repeat (first | (with_reducible first | exact HB.out | apply below_alloc | apply pw_below_drewN | apply below_drew1 | refine below_set ?_ GE572.out) | exact HB.out))); (case aF => exact (fun k_ hk => ⟨Kd.fresh' (Kd.R_lt (by (with_reducible repeat (first | apply Kd.R_alloc | apply Kd.R_drewN | apply Kd.R_drew)); exact HO_13.out)) k_ hk, Kd.fresh' (Kd.R_lt (by (with_reducible repeat (first | apply Kd.R_alloc | apply Kd.R_drewN | apply Kd.R_drew)); exact HO_15.out)) k_ hk⟩)); (case aO => exact (by (with_reducible repeat (first | apply Kd.R_alloc | apply Kd.R_drewN | apply Kd.R_drew)); exact HO_16.out)); (case aS => exact (below_size (by repeat (first | (with_reducible first | exact HB.out | apply below_alloc | apply pw_below_drewN | apply below_drew1 | refine below_set ?_ GE572.out) | exact HB.out)))); (case aL => have := LMc49.out; omega); intro v583 w50 ho hb hg hat; rw [← Ny582.out] at ho; have n0_ := Aside0.mk (Kd.R_after (ok := (fun k_ => some k_ ≠ (u15 : Value).ownBlock)) (by (with_reducible repeat (first | apply Kd.R_alloc | apply Kd.R_drewN | apply Kd.R_drew)); exact HO_13.out) hg hat); have n1_ := Aside0.mk (Kd.R_after (ok := (fun k_ => some k_ ≠ (v575 : Value).ownBlock)) (by (with_reducible repeat (first | apply Kd.R_alloc | apply Kd.R_drewN | apply Kd.R_drew)); exact HO_15.out) hg hat); have n2_ := Aside0.mk (blk_grown (g := gb572) (o := .cells #[.int .i64 t568, .int .i64 t569] 59 (0, 0)) (by (with_reducible repeat (first | refine blk_drewN ?_ _ | refine blk_drew ?_ | refine blk_alloc ?_ _)); exact BK572.out) hg (Kd.R_ne HO_16.out BK572.out (by decide))); have n3_ := Aside0.mk (hb); have n4_ := Aside0.mk (ho); clear HO_13; clear HO_15; clear BK572; clear HB; clear HO_16; have HO_13 := n0_; have HO_15 := n1_; have BK572 := n2_; have HB := n3_; have HO584 := n4_; clear n0_ n1_ n2_ n3_ n4_; clear ho hb hg hat))
                            go_roundg k3
                            case measure => have := HJ11.out; have := HK2.out; have := HK3.out; omega
                            case rel => exact ⟨(y582), (wrap64 (x19_3 + 1)), (by first | rfl | (simp; done) | (simp [*]; done)), H', ⟨by have := HJ11.out; have := HK2.out; have := HK3.out; omega⟩, ⟨by (with_reducible repeat (first | apply Kd.R_alloc | apply Kd.R_drewN | apply Kd.R_drew)); exact HO_13.out⟩, ⟨by (with_reducible repeat (first | apply Kd.R_alloc | apply Kd.R_drewN | apply Kd.R_drew)); exact HO_15.out⟩, ⟨by (with_reducible repeat (first | apply Kd.R_alloc | apply Kd.R_drewN | apply Kd.R_drew)); exact HO584.out⟩, ⟨by (with_reducible repeat (first | refine blk_drewN ?_ _ | refine blk_drew ?_ | refine blk_alloc ?_ _)); exact BK572.out⟩, ⟨by repeat (first | (with_reducible first | exact HB.out | apply below_alloc | apply pw_below_drewN | apply below_drew1 | refine below_set ?_ GE572.out) | exact HB.out)⟩⟩
                          · rw [if_neg c49] at H
                            exact absurd H (by simp)
                        · rw [if_neg c48] at H
                          have c48b0 : ((Int.tmod (ji47) 2) == 1) = false := beq_eq_false_iff_ne.mpr c48
                          have c48b1 : ((Int.tmod (ji47) 2) != 1) = true := bne_iff_ne.mpr c48
                          have H' := Aside0.mk H
                          clear H
                          go_wp2_with (first | ((with_reducible refine gate_callee (f := 31) rfl ?_); refine goesL_ (some 127) rfl rfl Tryd.func31 (by kernel_rfl) rfl #[.int .i64 a1, .int .i64 16384] rfl (by (try simp only [List.map_toArray, List.map_cons, List.map_nil]); first | done | rfl | (simp only [List.length_drop, List.length_take]; rfl)) ?_; (with_reducible refine (numnahlaw09_mod.calls a1 16384 t581 _ A45.out).mono ?_); rintro e w' ⟨rfl, ⟨nd, rfl⟩⟩; refine ⟨_, rfl, ?_⟩))
                          go_roundg k3
                          case measure => have := HJ11.out; have := HK2.out; have := HK3.out; omega
                          case rel => exact ⟨(x16_3), (wrap64 (x19_3 + 1)), (by first | rfl | (simp; done) | (simp [*]; done)), H', ⟨by have := HJ11.out; have := HK2.out; have := HK3.out; omega⟩, ⟨by (with_reducible repeat (first | apply Kd.R_alloc | apply Kd.R_drewN | apply Kd.R_drew)); exact HO_13.out⟩, ⟨by (with_reducible repeat (first | apply Kd.R_alloc | apply Kd.R_drewN | apply Kd.R_drew)); exact HO_15.out⟩, ⟨by (with_reducible repeat (first | apply Kd.R_alloc | apply Kd.R_drewN | apply Kd.R_drew)); exact HO_16.out⟩, ⟨by (with_reducible repeat (first | refine blk_drewN ?_ _ | refine blk_drew ?_ | refine blk_alloc ?_ _)); exact BK572.out⟩, ⟨by repeat (first | (with_reducible first | exact HB.out | apply below_alloc | apply pw_below_drewN | apply below_drew1 | refine below_set ?_ GE572.out) | exact HB.out)⟩⟩
                      · rw [if_neg c46] at H
                        exact absurd H (by simp)
                    · rw [if_neg c44] at H
                      have c44b0 : decide (x19_3 < (t558.size : Int)) = false := decide_eq_false c44
                      clear c44
                      by_cases c51 : t569 = 0
                      · rw [if_pos c51] at H
                        exact absurd H (by simp)
                      · rw [if_neg c51] at H
                        have c51b0 : (t569 == 0) = false := beq_eq_false_iff_ne.mpr c51
                        have c51b1 : (t569 != 0) = true := bne_iff_ne.mpr c51
                        replace H := Option.bind_eq_some_iff.mp H
                        obtain ⟨⟨t585, t586, t587⟩, A520, H⟩ := H
                        replace H : ((parse_Touches.f k3 t558 t573).bind fun bt588 => ((parse_Touches.f k3 t558 x16_3).bind fun bt591 => (if t587 = 0 then (if t586 = true then (if bt588.2.2 = 0 then (if bt588.2.1 = true then (if bt591.2.2 = 0 then (if (t573.length : Int) < (wrap64 (Int.tdiv (wrap64 ((wrap64 (t568 + t569)) - 1)) t569)) then (some false) else (if (x15_2.length : Int) < (t573.length : Int) then (some false) else (if bt591.2.1 = true then (if (x16_3.length : Int) ≥ (t573.length : Int) then ((numnahlaw09_awake.f k3).bind fun t594 => (some t594)) else (some false)) else ((numnahlaw09_awake.f k3).bind fun t595 => (some t595))))) else (some false)) else (some false)) else (some false)) else (some false)) else (some false)))) = some r := H
                        have A52 := Aside0.mk A520
                        clear A520
                        replace H := Option.bind_eq_some_iff.mp H
                        obtain ⟨⟨t588, t589, t590⟩, A530, H⟩ := H
                        replace H : ((parse_Touches.f k3 t558 x16_3).bind fun bt591 => (if t587 = 0 then (if t586 = true then (if t590 = 0 then (if t589 = true then (if bt591.2.2 = 0 then (if (t573.length : Int) < (wrap64 (Int.tdiv (wrap64 ((wrap64 (t568 + t569)) - 1)) t569)) then (some false) else (if (x15_2.length : Int) < (t573.length : Int) then (some false) else (if bt591.2.1 = true then (if (x16_3.length : Int) ≥ (t573.length : Int) then ((numnahlaw09_awake.f k3).bind fun t594 => (some t594)) else (some false)) else ((numnahlaw09_awake.f k3).bind fun t595 => (some t595))))) else (some false)) else (some false)) else (some false)) else (some false)) else (some false))) = some r := H
                        have A53 := Aside0.mk A530
                        clear A530
                        replace H := Option.bind_eq_some_iff.mp H
                        obtain ⟨⟨t591, t592, t593⟩, A540, H⟩ := H
                        replace H : (if t587 = 0 then (if t586 = true then (if t590 = 0 then (if t589 = true then (if t593 = 0 then (if (t573.length : Int) < (wrap64 (Int.tdiv (wrap64 ((wrap64 (t568 + t569)) - 1)) t569)) then (some false) else (if (x15_2.length : Int) < (t573.length : Int) then (some false) else (if t592 = true then (if (x16_3.length : Int) ≥ (t573.length : Int) then ((numnahlaw09_awake.f k3).bind fun t594 => (some t594)) else (some false)) else ((numnahlaw09_awake.f k3).bind fun t595 => (some t595))))) else (some false)) else (some false)) else (some false)) else (some false)) else (some false)) = some r := H
                        have A54 := Aside0.mk A540
                        clear A540
                        by_cases c55 : t587 = 0
                        · rw [if_pos c55] at H
                          have c55b0 : (t587 == 0) = true := beq_iff_eq.mpr c55
                          have c55b1 : (t587 != 0) = false := bne_eq_false_iff_eq.mpr c55
                          clear c55
                          by_cases c56 : t586 = true
                          · subst c56
                            have H1 : (if t590 = 0 then (if t589 = true then (if t593 = 0 then (if (t573.length : Int) < (wrap64 (Int.tdiv (wrap64 ((wrap64 (t568 + t569)) - 1)) t569)) then (some false) else (if (x15_2.length : Int) < (t573.length : Int) then (some false) else (if t592 = true then (if (x16_3.length : Int) ≥ (t573.length : Int) then ((numnahlaw09_awake.f k3).bind fun t594 => (some t594)) else (some false)) else ((numnahlaw09_awake.f k3).bind fun t595 => (some t595))))) else (some false)) else (some false)) else (some false)) = some r := by rw [if_pos rfl] at H; exact H
                            clear H
                            have H := H1
                            clear H1
                            by_cases c57 : t590 = 0
                            · rw [if_pos c57] at H
                              have c57b0 : (t590 == 0) = true := beq_iff_eq.mpr c57
                              have c57b1 : (t590 != 0) = false := bne_eq_false_iff_eq.mpr c57
                              clear c57
                              by_cases c58 : t589 = true
                              · subst c58
                                have H1 : (if t593 = 0 then (if (t573.length : Int) < (wrap64 (Int.tdiv (wrap64 ((wrap64 (t568 + t569)) - 1)) t569)) then (some false) else (if (x15_2.length : Int) < (t573.length : Int) then (some false) else (if t592 = true then (if (x16_3.length : Int) ≥ (t573.length : Int) then ((numnahlaw09_awake.f k3).bind fun t594 => (some t594)) else (some false)) else ((numnahlaw09_awake.f k3).bind fun t595 => (some t595))))) else (some false)) = some r := by rw [if_pos rfl] at H; exact H
                                clear H
                                have H := H1
                                clear H1
                                by_cases c59 : t593 = 0
                                · rw [if_pos c59] at H
                                  have c59b0 : (t593 == 0) = true := beq_iff_eq.mpr c59
                                  have c59b1 : (t593 != 0) = false := bne_eq_false_iff_eq.mpr c59
                                  clear c59
                                  by_cases c60 : (t573.length : Int) < (wrap64 (Int.tdiv (wrap64 ((wrap64 (t568 + t569)) - 1)) t569))
                                  · rw [if_pos c60] at H
                                    have c60b0 : decide ((t573.length : Int) < (wrap64 (Int.tdiv (wrap64 ((wrap64 (t568 + t569)) - 1)) t569))) = true := decide_eq_true c60
                                    clear c60
                                    obtain rfl := Option.some.inj H
                                    have hcz61_0 : wr.cell? ⟨gb572, 0, none⟩ = some (.int .i64 t568) := (blk_cell BK572.out 0).trans rfl
                                    have hcz61_1 : wr.cell? ⟨gb572, 1, none⟩ = some (.int .i64 t569) := (blk_cell BK572.out 1).trans rfl
                                    have hfz61_0 := blk_frozen BK572.out 0
                                    have hfz61_1 := blk_frozen BK572.out 1
                                    obtain ⟨Ao62, co62, eo62⟩ := Kd.R_slice HO_15.out
                                    subst eo62
                                    go_wp2_with (first | ((with_reducible refine gate_callee (f := 37) rfl ?_); refine goesL_ (some 148) rfl rfl Tryd.func37 (by kernel_rfl) rfl #[.string t558, .slice Ao62 x15_2.length co62] rfl (by (try simp only [List.map_toArray, List.map_cons, List.map_nil]); first | done | rfl | (simp only [List.length_drop, List.length_take]; rfl)) ?_; (with_reducible refine (parse_Touches.calls k3 t558 _ _ x15_2 t585 true t587 _ ?side1 ?side2 A52.out).mono ?_); (case side1 => repeat (first | exact (Kd.R_reads' HO_15.out).2.2 | (with_reducible refine Kd.C_alloc ?_ _) | (with_reducible refine Kd.C_drewN ?_ _) | (with_reducible refine Kd.C_drew ?_))); (case side2 => exact (Kd.R_reads' HO_15.out).2.1); rintro e w63 ⟨rfl, hb⟩; refine ⟨_, rfl, ?_⟩; have n0_ := Aside0.mk (Kd.R_below (by (with_reducible repeat (first | apply Kd.R_alloc | apply Kd.R_drewN | apply Kd.R_drew)); exact HO_13.out) hb); have n1_ := Aside0.mk (Kd.R_below (by (with_reducible repeat (first | apply Kd.R_alloc | apply Kd.R_drewN | apply Kd.R_drew)); exact HO_15.out) hb); have n2_ := Aside0.mk (Kd.R_below (by (with_reducible repeat (first | apply Kd.R_alloc | apply Kd.R_drewN | apply Kd.R_drew)); exact HO_16.out) hb); have n3_ := Aside0.mk (blk_below (g := gb572) (o := .cells #[.int .i64 t568, .int .i64 t569] 59 (0, 0)) (by (with_reducible repeat (first | refine blk_drewN ?_ _ | refine blk_drew ?_ | refine blk_alloc ?_ _)); exact BK572.out) hb); have n4_ := Aside0.mk (below_step (by repeat (first | (with_reducible first | exact HB.out | apply below_alloc | apply pw_below_drewN | apply below_drew1 | refine below_set ?_ GE572.out) | exact HB.out)) hb); clear HO_13; clear HO_15; clear HO_16; clear BK572; clear HB; have HO_13 := n0_; have HO_15 := n1_; have HO_16 := n2_; have BK572 := n3_; have HB := n4_; clear n0_ n1_ n2_ n3_ n4_; (try clear hb); (try clear hb2); (try clear hk); (try clear hi); obtain ⟨Ao64, co64, eo64⟩ := Kd.R_slice HO_13.out; subst eo64) | ((with_reducible refine gate_callee (f := 37) rfl ?_); refine goesL_ (some 155) rfl rfl Tryd.func37 (by kernel_rfl) rfl #[.string t558, .slice Ao64 t573.length co64] rfl (by (try simp only [List.map_toArray, List.map_cons, List.map_nil]); first | done | rfl | (simp only [List.length_drop, List.length_take]; rfl)) ?_; (with_reducible refine (parse_Touches.calls k3 t558 _ _ t573 t588 true t590 _ ?side1 ?side2 A53.out).mono ?_); (case side1 => repeat (first | exact (Kd.R_reads' HO_13.out).2.2 | (with_reducible refine Kd.C_alloc ?_ _) | (with_reducible refine Kd.C_drewN ?_ _) | (with_reducible refine Kd.C_drew ?_))); (case side2 => exact (Kd.R_reads' HO_13.out).2.1); rintro e w65 ⟨rfl, hb⟩; refine ⟨_, rfl, ?_⟩; have n0_ := Aside0.mk (Kd.R_below (by (with_reducible repeat (first | apply Kd.R_alloc | apply Kd.R_drewN | apply Kd.R_drew)); exact HO_13.out) hb); have n1_ := Aside0.mk (Kd.R_below (by (with_reducible repeat (first | apply Kd.R_alloc | apply Kd.R_drewN | apply Kd.R_drew)); exact HO_15.out) hb); have n2_ := Aside0.mk (Kd.R_below (by (with_reducible repeat (first | apply Kd.R_alloc | apply Kd.R_drewN | apply Kd.R_drew)); exact HO_16.out) hb); have n3_ := Aside0.mk (blk_below (g := gb572) (o := .cells #[.int .i64 t568, .int .i64 t569] 59 (0, 0)) (by (with_reducible repeat (first | refine blk_drewN ?_ _ | refine blk_drew ?_ | refine blk_alloc ?_ _)); exact BK572.out) hb); have n4_ := Aside0.mk (below_step (by repeat (first | (with_reducible first | exact HB.out | apply below_alloc | apply pw_below_drewN | apply below_drew1 | refine below_set ?_ GE572.out) | exact HB.out)) hb); clear HO_13; clear HO_15; clear HO_16; clear BK572; clear HB; have HO_13 := n0_; have HO_15 := n1_; have HO_16 := n2_; have BK572 := n3_; have HB := n4_; clear n0_ n1_ n2_ n3_ n4_; (try clear hb); (try clear hb2); (try clear hk); (try clear hi); obtain ⟨Ao66, co66, eo66⟩ := Kd.R_slice HO_16.out; subst eo66) | ((with_reducible refine gate_callee (f := 37) rfl ?_); refine goesL_ (some 162) rfl rfl Tryd.func37 (by kernel_rfl) rfl #[.string t558, .slice Ao66 x16_3.length co66] rfl (by (try simp only [List.map_toArray, List.map_cons, List.map_nil]); first | done | rfl | (simp only [List.length_drop, List.length_take]; rfl)) ?_; (with_reducible refine (parse_Touches.calls k3 t558 _ _ x16_3 t591 t592 t593 _ ?side1 ?side2 A54.out).mono ?_); (case side1 => repeat (first | exact (Kd.R_reads' HO_16.out).2.2 | (with_reducible refine Kd.C_alloc ?_ _) | (with_reducible refine Kd.C_drewN ?_ _) | (with_reducible refine Kd.C_drew ?_))); (case side2 => exact (Kd.R_reads' HO_16.out).2.1); rintro e w67 ⟨rfl, hb⟩; refine ⟨_, rfl, ?_⟩; have n0_ := Aside0.mk (Kd.R_below (by (with_reducible repeat (first | apply Kd.R_alloc | apply Kd.R_drewN | apply Kd.R_drew)); exact HO_13.out) hb); have n1_ := Aside0.mk (Kd.R_below (by (with_reducible repeat (first | apply Kd.R_alloc | apply Kd.R_drewN | apply Kd.R_drew)); exact HO_15.out) hb); have n2_ := Aside0.mk (Kd.R_below (by (with_reducible repeat (first | apply Kd.R_alloc | apply Kd.R_drewN | apply Kd.R_drew)); exact HO_16.out) hb); have n3_ := Aside0.mk (blk_below (g := gb572) (o := .cells #[.int .i64 t568, .int .i64 t569] 59 (0, 0)) (by (with_reducible repeat (first | refine blk_drewN ?_ _ | refine blk_drew ?_ | refine blk_alloc ?_ _)); exact BK572.out) hb); have n4_ := Aside0.mk (below_step (by repeat (first | (with_reducible first | exact HB.out | apply below_alloc | apply pw_below_drewN | apply below_drew1 | refine below_set ?_ GE572.out) | exact HB.out)) hb); clear HO_13; clear HO_15; clear HO_16; clear BK572; clear HB; have HO_13 := n0_; have HO_15 := n1_; have HO_16 := n2_; have BK572 := n3_; have HB := n4_; clear n0_ n1_ n2_ n3_ n4_; (try clear hb); (try clear hb2); (try clear hk); (try clear hi)))
                                    go_ret
                                    exact ⟨by first | rfl | (simp [errW_none, errW_some] <;> rfl) | (simp [*, errW_none, errW_some] <;> rfl), by repeat (first | (with_reducible first | exact HB.out | apply below_alloc | apply pw_below_drewN | apply below_drew1 | refine below_set ?_ GE572.out) | exact HB.out)⟩
                                  · rw [if_neg c60] at H
                                    have c60b0 : decide ((t573.length : Int) < (wrap64 (Int.tdiv (wrap64 ((wrap64 (t568 + t569)) - 1)) t569))) = false := decide_eq_false c60
                                    clear c60
                                    by_cases c68 : (x15_2.length : Int) < (t573.length : Int)
                                    · rw [if_pos c68] at H
                                      have c68b0 : decide ((x15_2.length : Int) < (t573.length : Int)) = true := decide_eq_true c68
                                      have c68b1 : decide (x15_2.length < t573.length) = true := decide_eq_true (Int.ofNat_lt.mp c68)
                                      clear c68
                                      obtain rfl := Option.some.inj H
                                      have hcz69_0 : wr.cell? ⟨gb572, 0, none⟩ = some (.int .i64 t568) := (blk_cell BK572.out 0).trans rfl
                                      have hcz69_1 : wr.cell? ⟨gb572, 1, none⟩ = some (.int .i64 t569) := (blk_cell BK572.out 1).trans rfl
                                      have hfz69_0 := blk_frozen BK572.out 0
                                      have hfz69_1 := blk_frozen BK572.out 1
                                      obtain ⟨Ao70, co70, eo70⟩ := Kd.R_slice HO_15.out
                                      subst eo70
                                      go_wp2_with (first | ((with_reducible refine gate_callee (f := 37) rfl ?_); refine goesL_ (some 148) rfl rfl Tryd.func37 (by kernel_rfl) rfl #[.string t558, .slice Ao70 x15_2.length co70] rfl (by (try simp only [List.map_toArray, List.map_cons, List.map_nil]); first | done | rfl | (simp only [List.length_drop, List.length_take]; rfl)) ?_; (with_reducible refine (parse_Touches.calls k3 t558 _ _ x15_2 t585 true t587 _ ?side1 ?side2 A52.out).mono ?_); (case side1 => repeat (first | exact (Kd.R_reads' HO_15.out).2.2 | (with_reducible refine Kd.C_alloc ?_ _) | (with_reducible refine Kd.C_drewN ?_ _) | (with_reducible refine Kd.C_drew ?_))); (case side2 => exact (Kd.R_reads' HO_15.out).2.1); rintro e w71 ⟨rfl, hb⟩; refine ⟨_, rfl, ?_⟩; have n0_ := Aside0.mk (Kd.R_below (by (with_reducible repeat (first | apply Kd.R_alloc | apply Kd.R_drewN | apply Kd.R_drew)); exact HO_13.out) hb); have n1_ := Aside0.mk (Kd.R_below (by (with_reducible repeat (first | apply Kd.R_alloc | apply Kd.R_drewN | apply Kd.R_drew)); exact HO_15.out) hb); have n2_ := Aside0.mk (Kd.R_below (by (with_reducible repeat (first | apply Kd.R_alloc | apply Kd.R_drewN | apply Kd.R_drew)); exact HO_16.out) hb); have n3_ := Aside0.mk (blk_below (g := gb572) (o := .cells #[.int .i64 t568, .int .i64 t569] 59 (0, 0)) (by (with_reducible repeat (first | refine blk_drewN ?_ _ | refine blk_drew ?_ | refine blk_alloc ?_ _)); exact BK572.out) hb); have n4_ := Aside0.mk (below_step (by repeat (first | (with_reducible first | exact HB.out | apply below_alloc | apply pw_below_drewN | apply below_drew1 | refine below_set ?_ GE572.out) | exact HB.out)) hb); clear HO_13; clear HO_15; clear HO_16; clear BK572; clear HB; have HO_13 := n0_; have HO_15 := n1_; have HO_16 := n2_; have BK572 := n3_; have HB := n4_; clear n0_ n1_ n2_ n3_ n4_; (try clear hb); (try clear hb2); (try clear hk); (try clear hi); obtain ⟨Ao72, co72, eo72⟩ := Kd.R_slice HO_13.out; subst eo72) | ((with_reducible refine gate_callee (f := 37) rfl ?_); refine goesL_ (some 155) rfl rfl Tryd.func37 (by kernel_rfl) rfl #[.string t558, .slice Ao72 t573.length co72] rfl (by (try simp only [List.map_toArray, List.map_cons, List.map_nil]); first | done | rfl | (simp only [List.length_drop, List.length_take]; rfl)) ?_; (with_reducible refine (parse_Touches.calls k3 t558 _ _ t573 t588 true t590 _ ?side1 ?side2 A53.out).mono ?_); (case side1 => repeat (first | exact (Kd.R_reads' HO_13.out).2.2 | (with_reducible refine Kd.C_alloc ?_ _) | (with_reducible refine Kd.C_drewN ?_ _) | (with_reducible refine Kd.C_drew ?_))); (case side2 => exact (Kd.R_reads' HO_13.out).2.1); rintro e w73 ⟨rfl, hb⟩; refine ⟨_, rfl, ?_⟩; have n0_ := Aside0.mk (Kd.R_below (by (with_reducible repeat (first | apply Kd.R_alloc | apply Kd.R_drewN | apply Kd.R_drew)); exact HO_13.out) hb); have n1_ := Aside0.mk (Kd.R_below (by (with_reducible repeat (first | apply Kd.R_alloc | apply Kd.R_drewN | apply Kd.R_drew)); exact HO_15.out) hb); have n2_ := Aside0.mk (Kd.R_below (by (with_reducible repeat (first | apply Kd.R_alloc | apply Kd.R_drewN | apply Kd.R_drew)); exact HO_16.out) hb); have n3_ := Aside0.mk (blk_below (g := gb572) (o := .cells #[.int .i64 t568, .int .i64 t569] 59 (0, 0)) (by (with_reducible repeat (first | refine blk_drewN ?_ _ | refine blk_drew ?_ | refine blk_alloc ?_ _)); exact BK572.out) hb); have n4_ := Aside0.mk (below_step (by repeat (first | (with_reducible first | exact HB.out | apply below_alloc | apply pw_below_drewN | apply below_drew1 | refine below_set ?_ GE572.out) | exact HB.out)) hb); clear HO_13; clear HO_15; clear HO_16; clear BK572; clear HB; have HO_13 := n0_; have HO_15 := n1_; have HO_16 := n2_; have BK572 := n3_; have HB := n4_; clear n0_ n1_ n2_ n3_ n4_; (try clear hb); (try clear hb2); (try clear hk); (try clear hi); obtain ⟨Ao74, co74, eo74⟩ := Kd.R_slice HO_16.out; subst eo74) | ((with_reducible refine gate_callee (f := 37) rfl ?_); refine goesL_ (some 162) rfl rfl Tryd.func37 (by kernel_rfl) rfl #[.string t558, .slice Ao74 x16_3.length co74] rfl (by (try simp only [List.map_toArray, List.map_cons, List.map_nil]); first | done | rfl | (simp only [List.length_drop, List.length_take]; rfl)) ?_; (with_reducible refine (parse_Touches.calls k3 t558 _ _ x16_3 t591 t592 t593 _ ?side1 ?side2 A54.out).mono ?_); (case side1 => repeat (first | exact (Kd.R_reads' HO_16.out).2.2 | (with_reducible refine Kd.C_alloc ?_ _) | (with_reducible refine Kd.C_drewN ?_ _) | (with_reducible refine Kd.C_drew ?_))); (case side2 => exact (Kd.R_reads' HO_16.out).2.1); rintro e w75 ⟨rfl, hb⟩; refine ⟨_, rfl, ?_⟩; have n0_ := Aside0.mk (Kd.R_below (by (with_reducible repeat (first | apply Kd.R_alloc | apply Kd.R_drewN | apply Kd.R_drew)); exact HO_13.out) hb); have n1_ := Aside0.mk (Kd.R_below (by (with_reducible repeat (first | apply Kd.R_alloc | apply Kd.R_drewN | apply Kd.R_drew)); exact HO_15.out) hb); have n2_ := Aside0.mk (Kd.R_below (by (with_reducible repeat (first | apply Kd.R_alloc | apply Kd.R_drewN | apply Kd.R_drew)); exact HO_16.out) hb); have n3_ := Aside0.mk (blk_below (g := gb572) (o := .cells #[.int .i64 t568, .int .i64 t569] 59 (0, 0)) (by (with_reducible repeat (first | refine blk_drewN ?_ _ | refine blk_drew ?_ | refine blk_alloc ?_ _)); exact BK572.out) hb); have n4_ := Aside0.mk (below_step (by repeat (first | (with_reducible first | exact HB.out | apply below_alloc | apply pw_below_drewN | apply below_drew1 | refine below_set ?_ GE572.out) | exact HB.out)) hb); clear HO_13; clear HO_15; clear HO_16; clear BK572; clear HB; have HO_13 := n0_; have HO_15 := n1_; have HO_16 := n2_; have BK572 := n3_; have HB := n4_; clear n0_ n1_ n2_ n3_ n4_; (try clear hb); (try clear hb2); (try clear hk); (try clear hi)))
                                      go_ret
                                      exact ⟨by first | rfl | (simp [errW_none, errW_some] <;> rfl) | (simp [*, errW_none, errW_some] <;> rfl), by repeat (first | (with_reducible first | exact HB.out | apply below_alloc | apply pw_below_drewN | apply below_drew1 | refine below_set ?_ GE572.out) | exact HB.out)⟩
                                    · rw [if_neg c68] at H
                                      have c68b0 : decide ((x15_2.length : Int) < (t573.length : Int)) = false := decide_eq_false c68
                                      have c68b1 : decide (x15_2.length < t573.length) = false := decide_eq_false (fun h => c68 (Int.ofNat_lt.mpr h))
                                      clear c68
                                      by_cases c76 : t592 = true
                                      · subst c76
                                        have H1 : (if (x16_3.length : Int) ≥ (t573.length : Int) then ((numnahlaw09_awake.f k3).bind fun t594 => (some t594)) else (some false)) = some r := by rw [if_pos rfl] at H; exact H
                                        clear H
                                        have H := H1
                                        clear H1
                                        by_cases c77 : (x16_3.length : Int) ≥ (t573.length : Int)
                                        · rw [if_pos c77] at H
                                          have c77b0 : decide ((t573.length : Int) ≤ (x16_3.length : Int)) = true := decide_eq_true c77
                                          have c77b1 : decide (t573.length ≤ x16_3.length) = true := decide_eq_true (Int.ofNat_le.mp c77)
                                          clear c77
                                          replace H := Option.bind_eq_some_iff.mp H
                                          obtain ⟨t594, A780, H⟩ := H
                                          replace H : (some t594) = some r := H
                                          have A78 := Aside0.mk A780
                                          clear A780
                                          obtain rfl := Option.some.inj H
                                          have hcz79_0 : wr.cell? ⟨gb572, 0, none⟩ = some (.int .i64 t568) := (blk_cell BK572.out 0).trans rfl
                                          have hcz79_1 : wr.cell? ⟨gb572, 1, none⟩ = some (.int .i64 t569) := (blk_cell BK572.out 1).trans rfl
                                          have hfz79_0 := blk_frozen BK572.out 0
                                          have hfz79_1 := blk_frozen BK572.out 1
                                          obtain ⟨Ao80, co80, eo80⟩ := Kd.R_slice HO_15.out
                                          subst eo80
                                          go_wp2_with (first | ((with_reducible refine gate_callee (f := 37) rfl ?_); refine goesL_ (some 148) rfl rfl Tryd.func37 (by kernel_rfl) rfl #[.string t558, .slice Ao80 x15_2.length co80] rfl (by (try simp only [List.map_toArray, List.map_cons, List.map_nil]); first | done | rfl | (simp only [List.length_drop, List.length_take]; rfl)) ?_; (with_reducible refine (parse_Touches.calls k3 t558 _ _ x15_2 t585 true t587 _ ?side1 ?side2 A52.out).mono ?_); (case side1 => repeat (first | exact (Kd.R_reads' HO_15.out).2.2 | (with_reducible refine Kd.C_alloc ?_ _) | (with_reducible refine Kd.C_drewN ?_ _) | (with_reducible refine Kd.C_drew ?_))); (case side2 => exact (Kd.R_reads' HO_15.out).2.1); rintro e w81 ⟨rfl, hb⟩; refine ⟨_, rfl, ?_⟩; have n0_ := Aside0.mk (Kd.R_below (by (with_reducible repeat (first | apply Kd.R_alloc | apply Kd.R_drewN | apply Kd.R_drew)); exact HO_13.out) hb); have n1_ := Aside0.mk (Kd.R_below (by (with_reducible repeat (first | apply Kd.R_alloc | apply Kd.R_drewN | apply Kd.R_drew)); exact HO_15.out) hb); have n2_ := Aside0.mk (Kd.R_below (by (with_reducible repeat (first | apply Kd.R_alloc | apply Kd.R_drewN | apply Kd.R_drew)); exact HO_16.out) hb); have n3_ := Aside0.mk (blk_below (g := gb572) (o := .cells #[.int .i64 t568, .int .i64 t569] 59 (0, 0)) (by (with_reducible repeat (first | refine blk_drewN ?_ _ | refine blk_drew ?_ | refine blk_alloc ?_ _)); exact BK572.out) hb); have n4_ := Aside0.mk (below_step (by repeat (first | (with_reducible first | exact HB.out | apply below_alloc | apply pw_below_drewN | apply below_drew1 | refine below_set ?_ GE572.out) | exact HB.out)) hb); clear HO_13; clear HO_15; clear HO_16; clear BK572; clear HB; have HO_13 := n0_; have HO_15 := n1_; have HO_16 := n2_; have BK572 := n3_; have HB := n4_; clear n0_ n1_ n2_ n3_ n4_; (try clear hb); (try clear hb2); (try clear hk); (try clear hi); obtain ⟨Ao82, co82, eo82⟩ := Kd.R_slice HO_13.out; subst eo82) | ((with_reducible refine gate_callee (f := 37) rfl ?_); refine goesL_ (some 155) rfl rfl Tryd.func37 (by kernel_rfl) rfl #[.string t558, .slice Ao82 t573.length co82] rfl (by (try simp only [List.map_toArray, List.map_cons, List.map_nil]); first | done | rfl | (simp only [List.length_drop, List.length_take]; rfl)) ?_; (with_reducible refine (parse_Touches.calls k3 t558 _ _ t573 t588 true t590 _ ?side1 ?side2 A53.out).mono ?_); (case side1 => repeat (first | exact (Kd.R_reads' HO_13.out).2.2 | (with_reducible refine Kd.C_alloc ?_ _) | (with_reducible refine Kd.C_drewN ?_ _) | (with_reducible refine Kd.C_drew ?_))); (case side2 => exact (Kd.R_reads' HO_13.out).2.1); rintro e w83 ⟨rfl, hb⟩; refine ⟨_, rfl, ?_⟩; have n0_ := Aside0.mk (Kd.R_below (by (with_reducible repeat (first | apply Kd.R_alloc | apply Kd.R_drewN | apply Kd.R_drew)); exact HO_13.out) hb); have n1_ := Aside0.mk (Kd.R_below (by (with_reducible repeat (first | apply Kd.R_alloc | apply Kd.R_drewN | apply Kd.R_drew)); exact HO_15.out) hb); have n2_ := Aside0.mk (Kd.R_below (by (with_reducible repeat (first | apply Kd.R_alloc | apply Kd.R_drewN | apply Kd.R_drew)); exact HO_16.out) hb); have n3_ := Aside0.mk (blk_below (g := gb572) (o := .cells #[.int .i64 t568, .int .i64 t569] 59 (0, 0)) (by (with_reducible repeat (first | refine blk_drewN ?_ _ | refine blk_drew ?_ | refine blk_alloc ?_ _)); exact BK572.out) hb); have n4_ := Aside0.mk (below_step (by repeat (first | (with_reducible first | exact HB.out | apply below_alloc | apply pw_below_drewN | apply below_drew1 | refine below_set ?_ GE572.out) | exact HB.out)) hb); clear HO_13; clear HO_15; clear HO_16; clear BK572; clear HB; have HO_13 := n0_; have HO_15 := n1_; have HO_16 := n2_; have BK572 := n3_; have HB := n4_; clear n0_ n1_ n2_ n3_ n4_; (try clear hb); (try clear hb2); (try clear hk); (try clear hi); obtain ⟨Ao84, co84, eo84⟩ := Kd.R_slice HO_16.out; subst eo84) | ((with_reducible refine gate_callee (f := 37) rfl ?_); refine goesL_ (some 162) rfl rfl Tryd.func37 (by kernel_rfl) rfl #[.string t558, .slice Ao84 x16_3.length co84] rfl (by (try simp only [List.map_toArray, List.map_cons, List.map_nil]); first | done | rfl | (simp only [List.length_drop, List.length_take]; rfl)) ?_; (with_reducible refine (parse_Touches.calls k3 t558 _ _ x16_3 t591 true t593 _ ?side1 ?side2 A54.out).mono ?_); (case side1 => repeat (first | exact (Kd.R_reads' HO_16.out).2.2 | (with_reducible refine Kd.C_alloc ?_ _) | (with_reducible refine Kd.C_drewN ?_ _) | (with_reducible refine Kd.C_drew ?_))); (case side2 => exact (Kd.R_reads' HO_16.out).2.1); rintro e w85 ⟨rfl, hb⟩; refine ⟨_, rfl, ?_⟩; have n0_ := Aside0.mk (Kd.R_below (by (with_reducible repeat (first | apply Kd.R_alloc | apply Kd.R_drewN | apply Kd.R_drew)); exact HO_13.out) hb); have n1_ := Aside0.mk (Kd.R_below (by (with_reducible repeat (first | apply Kd.R_alloc | apply Kd.R_drewN | apply Kd.R_drew)); exact HO_15.out) hb); have n2_ := Aside0.mk (Kd.R_below (by (with_reducible repeat (first | apply Kd.R_alloc | apply Kd.R_drewN | apply Kd.R_drew)); exact HO_16.out) hb); have n3_ := Aside0.mk (blk_below (g := gb572) (o := .cells #[.int .i64 t568, .int .i64 t569] 59 (0, 0)) (by (with_reducible repeat (first | refine blk_drewN ?_ _ | refine blk_drew ?_ | refine blk_alloc ?_ _)); exact BK572.out) hb); have n4_ := Aside0.mk (below_step (by repeat (first | (with_reducible first | exact HB.out | apply below_alloc | apply pw_below_drewN | apply below_drew1 | refine below_set ?_ GE572.out) | exact HB.out)) hb); clear HO_13; clear HO_15; clear HO_16; clear BK572; clear HB; have HO_13 := n0_; have HO_15 := n1_; have HO_16 := n2_; have BK572 := n3_; have HB := n4_; clear n0_ n1_ n2_ n3_ n4_; (try clear hb); (try clear hb2); (try clear hk); (try clear hi)) | (go_at_call 25; (with_reducible refine (numnahlaw09_awake.calls (hG := ?hg) k3  t594 _ A78.out).mono ?_); (case hg => exact gw_now hG (by repeat (first | (with_reducible first | exact HB.out | apply below_alloc | apply pw_below_drewN | apply below_drew1) | exact HB.out))); rintro e w86 ⟨rfl, hb⟩; have n0_ := Aside0.mk (Kd.R_below (by (with_reducible repeat (first | apply Kd.R_alloc | apply Kd.R_drewN | apply Kd.R_drew)); exact HO_13.out) hb); have n1_ := Aside0.mk (Kd.R_below (by (with_reducible repeat (first | apply Kd.R_alloc | apply Kd.R_drewN | apply Kd.R_drew)); exact HO_15.out) hb); have n2_ := Aside0.mk (Kd.R_below (by (with_reducible repeat (first | apply Kd.R_alloc | apply Kd.R_drewN | apply Kd.R_drew)); exact HO_16.out) hb); have n3_ := Aside0.mk (blk_below (g := gb572) (o := .cells #[.int .i64 t568, .int .i64 t569] 59 (0, 0)) (by (with_reducible repeat (first | refine blk_drewN ?_ _ | refine blk_drew ?_ | refine blk_alloc ?_ _)); exact BK572.out) hb); have n4_ := Aside0.mk (below_step (by repeat (first | (with_reducible first | exact HB.out | apply below_alloc | apply pw_below_drewN | apply below_drew1 | refine below_set ?_ GE572.out) | exact HB.out)) hb); clear HO_13; clear HO_15; clear HO_16; clear BK572; clear HB; have HO_13 := n0_; have HO_15 := n1_; have HO_16 := n2_; have BK572 := n3_; have HB := n4_; clear n0_ n1_ n2_ n3_ n4_; (try clear hb); (try clear hb2); (try clear hk); (try clear hi)))
                                          go_ret
                                          exact ⟨by first | rfl | (simp [errW_none, errW_some] <;> rfl) | (simp [*, errW_none, errW_some] <;> rfl), by repeat (first | (with_reducible first | exact HB.out | apply below_alloc | apply pw_below_drewN | apply below_drew1 | refine below_set ?_ GE572.out) | exact HB.out)⟩
                                        · rw [if_neg c77] at H
                                          have c77b0 : decide ((t573.length : Int) ≤ (x16_3.length : Int)) = false := decide_eq_false c77
                                          have c77b1 : decide (t573.length ≤ x16_3.length) = false := decide_eq_false (fun h => c77 (Int.ofNat_le.mpr h))
                                          clear c77
                                          obtain rfl := Option.some.inj H
                                          have hcz87_0 : wr.cell? ⟨gb572, 0, none⟩ = some (.int .i64 t568) := (blk_cell BK572.out 0).trans rfl
                                          have hcz87_1 : wr.cell? ⟨gb572, 1, none⟩ = some (.int .i64 t569) := (blk_cell BK572.out 1).trans rfl
                                          have hfz87_0 := blk_frozen BK572.out 0
                                          have hfz87_1 := blk_frozen BK572.out 1
                                          obtain ⟨Ao88, co88, eo88⟩ := Kd.R_slice HO_15.out
                                          subst eo88
                                          go_wp2_with (first | ((with_reducible refine gate_callee (f := 37) rfl ?_); refine goesL_ (some 148) rfl rfl Tryd.func37 (by kernel_rfl) rfl #[.string t558, .slice Ao88 x15_2.length co88] rfl (by (try simp only [List.map_toArray, List.map_cons, List.map_nil]); first | done | rfl | (simp only [List.length_drop, List.length_take]; rfl)) ?_; (with_reducible refine (parse_Touches.calls k3 t558 _ _ x15_2 t585 true t587 _ ?side1 ?side2 A52.out).mono ?_); (case side1 => repeat (first | exact (Kd.R_reads' HO_15.out).2.2 | (with_reducible refine Kd.C_alloc ?_ _) | (with_reducible refine Kd.C_drewN ?_ _) | (with_reducible refine Kd.C_drew ?_))); (case side2 => exact (Kd.R_reads' HO_15.out).2.1); rintro e w89 ⟨rfl, hb⟩; refine ⟨_, rfl, ?_⟩; have n0_ := Aside0.mk (Kd.R_below (by (with_reducible repeat (first | apply Kd.R_alloc | apply Kd.R_drewN | apply Kd.R_drew)); exact HO_13.out) hb); have n1_ := Aside0.mk (Kd.R_below (by (with_reducible repeat (first | apply Kd.R_alloc | apply Kd.R_drewN | apply Kd.R_drew)); exact HO_15.out) hb); have n2_ := Aside0.mk (Kd.R_below (by (with_reducible repeat (first | apply Kd.R_alloc | apply Kd.R_drewN | apply Kd.R_drew)); exact HO_16.out) hb); have n3_ := Aside0.mk (blk_below (g := gb572) (o := .cells #[.int .i64 t568, .int .i64 t569] 59 (0, 0)) (by (with_reducible repeat (first | refine blk_drewN ?_ _ | refine blk_drew ?_ | refine blk_alloc ?_ _)); exact BK572.out) hb); have n4_ := Aside0.mk (below_step (by repeat (first | (with_reducible first | exact HB.out | apply below_alloc | apply pw_below_drewN | apply below_drew1 | refine below_set ?_ GE572.out) | exact HB.out)) hb); clear HO_13; clear HO_15; clear HO_16; clear BK572; clear HB; have HO_13 := n0_; have HO_15 := n1_; have HO_16 := n2_; have BK572 := n3_; have HB := n4_; clear n0_ n1_ n2_ n3_ n4_; (try clear hb); (try clear hb2); (try clear hk); (try clear hi); obtain ⟨Ao90, co90, eo90⟩ := Kd.R_slice HO_13.out; subst eo90) | ((with_reducible refine gate_callee (f := 37) rfl ?_); refine goesL_ (some 155) rfl rfl Tryd.func37 (by kernel_rfl) rfl #[.string t558, .slice Ao90 t573.length co90] rfl (by (try simp only [List.map_toArray, List.map_cons, List.map_nil]); first | done | rfl | (simp only [List.length_drop, List.length_take]; rfl)) ?_; (with_reducible refine (parse_Touches.calls k3 t558 _ _ t573 t588 true t590 _ ?side1 ?side2 A53.out).mono ?_); (case side1 => repeat (first | exact (Kd.R_reads' HO_13.out).2.2 | (with_reducible refine Kd.C_alloc ?_ _) | (with_reducible refine Kd.C_drewN ?_ _) | (with_reducible refine Kd.C_drew ?_))); (case side2 => exact (Kd.R_reads' HO_13.out).2.1); rintro e w91 ⟨rfl, hb⟩; refine ⟨_, rfl, ?_⟩; have n0_ := Aside0.mk (Kd.R_below (by (with_reducible repeat (first | apply Kd.R_alloc | apply Kd.R_drewN | apply Kd.R_drew)); exact HO_13.out) hb); have n1_ := Aside0.mk (Kd.R_below (by (with_reducible repeat (first | apply Kd.R_alloc | apply Kd.R_drewN | apply Kd.R_drew)); exact HO_15.out) hb); have n2_ := Aside0.mk (Kd.R_below (by (with_reducible repeat (first | apply Kd.R_alloc | apply Kd.R_drewN | apply Kd.R_drew)); exact HO_16.out) hb); have n3_ := Aside0.mk (blk_below (g := gb572) (o := .cells #[.int .i64 t568, .int .i64 t569] 59 (0, 0)) (by (with_reducible repeat (first | refine blk_drewN ?_ _ | refine blk_drew ?_ | refine blk_alloc ?_ _)); exact BK572.out) hb); have n4_ := Aside0.mk (below_step (by repeat (first | (with_reducible first | exact HB.out | apply below_alloc | apply pw_below_drewN | apply below_drew1 | refine below_set ?_ GE572.out) | exact HB.out)) hb); clear HO_13; clear HO_15; clear HO_16; clear BK572; clear HB; have HO_13 := n0_; have HO_15 := n1_; have HO_16 := n2_; have BK572 := n3_; have HB := n4_; clear n0_ n1_ n2_ n3_ n4_; (try clear hb); (try clear hb2); (try clear hk); (try clear hi); obtain ⟨Ao92, co92, eo92⟩ := Kd.R_slice HO_16.out; subst eo92) | ((with_reducible refine gate_callee (f := 37) rfl ?_); refine goesL_ (some 162) rfl rfl Tryd.func37 (by kernel_rfl) rfl #[.string t558, .slice Ao92 x16_3.length co92] rfl (by (try simp only [List.map_toArray, List.map_cons, List.map_nil]); first | done | rfl | (simp only [List.length_drop, List.length_take]; rfl)) ?_; (with_reducible refine (parse_Touches.calls k3 t558 _ _ x16_3 t591 true t593 _ ?side1 ?side2 A54.out).mono ?_); (case side1 => repeat (first | exact (Kd.R_reads' HO_16.out).2.2 | (with_reducible refine Kd.C_alloc ?_ _) | (with_reducible refine Kd.C_drewN ?_ _) | (with_reducible refine Kd.C_drew ?_))); (case side2 => exact (Kd.R_reads' HO_16.out).2.1); rintro e w93 ⟨rfl, hb⟩; refine ⟨_, rfl, ?_⟩; have n0_ := Aside0.mk (Kd.R_below (by (with_reducible repeat (first | apply Kd.R_alloc | apply Kd.R_drewN | apply Kd.R_drew)); exact HO_13.out) hb); have n1_ := Aside0.mk (Kd.R_below (by (with_reducible repeat (first | apply Kd.R_alloc | apply Kd.R_drewN | apply Kd.R_drew)); exact HO_15.out) hb); have n2_ := Aside0.mk (Kd.R_below (by (with_reducible repeat (first | apply Kd.R_alloc | apply Kd.R_drewN | apply Kd.R_drew)); exact HO_16.out) hb); have n3_ := Aside0.mk (blk_below (g := gb572) (o := .cells #[.int .i64 t568, .int .i64 t569] 59 (0, 0)) (by (with_reducible repeat (first | refine blk_drewN ?_ _ | refine blk_drew ?_ | refine blk_alloc ?_ _)); exact BK572.out) hb); have n4_ := Aside0.mk (below_step (by repeat (first | (with_reducible first | exact HB.out | apply below_alloc | apply pw_below_drewN | apply below_drew1 | refine below_set ?_ GE572.out) | exact HB.out)) hb); clear HO_13; clear HO_15; clear HO_16; clear BK572; clear HB; have HO_13 := n0_; have HO_15 := n1_; have HO_16 := n2_; have BK572 := n3_; have HB := n4_; clear n0_ n1_ n2_ n3_ n4_; (try clear hb); (try clear hb2); (try clear hk); (try clear hi)))
                                          go_ret
                                          exact ⟨by first | rfl | (simp [errW_none, errW_some] <;> rfl) | (simp [*, errW_none, errW_some] <;> rfl), by repeat (first | (with_reducible first | exact HB.out | apply below_alloc | apply pw_below_drewN | apply below_drew1 | refine below_set ?_ GE572.out) | exact HB.out)⟩
                                      · replace c76 := Bool.eq_false_iff.mpr c76
                                        subst c76
                                        have H1 : ((numnahlaw09_awake.f k3).bind fun t595 => (some t595)) = some r := by rw [if_neg (show ¬ (false = true) by decide)] at H; exact H
                                        clear H
                                        have H := H1
                                        clear H1
                                        replace H := Option.bind_eq_some_iff.mp H
                                        obtain ⟨t595, A940, H⟩ := H
                                        replace H : (some t595) = some r := H
                                        have A94 := Aside0.mk A940
                                        clear A940
                                        obtain rfl := Option.some.inj H
                                        have hcz95_0 : wr.cell? ⟨gb572, 0, none⟩ = some (.int .i64 t568) := (blk_cell BK572.out 0).trans rfl
                                        have hcz95_1 : wr.cell? ⟨gb572, 1, none⟩ = some (.int .i64 t569) := (blk_cell BK572.out 1).trans rfl
                                        have hfz95_0 := blk_frozen BK572.out 0
                                        have hfz95_1 := blk_frozen BK572.out 1
                                        obtain ⟨Ao96, co96, eo96⟩ := Kd.R_slice HO_15.out
                                        subst eo96
                                        go_wp2_with (first | ((with_reducible refine gate_callee (f := 37) rfl ?_); refine goesL_ (some 148) rfl rfl Tryd.func37 (by kernel_rfl) rfl #[.string t558, .slice Ao96 x15_2.length co96] rfl (by (try simp only [List.map_toArray, List.map_cons, List.map_nil]); first | done | rfl | (simp only [List.length_drop, List.length_take]; rfl)) ?_; (with_reducible refine (parse_Touches.calls k3 t558 _ _ x15_2 t585 true t587 _ ?side1 ?side2 A52.out).mono ?_); (case side1 => repeat (first | exact (Kd.R_reads' HO_15.out).2.2 | (with_reducible refine Kd.C_alloc ?_ _) | (with_reducible refine Kd.C_drewN ?_ _) | (with_reducible refine Kd.C_drew ?_))); (case side2 => exact (Kd.R_reads' HO_15.out).2.1); rintro e w97 ⟨rfl, hb⟩; refine ⟨_, rfl, ?_⟩; have n0_ := Aside0.mk (Kd.R_below (by (with_reducible repeat (first | apply Kd.R_alloc | apply Kd.R_drewN | apply Kd.R_drew)); exact HO_13.out) hb); have n1_ := Aside0.mk (Kd.R_below (by (with_reducible repeat (first | apply Kd.R_alloc | apply Kd.R_drewN | apply Kd.R_drew)); exact HO_15.out) hb); have n2_ := Aside0.mk (Kd.R_below (by (with_reducible repeat (first | apply Kd.R_alloc | apply Kd.R_drewN | apply Kd.R_drew)); exact HO_16.out) hb); have n3_ := Aside0.mk (blk_below (g := gb572) (o := .cells #[.int .i64 t568, .int .i64 t569] 59 (0, 0)) (by (with_reducible repeat (first | refine blk_drewN ?_ _ | refine blk_drew ?_ | refine blk_alloc ?_ _)); exact BK572.out) hb); have n4_ := Aside0.mk (below_step (by repeat (first | (with_reducible first | exact HB.out | apply below_alloc | apply pw_below_drewN | apply below_drew1 | refine below_set ?_ GE572.out) | exact HB.out)) hb); clear HO_13; clear HO_15; clear HO_16; clear BK572; clear HB; have HO_13 := n0_; have HO_15 := n1_; have HO_16 := n2_; have BK572 := n3_; have HB := n4_; clear n0_ n1_ n2_ n3_ n4_; (try clear hb); (try clear hb2); (try clear hk); (try clear hi); obtain ⟨Ao98, co98, eo98⟩ := Kd.R_slice HO_13.out; subst eo98) | ((with_reducible refine gate_callee (f := 37) rfl ?_); refine goesL_ (some 155) rfl rfl Tryd.func37 (by kernel_rfl) rfl #[.string t558, .slice Ao98 t573.length co98] rfl (by (try simp only [List.map_toArray, List.map_cons, List.map_nil]); first | done | rfl | (simp only [List.length_drop, List.length_take]; rfl)) ?_; (with_reducible refine (parse_Touches.calls k3 t558 _ _ t573 t588 true t590 _ ?side1 ?side2 A53.out).mono ?_); (case side1 => repeat (first | exact (Kd.R_reads' HO_13.out).2.2 | (with_reducible refine Kd.C_alloc ?_ _) | (with_reducible refine Kd.C_drewN ?_ _) | (with_reducible refine Kd.C_drew ?_))); (case side2 => exact (Kd.R_reads' HO_13.out).2.1); rintro e w99 ⟨rfl, hb⟩; refine ⟨_, rfl, ?_⟩; have n0_ := Aside0.mk (Kd.R_below (by (with_reducible repeat (first | apply Kd.R_alloc | apply Kd.R_drewN | apply Kd.R_drew)); exact HO_13.out) hb); have n1_ := Aside0.mk (Kd.R_below (by (with_reducible repeat (first | apply Kd.R_alloc | apply Kd.R_drewN | apply Kd.R_drew)); exact HO_15.out) hb); have n2_ := Aside0.mk (Kd.R_below (by (with_reducible repeat (first | apply Kd.R_alloc | apply Kd.R_drewN | apply Kd.R_drew)); exact HO_16.out) hb); have n3_ := Aside0.mk (blk_below (g := gb572) (o := .cells #[.int .i64 t568, .int .i64 t569] 59 (0, 0)) (by (with_reducible repeat (first | refine blk_drewN ?_ _ | refine blk_drew ?_ | refine blk_alloc ?_ _)); exact BK572.out) hb); have n4_ := Aside0.mk (below_step (by repeat (first | (with_reducible first | exact HB.out | apply below_alloc | apply pw_below_drewN | apply below_drew1 | refine below_set ?_ GE572.out) | exact HB.out)) hb); clear HO_13; clear HO_15; clear HO_16; clear BK572; clear HB; have HO_13 := n0_; have HO_15 := n1_; have HO_16 := n2_; have BK572 := n3_; have HB := n4_; clear n0_ n1_ n2_ n3_ n4_; (try clear hb); (try clear hb2); (try clear hk); (try clear hi); obtain ⟨Ao100, co100, eo100⟩ := Kd.R_slice HO_16.out; subst eo100) | ((with_reducible refine gate_callee (f := 37) rfl ?_); refine goesL_ (some 162) rfl rfl Tryd.func37 (by kernel_rfl) rfl #[.string t558, .slice Ao100 x16_3.length co100] rfl (by (try simp only [List.map_toArray, List.map_cons, List.map_nil]); first | done | rfl | (simp only [List.length_drop, List.length_take]; rfl)) ?_; (with_reducible refine (parse_Touches.calls k3 t558 _ _ x16_3 t591 false t593 _ ?side1 ?side2 A54.out).mono ?_); (case side1 => repeat (first | exact (Kd.R_reads' HO_16.out).2.2 | (with_reducible refine Kd.C_alloc ?_ _) | (with_reducible refine Kd.C_drewN ?_ _) | (with_reducible refine Kd.C_drew ?_))); (case side2 => exact (Kd.R_reads' HO_16.out).2.1); rintro e w101 ⟨rfl, hb⟩; refine ⟨_, rfl, ?_⟩; have n0_ := Aside0.mk (Kd.R_below (by (with_reducible repeat (first | apply Kd.R_alloc | apply Kd.R_drewN | apply Kd.R_drew)); exact HO_13.out) hb); have n1_ := Aside0.mk (Kd.R_below (by (with_reducible repeat (first | apply Kd.R_alloc | apply Kd.R_drewN | apply Kd.R_drew)); exact HO_15.out) hb); have n2_ := Aside0.mk (Kd.R_below (by (with_reducible repeat (first | apply Kd.R_alloc | apply Kd.R_drewN | apply Kd.R_drew)); exact HO_16.out) hb); have n3_ := Aside0.mk (blk_below (g := gb572) (o := .cells #[.int .i64 t568, .int .i64 t569] 59 (0, 0)) (by (with_reducible repeat (first | refine blk_drewN ?_ _ | refine blk_drew ?_ | refine blk_alloc ?_ _)); exact BK572.out) hb); have n4_ := Aside0.mk (below_step (by repeat (first | (with_reducible first | exact HB.out | apply below_alloc | apply pw_below_drewN | apply below_drew1 | refine below_set ?_ GE572.out) | exact HB.out)) hb); clear HO_13; clear HO_15; clear HO_16; clear BK572; clear HB; have HO_13 := n0_; have HO_15 := n1_; have HO_16 := n2_; have BK572 := n3_; have HB := n4_; clear n0_ n1_ n2_ n3_ n4_; (try clear hb); (try clear hb2); (try clear hk); (try clear hi)) | (go_at_call 25; (with_reducible refine (numnahlaw09_awake.calls (hG := ?hg) k3  t595 _ A94.out).mono ?_); (case hg => exact gw_now hG (by repeat (first | (with_reducible first | exact HB.out | apply below_alloc | apply pw_below_drewN | apply below_drew1) | exact HB.out))); rintro e w102 ⟨rfl, hb⟩; have n0_ := Aside0.mk (Kd.R_below (by (with_reducible repeat (first | apply Kd.R_alloc | apply Kd.R_drewN | apply Kd.R_drew)); exact HO_13.out) hb); have n1_ := Aside0.mk (Kd.R_below (by (with_reducible repeat (first | apply Kd.R_alloc | apply Kd.R_drewN | apply Kd.R_drew)); exact HO_15.out) hb); have n2_ := Aside0.mk (Kd.R_below (by (with_reducible repeat (first | apply Kd.R_alloc | apply Kd.R_drewN | apply Kd.R_drew)); exact HO_16.out) hb); have n3_ := Aside0.mk (blk_below (g := gb572) (o := .cells #[.int .i64 t568, .int .i64 t569] 59 (0, 0)) (by (with_reducible repeat (first | refine blk_drewN ?_ _ | refine blk_drew ?_ | refine blk_alloc ?_ _)); exact BK572.out) hb); have n4_ := Aside0.mk (below_step (by repeat (first | (with_reducible first | exact HB.out | apply below_alloc | apply pw_below_drewN | apply below_drew1 | refine below_set ?_ GE572.out) | exact HB.out)) hb); clear HO_13; clear HO_15; clear HO_16; clear BK572; clear HB; have HO_13 := n0_; have HO_15 := n1_; have HO_16 := n2_; have BK572 := n3_; have HB := n4_; clear n0_ n1_ n2_ n3_ n4_; (try clear hb); (try clear hb2); (try clear hk); (try clear hi)))
                                        go_ret
                                        exact ⟨by first | rfl | (simp [errW_none, errW_some] <;> rfl) | (simp [*, errW_none, errW_some] <;> rfl), by repeat (first | (with_reducible first | exact HB.out | apply below_alloc | apply pw_below_drewN | apply below_drew1 | refine below_set ?_ GE572.out) | exact HB.out)⟩
                                · rw [if_neg c59] at H
                                  have c59b0 : (t593 == 0) = false := beq_eq_false_iff_ne.mpr c59
                                  have c59b1 : (t593 != 0) = true := bne_iff_ne.mpr c59
                                  obtain rfl := Option.some.inj H
                                  have hcz103_0 : wr.cell? ⟨gb572, 0, none⟩ = some (.int .i64 t568) := (blk_cell BK572.out 0).trans rfl
                                  have hcz103_1 : wr.cell? ⟨gb572, 1, none⟩ = some (.int .i64 t569) := (blk_cell BK572.out 1).trans rfl
                                  have hfz103_0 := blk_frozen BK572.out 0
                                  have hfz103_1 := blk_frozen BK572.out 1
                                  obtain ⟨Ao104, co104, eo104⟩ := Kd.R_slice HO_15.out
                                  subst eo104
                                  go_wp2_with (first | ((with_reducible refine gate_callee (f := 37) rfl ?_); refine goesL_ (some 148) rfl rfl Tryd.func37 (by kernel_rfl) rfl #[.string t558, .slice Ao104 x15_2.length co104] rfl (by (try simp only [List.map_toArray, List.map_cons, List.map_nil]); first | done | rfl | (simp only [List.length_drop, List.length_take]; rfl)) ?_; (with_reducible refine (parse_Touches.calls k3 t558 _ _ x15_2 t585 true t587 _ ?side1 ?side2 A52.out).mono ?_); (case side1 => repeat (first | exact (Kd.R_reads' HO_15.out).2.2 | (with_reducible refine Kd.C_alloc ?_ _) | (with_reducible refine Kd.C_drewN ?_ _) | (with_reducible refine Kd.C_drew ?_))); (case side2 => exact (Kd.R_reads' HO_15.out).2.1); rintro e w105 ⟨rfl, hb⟩; refine ⟨_, rfl, ?_⟩; have n0_ := Aside0.mk (Kd.R_below (by (with_reducible repeat (first | apply Kd.R_alloc | apply Kd.R_drewN | apply Kd.R_drew)); exact HO_13.out) hb); have n1_ := Aside0.mk (Kd.R_below (by (with_reducible repeat (first | apply Kd.R_alloc | apply Kd.R_drewN | apply Kd.R_drew)); exact HO_15.out) hb); have n2_ := Aside0.mk (Kd.R_below (by (with_reducible repeat (first | apply Kd.R_alloc | apply Kd.R_drewN | apply Kd.R_drew)); exact HO_16.out) hb); have n3_ := Aside0.mk (blk_below (g := gb572) (o := .cells #[.int .i64 t568, .int .i64 t569] 59 (0, 0)) (by (with_reducible repeat (first | refine blk_drewN ?_ _ | refine blk_drew ?_ | refine blk_alloc ?_ _)); exact BK572.out) hb); have n4_ := Aside0.mk (below_step (by repeat (first | (with_reducible first | exact HB.out | apply below_alloc | apply pw_below_drewN | apply below_drew1 | refine below_set ?_ GE572.out) | exact HB.out)) hb); clear HO_13; clear HO_15; clear HO_16; clear BK572; clear HB; have HO_13 := n0_; have HO_15 := n1_; have HO_16 := n2_; have BK572 := n3_; have HB := n4_; clear n0_ n1_ n2_ n3_ n4_; (try clear hb); (try clear hb2); (try clear hk); (try clear hi); obtain ⟨Ao106, co106, eo106⟩ := Kd.R_slice HO_13.out; subst eo106) | ((with_reducible refine gate_callee (f := 37) rfl ?_); refine goesL_ (some 155) rfl rfl Tryd.func37 (by kernel_rfl) rfl #[.string t558, .slice Ao106 t573.length co106] rfl (by (try simp only [List.map_toArray, List.map_cons, List.map_nil]); first | done | rfl | (simp only [List.length_drop, List.length_take]; rfl)) ?_; (with_reducible refine (parse_Touches.calls k3 t558 _ _ t573 t588 true t590 _ ?side1 ?side2 A53.out).mono ?_); (case side1 => repeat (first | exact (Kd.R_reads' HO_13.out).2.2 | (with_reducible refine Kd.C_alloc ?_ _) | (with_reducible refine Kd.C_drewN ?_ _) | (with_reducible refine Kd.C_drew ?_))); (case side2 => exact (Kd.R_reads' HO_13.out).2.1); rintro e w107 ⟨rfl, hb⟩; refine ⟨_, rfl, ?_⟩; have n0_ := Aside0.mk (Kd.R_below (by (with_reducible repeat (first | apply Kd.R_alloc | apply Kd.R_drewN | apply Kd.R_drew)); exact HO_13.out) hb); have n1_ := Aside0.mk (Kd.R_below (by (with_reducible repeat (first | apply Kd.R_alloc | apply Kd.R_drewN | apply Kd.R_drew)); exact HO_15.out) hb); have n2_ := Aside0.mk (Kd.R_below (by (with_reducible repeat (first | apply Kd.R_alloc | apply Kd.R_drewN | apply Kd.R_drew)); exact HO_16.out) hb); have n3_ := Aside0.mk (blk_below (g := gb572) (o := .cells #[.int .i64 t568, .int .i64 t569] 59 (0, 0)) (by (with_reducible repeat (first | refine blk_drewN ?_ _ | refine blk_drew ?_ | refine blk_alloc ?_ _)); exact BK572.out) hb); have n4_ := Aside0.mk (below_step (by repeat (first | (with_reducible first | exact HB.out | apply below_alloc | apply pw_below_drewN | apply below_drew1 | refine below_set ?_ GE572.out) | exact HB.out)) hb); clear HO_13; clear HO_15; clear HO_16; clear BK572; clear HB; have HO_13 := n0_; have HO_15 := n1_; have HO_16 := n2_; have BK572 := n3_; have HB := n4_; clear n0_ n1_ n2_ n3_ n4_; (try clear hb); (try clear hb2); (try clear hk); (try clear hi); obtain ⟨Ao108, co108, eo108⟩ := Kd.R_slice HO_16.out; subst eo108) | ((with_reducible refine gate_callee (f := 37) rfl ?_); refine goesL_ (some 162) rfl rfl Tryd.func37 (by kernel_rfl) rfl #[.string t558, .slice Ao108 x16_3.length co108] rfl (by (try simp only [List.map_toArray, List.map_cons, List.map_nil]); first | done | rfl | (simp only [List.length_drop, List.length_take]; rfl)) ?_; (with_reducible refine (parse_Touches.calls k3 t558 _ _ x16_3 t591 t592 t593 _ ?side1 ?side2 A54.out).mono ?_); (case side1 => repeat (first | exact (Kd.R_reads' HO_16.out).2.2 | (with_reducible refine Kd.C_alloc ?_ _) | (with_reducible refine Kd.C_drewN ?_ _) | (with_reducible refine Kd.C_drew ?_))); (case side2 => exact (Kd.R_reads' HO_16.out).2.1); rintro e w109 ⟨rfl, hb⟩; refine ⟨_, rfl, ?_⟩; have n0_ := Aside0.mk (Kd.R_below (by (with_reducible repeat (first | apply Kd.R_alloc | apply Kd.R_drewN | apply Kd.R_drew)); exact HO_13.out) hb); have n1_ := Aside0.mk (Kd.R_below (by (with_reducible repeat (first | apply Kd.R_alloc | apply Kd.R_drewN | apply Kd.R_drew)); exact HO_15.out) hb); have n2_ := Aside0.mk (Kd.R_below (by (with_reducible repeat (first | apply Kd.R_alloc | apply Kd.R_drewN | apply Kd.R_drew)); exact HO_16.out) hb); have n3_ := Aside0.mk (blk_below (g := gb572) (o := .cells #[.int .i64 t568, .int .i64 t569] 59 (0, 0)) (by (with_reducible repeat (first | refine blk_drewN ?_ _ | refine blk_drew ?_ | refine blk_alloc ?_ _)); exact BK572.out) hb); have n4_ := Aside0.mk (below_step (by repeat (first | (with_reducible first | exact HB.out | apply below_alloc | apply pw_below_drewN | apply below_drew1 | refine below_set ?_ GE572.out) | exact HB.out)) hb); clear HO_13; clear HO_15; clear HO_16; clear BK572; clear HB; have HO_13 := n0_; have HO_15 := n1_; have HO_16 := n2_; have BK572 := n3_; have HB := n4_; clear n0_ n1_ n2_ n3_ n4_; (try clear hb); (try clear hb2); (try clear hk); (try clear hi)))
                                  go_ret
                                  exact ⟨by first | rfl | (simp [errW_none, errW_some] <;> rfl) | (simp [*, errW_none, errW_some] <;> rfl), by repeat (first | (with_reducible first | exact HB.out | apply below_alloc | apply pw_below_drewN | apply below_drew1 | refine below_set ?_ GE572.out) | exact HB.out)⟩
                              · replace c58 := Bool.eq_false_iff.mpr c58
                                subst c58
                                have H1 : (some false) = some r := by rw [if_neg (show ¬ (false = true) by decide)] at H; exact H
                                clear H
                                have H := H1
                                clear H1
                                obtain rfl := Option.some.inj H
                                have hcz110_0 : wr.cell? ⟨gb572, 0, none⟩ = some (.int .i64 t568) := (blk_cell BK572.out 0).trans rfl
                                have hcz110_1 : wr.cell? ⟨gb572, 1, none⟩ = some (.int .i64 t569) := (blk_cell BK572.out 1).trans rfl
                                have hfz110_0 := blk_frozen BK572.out 0
                                have hfz110_1 := blk_frozen BK572.out 1
                                obtain ⟨Ao111, co111, eo111⟩ := Kd.R_slice HO_15.out
                                subst eo111
                                go_wp2_with (first | ((with_reducible refine gate_callee (f := 37) rfl ?_); refine goesL_ (some 148) rfl rfl Tryd.func37 (by kernel_rfl) rfl #[.string t558, .slice Ao111 x15_2.length co111] rfl (by (try simp only [List.map_toArray, List.map_cons, List.map_nil]); first | done | rfl | (simp only [List.length_drop, List.length_take]; rfl)) ?_; (with_reducible refine (parse_Touches.calls k3 t558 _ _ x15_2 t585 true t587 _ ?side1 ?side2 A52.out).mono ?_); (case side1 => repeat (first | exact (Kd.R_reads' HO_15.out).2.2 | (with_reducible refine Kd.C_alloc ?_ _) | (with_reducible refine Kd.C_drewN ?_ _) | (with_reducible refine Kd.C_drew ?_))); (case side2 => exact (Kd.R_reads' HO_15.out).2.1); rintro e w112 ⟨rfl, hb⟩; refine ⟨_, rfl, ?_⟩; have n0_ := Aside0.mk (Kd.R_below (by (with_reducible repeat (first | apply Kd.R_alloc | apply Kd.R_drewN | apply Kd.R_drew)); exact HO_13.out) hb); have n1_ := Aside0.mk (Kd.R_below (by (with_reducible repeat (first | apply Kd.R_alloc | apply Kd.R_drewN | apply Kd.R_drew)); exact HO_15.out) hb); have n2_ := Aside0.mk (Kd.R_below (by (with_reducible repeat (first | apply Kd.R_alloc | apply Kd.R_drewN | apply Kd.R_drew)); exact HO_16.out) hb); have n3_ := Aside0.mk (blk_below (g := gb572) (o := .cells #[.int .i64 t568, .int .i64 t569] 59 (0, 0)) (by (with_reducible repeat (first | refine blk_drewN ?_ _ | refine blk_drew ?_ | refine blk_alloc ?_ _)); exact BK572.out) hb); have n4_ := Aside0.mk (below_step (by repeat (first | (with_reducible first | exact HB.out | apply below_alloc | apply pw_below_drewN | apply below_drew1 | refine below_set ?_ GE572.out) | exact HB.out)) hb); clear HO_13; clear HO_15; clear HO_16; clear BK572; clear HB; have HO_13 := n0_; have HO_15 := n1_; have HO_16 := n2_; have BK572 := n3_; have HB := n4_; clear n0_ n1_ n2_ n3_ n4_; (try clear hb); (try clear hb2); (try clear hk); (try clear hi); obtain ⟨Ao113, co113, eo113⟩ := Kd.R_slice HO_13.out; subst eo113) | ((with_reducible refine gate_callee (f := 37) rfl ?_); refine goesL_ (some 155) rfl rfl Tryd.func37 (by kernel_rfl) rfl #[.string t558, .slice Ao113 t573.length co113] rfl (by (try simp only [List.map_toArray, List.map_cons, List.map_nil]); first | done | rfl | (simp only [List.length_drop, List.length_take]; rfl)) ?_; (with_reducible refine (parse_Touches.calls k3 t558 _ _ t573 t588 false t590 _ ?side1 ?side2 A53.out).mono ?_); (case side1 => repeat (first | exact (Kd.R_reads' HO_13.out).2.2 | (with_reducible refine Kd.C_alloc ?_ _) | (with_reducible refine Kd.C_drewN ?_ _) | (with_reducible refine Kd.C_drew ?_))); (case side2 => exact (Kd.R_reads' HO_13.out).2.1); rintro e w114 ⟨rfl, hb⟩; refine ⟨_, rfl, ?_⟩; have n0_ := Aside0.mk (Kd.R_below (by (with_reducible repeat (first | apply Kd.R_alloc | apply Kd.R_drewN | apply Kd.R_drew)); exact HO_13.out) hb); have n1_ := Aside0.mk (Kd.R_below (by (with_reducible repeat (first | apply Kd.R_alloc | apply Kd.R_drewN | apply Kd.R_drew)); exact HO_15.out) hb); have n2_ := Aside0.mk (Kd.R_below (by (with_reducible repeat (first | apply Kd.R_alloc | apply Kd.R_drewN | apply Kd.R_drew)); exact HO_16.out) hb); have n3_ := Aside0.mk (blk_below (g := gb572) (o := .cells #[.int .i64 t568, .int .i64 t569] 59 (0, 0)) (by (with_reducible repeat (first | refine blk_drewN ?_ _ | refine blk_drew ?_ | refine blk_alloc ?_ _)); exact BK572.out) hb); have n4_ := Aside0.mk (below_step (by repeat (first | (with_reducible first | exact HB.out | apply below_alloc | apply pw_below_drewN | apply below_drew1 | refine below_set ?_ GE572.out) | exact HB.out)) hb); clear HO_13; clear HO_15; clear HO_16; clear BK572; clear HB; have HO_13 := n0_; have HO_15 := n1_; have HO_16 := n2_; have BK572 := n3_; have HB := n4_; clear n0_ n1_ n2_ n3_ n4_; (try clear hb); (try clear hb2); (try clear hk); (try clear hi); obtain ⟨Ao115, co115, eo115⟩ := Kd.R_slice HO_16.out; subst eo115) | ((with_reducible refine gate_callee (f := 37) rfl ?_); refine goesL_ (some 162) rfl rfl Tryd.func37 (by kernel_rfl) rfl #[.string t558, .slice Ao115 x16_3.length co115] rfl (by (try simp only [List.map_toArray, List.map_cons, List.map_nil]); first | done | rfl | (simp only [List.length_drop, List.length_take]; rfl)) ?_; (with_reducible refine (parse_Touches.calls k3 t558 _ _ x16_3 t591 t592 t593 _ ?side1 ?side2 A54.out).mono ?_); (case side1 => repeat (first | exact (Kd.R_reads' HO_16.out).2.2 | (with_reducible refine Kd.C_alloc ?_ _) | (with_reducible refine Kd.C_drewN ?_ _) | (with_reducible refine Kd.C_drew ?_))); (case side2 => exact (Kd.R_reads' HO_16.out).2.1); rintro e w116 ⟨rfl, hb⟩; refine ⟨_, rfl, ?_⟩; have n0_ := Aside0.mk (Kd.R_below (by (with_reducible repeat (first | apply Kd.R_alloc | apply Kd.R_drewN | apply Kd.R_drew)); exact HO_13.out) hb); have n1_ := Aside0.mk (Kd.R_below (by (with_reducible repeat (first | apply Kd.R_alloc | apply Kd.R_drewN | apply Kd.R_drew)); exact HO_15.out) hb); have n2_ := Aside0.mk (Kd.R_below (by (with_reducible repeat (first | apply Kd.R_alloc | apply Kd.R_drewN | apply Kd.R_drew)); exact HO_16.out) hb); have n3_ := Aside0.mk (blk_below (g := gb572) (o := .cells #[.int .i64 t568, .int .i64 t569] 59 (0, 0)) (by (with_reducible repeat (first | refine blk_drewN ?_ _ | refine blk_drew ?_ | refine blk_alloc ?_ _)); exact BK572.out) hb); have n4_ := Aside0.mk (below_step (by repeat (first | (with_reducible first | exact HB.out | apply below_alloc | apply pw_below_drewN | apply below_drew1 | refine below_set ?_ GE572.out) | exact HB.out)) hb); clear HO_13; clear HO_15; clear HO_16; clear BK572; clear HB; have HO_13 := n0_; have HO_15 := n1_; have HO_16 := n2_; have BK572 := n3_; have HB := n4_; clear n0_ n1_ n2_ n3_ n4_; (try clear hb); (try clear hb2); (try clear hk); (try clear hi)))
                                go_ret
                                exact ⟨by first | rfl | (simp [errW_none, errW_some] <;> rfl) | (simp [*, errW_none, errW_some] <;> rfl), by repeat (first | (with_reducible first | exact HB.out | apply below_alloc | apply pw_below_drewN | apply below_drew1 | refine below_set ?_ GE572.out) | exact HB.out)⟩
                            · rw [if_neg c57] at H
                              have c57b0 : (t590 == 0) = false := beq_eq_false_iff_ne.mpr c57
                              have c57b1 : (t590 != 0) = true := bne_iff_ne.mpr c57
                              obtain rfl := Option.some.inj H
                              have hcz117_0 : wr.cell? ⟨gb572, 0, none⟩ = some (.int .i64 t568) := (blk_cell BK572.out 0).trans rfl
                              have hcz117_1 : wr.cell? ⟨gb572, 1, none⟩ = some (.int .i64 t569) := (blk_cell BK572.out 1).trans rfl
                              have hfz117_0 := blk_frozen BK572.out 0
                              have hfz117_1 := blk_frozen BK572.out 1
                              obtain ⟨Ao118, co118, eo118⟩ := Kd.R_slice HO_15.out
                              subst eo118
                              go_wp2_with (first | ((with_reducible refine gate_callee (f := 37) rfl ?_); refine goesL_ (some 148) rfl rfl Tryd.func37 (by kernel_rfl) rfl #[.string t558, .slice Ao118 x15_2.length co118] rfl (by (try simp only [List.map_toArray, List.map_cons, List.map_nil]); first | done | rfl | (simp only [List.length_drop, List.length_take]; rfl)) ?_; (with_reducible refine (parse_Touches.calls k3 t558 _ _ x15_2 t585 true t587 _ ?side1 ?side2 A52.out).mono ?_); (case side1 => repeat (first | exact (Kd.R_reads' HO_15.out).2.2 | (with_reducible refine Kd.C_alloc ?_ _) | (with_reducible refine Kd.C_drewN ?_ _) | (with_reducible refine Kd.C_drew ?_))); (case side2 => exact (Kd.R_reads' HO_15.out).2.1); rintro e w119 ⟨rfl, hb⟩; refine ⟨_, rfl, ?_⟩; have n0_ := Aside0.mk (Kd.R_below (by (with_reducible repeat (first | apply Kd.R_alloc | apply Kd.R_drewN | apply Kd.R_drew)); exact HO_13.out) hb); have n1_ := Aside0.mk (Kd.R_below (by (with_reducible repeat (first | apply Kd.R_alloc | apply Kd.R_drewN | apply Kd.R_drew)); exact HO_15.out) hb); have n2_ := Aside0.mk (Kd.R_below (by (with_reducible repeat (first | apply Kd.R_alloc | apply Kd.R_drewN | apply Kd.R_drew)); exact HO_16.out) hb); have n3_ := Aside0.mk (blk_below (g := gb572) (o := .cells #[.int .i64 t568, .int .i64 t569] 59 (0, 0)) (by (with_reducible repeat (first | refine blk_drewN ?_ _ | refine blk_drew ?_ | refine blk_alloc ?_ _)); exact BK572.out) hb); have n4_ := Aside0.mk (below_step (by repeat (first | (with_reducible first | exact HB.out | apply below_alloc | apply pw_below_drewN | apply below_drew1 | refine below_set ?_ GE572.out) | exact HB.out)) hb); clear HO_13; clear HO_15; clear HO_16; clear BK572; clear HB; have HO_13 := n0_; have HO_15 := n1_; have HO_16 := n2_; have BK572 := n3_; have HB := n4_; clear n0_ n1_ n2_ n3_ n4_; (try clear hb); (try clear hb2); (try clear hk); (try clear hi); obtain ⟨Ao120, co120, eo120⟩ := Kd.R_slice HO_13.out; subst eo120) | ((with_reducible refine gate_callee (f := 37) rfl ?_); refine goesL_ (some 155) rfl rfl Tryd.func37 (by kernel_rfl) rfl #[.string t558, .slice Ao120 t573.length co120] rfl (by (try simp only [List.map_toArray, List.map_cons, List.map_nil]); first | done | rfl | (simp only [List.length_drop, List.length_take]; rfl)) ?_; (with_reducible refine (parse_Touches.calls k3 t558 _ _ t573 t588 t589 t590 _ ?side1 ?side2 A53.out).mono ?_); (case side1 => repeat (first | exact (Kd.R_reads' HO_13.out).2.2 | (with_reducible refine Kd.C_alloc ?_ _) | (with_reducible refine Kd.C_drewN ?_ _) | (with_reducible refine Kd.C_drew ?_))); (case side2 => exact (Kd.R_reads' HO_13.out).2.1); rintro e w121 ⟨rfl, hb⟩; refine ⟨_, rfl, ?_⟩; have n0_ := Aside0.mk (Kd.R_below (by (with_reducible repeat (first | apply Kd.R_alloc | apply Kd.R_drewN | apply Kd.R_drew)); exact HO_13.out) hb); have n1_ := Aside0.mk (Kd.R_below (by (with_reducible repeat (first | apply Kd.R_alloc | apply Kd.R_drewN | apply Kd.R_drew)); exact HO_15.out) hb); have n2_ := Aside0.mk (Kd.R_below (by (with_reducible repeat (first | apply Kd.R_alloc | apply Kd.R_drewN | apply Kd.R_drew)); exact HO_16.out) hb); have n3_ := Aside0.mk (blk_below (g := gb572) (o := .cells #[.int .i64 t568, .int .i64 t569] 59 (0, 0)) (by (with_reducible repeat (first | refine blk_drewN ?_ _ | refine blk_drew ?_ | refine blk_alloc ?_ _)); exact BK572.out) hb); have n4_ := Aside0.mk (below_step (by repeat (first | (with_reducible first | exact HB.out | apply below_alloc | apply pw_below_drewN | apply below_drew1 | refine below_set ?_ GE572.out) | exact HB.out)) hb); clear HO_13; clear HO_15; clear HO_16; clear BK572; clear HB; have HO_13 := n0_; have HO_15 := n1_; have HO_16 := n2_; have BK572 := n3_; have HB := n4_; clear n0_ n1_ n2_ n3_ n4_; (try clear hb); (try clear hb2); (try clear hk); (try clear hi); obtain ⟨Ao122, co122, eo122⟩ := Kd.R_slice HO_16.out; subst eo122) | ((with_reducible refine gate_callee (f := 37) rfl ?_); refine goesL_ (some 162) rfl rfl Tryd.func37 (by kernel_rfl) rfl #[.string t558, .slice Ao122 x16_3.length co122] rfl (by (try simp only [List.map_toArray, List.map_cons, List.map_nil]); first | done | rfl | (simp only [List.length_drop, List.length_take]; rfl)) ?_; (with_reducible refine (parse_Touches.calls k3 t558 _ _ x16_3 t591 t592 t593 _ ?side1 ?side2 A54.out).mono ?_); (case side1 => repeat (first | exact (Kd.R_reads' HO_16.out).2.2 | (with_reducible refine Kd.C_alloc ?_ _) | (with_reducible refine Kd.C_drewN ?_ _) | (with_reducible refine Kd.C_drew ?_))); (case side2 => exact (Kd.R_reads' HO_16.out).2.1); rintro e w123 ⟨rfl, hb⟩; refine ⟨_, rfl, ?_⟩; have n0_ := Aside0.mk (Kd.R_below (by (with_reducible repeat (first | apply Kd.R_alloc | apply Kd.R_drewN | apply Kd.R_drew)); exact HO_13.out) hb); have n1_ := Aside0.mk (Kd.R_below (by (with_reducible repeat (first | apply Kd.R_alloc | apply Kd.R_drewN | apply Kd.R_drew)); exact HO_15.out) hb); have n2_ := Aside0.mk (Kd.R_below (by (with_reducible repeat (first | apply Kd.R_alloc | apply Kd.R_drewN | apply Kd.R_drew)); exact HO_16.out) hb); have n3_ := Aside0.mk (blk_below (g := gb572) (o := .cells #[.int .i64 t568, .int .i64 t569] 59 (0, 0)) (by (with_reducible repeat (first | refine blk_drewN ?_ _ | refine blk_drew ?_ | refine blk_alloc ?_ _)); exact BK572.out) hb); have n4_ := Aside0.mk (below_step (by repeat (first | (with_reducible first | exact HB.out | apply below_alloc | apply pw_below_drewN | apply below_drew1 | refine below_set ?_ GE572.out) | exact HB.out)) hb); clear HO_13; clear HO_15; clear HO_16; clear BK572; clear HB; have HO_13 := n0_; have HO_15 := n1_; have HO_16 := n2_; have BK572 := n3_; have HB := n4_; clear n0_ n1_ n2_ n3_ n4_; (try clear hb); (try clear hb2); (try clear hk); (try clear hi)))
                              go_ret
                              exact ⟨by first | rfl | (simp [errW_none, errW_some] <;> rfl) | (simp [*, errW_none, errW_some] <;> rfl), by repeat (first | (with_reducible first | exact HB.out | apply below_alloc | apply pw_below_drewN | apply below_drew1 | refine below_set ?_ GE572.out) | exact HB.out)⟩
                          · replace c56 := Bool.eq_false_iff.mpr c56
                            subst c56
                            have H1 : (some false) = some r := by rw [if_neg (show ¬ (false = true) by decide)] at H; exact H
                            clear H
                            have H := H1
                            clear H1
                            obtain rfl := Option.some.inj H
                            have hcz124_0 : wr.cell? ⟨gb572, 0, none⟩ = some (.int .i64 t568) := (blk_cell BK572.out 0).trans rfl
                            have hcz124_1 : wr.cell? ⟨gb572, 1, none⟩ = some (.int .i64 t569) := (blk_cell BK572.out 1).trans rfl
                            have hfz124_0 := blk_frozen BK572.out 0
                            have hfz124_1 := blk_frozen BK572.out 1
                            obtain ⟨Ao125, co125, eo125⟩ := Kd.R_slice HO_15.out
                            subst eo125
                            go_wp2_with (first | ((with_reducible refine gate_callee (f := 37) rfl ?_); refine goesL_ (some 148) rfl rfl Tryd.func37 (by kernel_rfl) rfl #[.string t558, .slice Ao125 x15_2.length co125] rfl (by (try simp only [List.map_toArray, List.map_cons, List.map_nil]); first | done | rfl | (simp only [List.length_drop, List.length_take]; rfl)) ?_; (with_reducible refine (parse_Touches.calls k3 t558 _ _ x15_2 t585 false t587 _ ?side1 ?side2 A52.out).mono ?_); (case side1 => repeat (first | exact (Kd.R_reads' HO_15.out).2.2 | (with_reducible refine Kd.C_alloc ?_ _) | (with_reducible refine Kd.C_drewN ?_ _) | (with_reducible refine Kd.C_drew ?_))); (case side2 => exact (Kd.R_reads' HO_15.out).2.1); rintro e w126 ⟨rfl, hb⟩; refine ⟨_, rfl, ?_⟩; have n0_ := Aside0.mk (Kd.R_below (by (with_reducible repeat (first | apply Kd.R_alloc | apply Kd.R_drewN | apply Kd.R_drew)); exact HO_13.out) hb); have n1_ := Aside0.mk (Kd.R_below (by (with_reducible repeat (first | apply Kd.R_alloc | apply Kd.R_drewN | apply Kd.R_drew)); exact HO_15.out) hb); have n2_ := Aside0.mk (Kd.R_below (by (with_reducible repeat (first | apply Kd.R_alloc | apply Kd.R_drewN | apply Kd.R_drew)); exact HO_16.out) hb); have n3_ := Aside0.mk (blk_below (g := gb572) (o := .cells #[.int .i64 t568, .int .i64 t569] 59 (0, 0)) (by (with_reducible repeat (first | refine blk_drewN ?_ _ | refine blk_drew ?_ | refine blk_alloc ?_ _)); exact BK572.out) hb); have n4_ := Aside0.mk (below_step (by repeat (first | (with_reducible first | exact HB.out | apply below_alloc | apply pw_below_drewN | apply below_drew1 | refine below_set ?_ GE572.out) | exact HB.out)) hb); clear HO_13; clear HO_15; clear HO_16; clear BK572; clear HB; have HO_13 := n0_; have HO_15 := n1_; have HO_16 := n2_; have BK572 := n3_; have HB := n4_; clear n0_ n1_ n2_ n3_ n4_; (try clear hb); (try clear hb2); (try clear hk); (try clear hi); obtain ⟨Ao127, co127, eo127⟩ := Kd.R_slice HO_13.out; subst eo127) | ((with_reducible refine gate_callee (f := 37) rfl ?_); refine goesL_ (some 155) rfl rfl Tryd.func37 (by kernel_rfl) rfl #[.string t558, .slice Ao127 t573.length co127] rfl (by (try simp only [List.map_toArray, List.map_cons, List.map_nil]); first | done | rfl | (simp only [List.length_drop, List.length_take]; rfl)) ?_; (with_reducible refine (parse_Touches.calls k3 t558 _ _ t573 t588 t589 t590 _ ?side1 ?side2 A53.out).mono ?_); (case side1 => repeat (first | exact (Kd.R_reads' HO_13.out).2.2 | (with_reducible refine Kd.C_alloc ?_ _) | (with_reducible refine Kd.C_drewN ?_ _) | (with_reducible refine Kd.C_drew ?_))); (case side2 => exact (Kd.R_reads' HO_13.out).2.1); rintro e w128 ⟨rfl, hb⟩; refine ⟨_, rfl, ?_⟩; have n0_ := Aside0.mk (Kd.R_below (by (with_reducible repeat (first | apply Kd.R_alloc | apply Kd.R_drewN | apply Kd.R_drew)); exact HO_13.out) hb); have n1_ := Aside0.mk (Kd.R_below (by (with_reducible repeat (first | apply Kd.R_alloc | apply Kd.R_drewN | apply Kd.R_drew)); exact HO_15.out) hb); have n2_ := Aside0.mk (Kd.R_below (by (with_reducible repeat (first | apply Kd.R_alloc | apply Kd.R_drewN | apply Kd.R_drew)); exact HO_16.out) hb); have n3_ := Aside0.mk (blk_below (g := gb572) (o := .cells #[.int .i64 t568, .int .i64 t569] 59 (0, 0)) (by (with_reducible repeat (first | refine blk_drewN ?_ _ | refine blk_drew ?_ | refine blk_alloc ?_ _)); exact BK572.out) hb); have n4_ := Aside0.mk (below_step (by repeat (first | (with_reducible first | exact HB.out | apply below_alloc | apply pw_below_drewN | apply below_drew1 | refine below_set ?_ GE572.out) | exact HB.out)) hb); clear HO_13; clear HO_15; clear HO_16; clear BK572; clear HB; have HO_13 := n0_; have HO_15 := n1_; have HO_16 := n2_; have BK572 := n3_; have HB := n4_; clear n0_ n1_ n2_ n3_ n4_; (try clear hb); (try clear hb2); (try clear hk); (try clear hi); obtain ⟨Ao129, co129, eo129⟩ := Kd.R_slice HO_16.out; subst eo129) | ((with_reducible refine gate_callee (f := 37) rfl ?_); refine goesL_ (some 162) rfl rfl Tryd.func37 (by kernel_rfl) rfl #[.string t558, .slice Ao129 x16_3.length co129] rfl (by (try simp only [List.map_toArray, List.map_cons, List.map_nil]); first | done | rfl | (simp only [List.length_drop, List.length_take]; rfl)) ?_; (with_reducible refine (parse_Touches.calls k3 t558 _ _ x16_3 t591 t592 t593 _ ?side1 ?side2 A54.out).mono ?_); (case side1 => repeat (first | exact (Kd.R_reads' HO_16.out).2.2 | (with_reducible refine Kd.C_alloc ?_ _) | (with_reducible refine Kd.C_drewN ?_ _) | (with_reducible refine Kd.C_drew ?_))); (case side2 => exact (Kd.R_reads' HO_16.out).2.1); rintro e w130 ⟨rfl, hb⟩; refine ⟨_, rfl, ?_⟩; have n0_ := Aside0.mk (Kd.R_below (by (with_reducible repeat (first | apply Kd.R_alloc | apply Kd.R_drewN | apply Kd.R_drew)); exact HO_13.out) hb); have n1_ := Aside0.mk (Kd.R_below (by (with_reducible repeat (first | apply Kd.R_alloc | apply Kd.R_drewN | apply Kd.R_drew)); exact HO_15.out) hb); have n2_ := Aside0.mk (Kd.R_below (by (with_reducible repeat (first | apply Kd.R_alloc | apply Kd.R_drewN | apply Kd.R_drew)); exact HO_16.out) hb); have n3_ := Aside0.mk (blk_below (g := gb572) (o := .cells #[.int .i64 t568, .int .i64 t569] 59 (0, 0)) (by (with_reducible repeat (first | refine blk_drewN ?_ _ | refine blk_drew ?_ | refine blk_alloc ?_ _)); exact BK572.out) hb); have n4_ := Aside0.mk (below_step (by repeat (first | (with_reducible first | exact HB.out | apply below_alloc | apply pw_below_drewN | apply below_drew1 | refine below_set ?_ GE572.out) | exact HB.out)) hb); clear HO_13; clear HO_15; clear HO_16; clear BK572; clear HB; have HO_13 := n0_; have HO_15 := n1_; have HO_16 := n2_; have BK572 := n3_; have HB := n4_; clear n0_ n1_ n2_ n3_ n4_; (try clear hb); (try clear hb2); (try clear hk); (try clear hi)))
                            go_ret
                            exact ⟨by first | rfl | (simp [errW_none, errW_some] <;> rfl) | (simp [*, errW_none, errW_some] <;> rfl), by repeat (first | (with_reducible first | exact HB.out | apply below_alloc | apply pw_below_drewN | apply below_drew1 | refine below_set ?_ GE572.out) | exact HB.out)⟩
                        · rw [if_neg c55] at H
                          have c55b0 : (t587 == 0) = false := beq_eq_false_iff_ne.mpr c55
                          have c55b1 : (t587 != 0) = true := bne_iff_ne.mpr c55
                          obtain rfl := Option.some.inj H
                          have hcz131_0 : wr.cell? ⟨gb572, 0, none⟩ = some (.int .i64 t568) := (blk_cell BK572.out 0).trans rfl
                          have hcz131_1 : wr.cell? ⟨gb572, 1, none⟩ = some (.int .i64 t569) := (blk_cell BK572.out 1).trans rfl
                          have hfz131_0 := blk_frozen BK572.out 0
                          have hfz131_1 := blk_frozen BK572.out 1
                          obtain ⟨Ao132, co132, eo132⟩ := Kd.R_slice HO_15.out
                          subst eo132
                          go_wp2_with (first | ((with_reducible refine gate_callee (f := 37) rfl ?_); refine goesL_ (some 148) rfl rfl Tryd.func37 (by kernel_rfl) rfl #[.string t558, .slice Ao132 x15_2.length co132] rfl (by (try simp only [List.map_toArray, List.map_cons, List.map_nil]); first | done | rfl | (simp only [List.length_drop, List.length_take]; rfl)) ?_; (with_reducible refine (parse_Touches.calls k3 t558 _ _ x15_2 t585 t586 t587 _ ?side1 ?side2 A52.out).mono ?_); (case side1 => repeat (first | exact (Kd.R_reads' HO_15.out).2.2 | (with_reducible refine Kd.C_alloc ?_ _) | (with_reducible refine Kd.C_drewN ?_ _) | (with_reducible refine Kd.C_drew ?_))); (case side2 => exact (Kd.R_reads' HO_15.out).2.1); rintro e w133 ⟨rfl, hb⟩; refine ⟨_, rfl, ?_⟩; have n0_ := Aside0.mk (Kd.R_below (by (with_reducible repeat (first | apply Kd.R_alloc | apply Kd.R_drewN | apply Kd.R_drew)); exact HO_13.out) hb); have n1_ := Aside0.mk (Kd.R_below (by (with_reducible repeat (first | apply Kd.R_alloc | apply Kd.R_drewN | apply Kd.R_drew)); exact HO_15.out) hb); have n2_ := Aside0.mk (Kd.R_below (by (with_reducible repeat (first | apply Kd.R_alloc | apply Kd.R_drewN | apply Kd.R_drew)); exact HO_16.out) hb); have n3_ := Aside0.mk (blk_below (g := gb572) (o := .cells #[.int .i64 t568, .int .i64 t569] 59 (0, 0)) (by (with_reducible repeat (first | refine blk_drewN ?_ _ | refine blk_drew ?_ | refine blk_alloc ?_ _)); exact BK572.out) hb); have n4_ := Aside0.mk (below_step (by repeat (first | (with_reducible first | exact HB.out | apply below_alloc | apply pw_below_drewN | apply below_drew1 | refine below_set ?_ GE572.out) | exact HB.out)) hb); clear HO_13; clear HO_15; clear HO_16; clear BK572; clear HB; have HO_13 := n0_; have HO_15 := n1_; have HO_16 := n2_; have BK572 := n3_; have HB := n4_; clear n0_ n1_ n2_ n3_ n4_; (try clear hb); (try clear hb2); (try clear hk); (try clear hi); obtain ⟨Ao134, co134, eo134⟩ := Kd.R_slice HO_13.out; subst eo134) | ((with_reducible refine gate_callee (f := 37) rfl ?_); refine goesL_ (some 155) rfl rfl Tryd.func37 (by kernel_rfl) rfl #[.string t558, .slice Ao134 t573.length co134] rfl (by (try simp only [List.map_toArray, List.map_cons, List.map_nil]); first | done | rfl | (simp only [List.length_drop, List.length_take]; rfl)) ?_; (with_reducible refine (parse_Touches.calls k3 t558 _ _ t573 t588 t589 t590 _ ?side1 ?side2 A53.out).mono ?_); (case side1 => repeat (first | exact (Kd.R_reads' HO_13.out).2.2 | (with_reducible refine Kd.C_alloc ?_ _) | (with_reducible refine Kd.C_drewN ?_ _) | (with_reducible refine Kd.C_drew ?_))); (case side2 => exact (Kd.R_reads' HO_13.out).2.1); rintro e w135 ⟨rfl, hb⟩; refine ⟨_, rfl, ?_⟩; have n0_ := Aside0.mk (Kd.R_below (by (with_reducible repeat (first | apply Kd.R_alloc | apply Kd.R_drewN | apply Kd.R_drew)); exact HO_13.out) hb); have n1_ := Aside0.mk (Kd.R_below (by (with_reducible repeat (first | apply Kd.R_alloc | apply Kd.R_drewN | apply Kd.R_drew)); exact HO_15.out) hb); have n2_ := Aside0.mk (Kd.R_below (by (with_reducible repeat (first | apply Kd.R_alloc | apply Kd.R_drewN | apply Kd.R_drew)); exact HO_16.out) hb); have n3_ := Aside0.mk (blk_below (g := gb572) (o := .cells #[.int .i64 t568, .int .i64 t569] 59 (0, 0)) (by (with_reducible repeat (first | refine blk_drewN ?_ _ | refine blk_drew ?_ | refine blk_alloc ?_ _)); exact BK572.out) hb); have n4_ := Aside0.mk (below_step (by repeat (first | (with_reducible first | exact HB.out | apply below_alloc | apply pw_below_drewN | apply below_drew1 | refine below_set ?_ GE572.out) | exact HB.out)) hb); clear HO_13; clear HO_15; clear HO_16; clear BK572; clear HB; have HO_13 := n0_; have HO_15 := n1_; have HO_16 := n2_; have BK572 := n3_; have HB := n4_; clear n0_ n1_ n2_ n3_ n4_; (try clear hb); (try clear hb2); (try clear hk); (try clear hi); obtain ⟨Ao136, co136, eo136⟩ := Kd.R_slice HO_16.out; subst eo136) | ((with_reducible refine gate_callee (f := 37) rfl ?_); refine goesL_ (some 162) rfl rfl Tryd.func37 (by kernel_rfl) rfl #[.string t558, .slice Ao136 x16_3.length co136] rfl (by (try simp only [List.map_toArray, List.map_cons, List.map_nil]); first | done | rfl | (simp only [List.length_drop, List.length_take]; rfl)) ?_; (with_reducible refine (parse_Touches.calls k3 t558 _ _ x16_3 t591 t592 t593 _ ?side1 ?side2 A54.out).mono ?_); (case side1 => repeat (first | exact (Kd.R_reads' HO_16.out).2.2 | (with_reducible refine Kd.C_alloc ?_ _) | (with_reducible refine Kd.C_drewN ?_ _) | (with_reducible refine Kd.C_drew ?_))); (case side2 => exact (Kd.R_reads' HO_16.out).2.1); rintro e w137 ⟨rfl, hb⟩; refine ⟨_, rfl, ?_⟩; have n0_ := Aside0.mk (Kd.R_below (by (with_reducible repeat (first | apply Kd.R_alloc | apply Kd.R_drewN | apply Kd.R_drew)); exact HO_13.out) hb); have n1_ := Aside0.mk (Kd.R_below (by (with_reducible repeat (first | apply Kd.R_alloc | apply Kd.R_drewN | apply Kd.R_drew)); exact HO_15.out) hb); have n2_ := Aside0.mk (Kd.R_below (by (with_reducible repeat (first | apply Kd.R_alloc | apply Kd.R_drewN | apply Kd.R_drew)); exact HO_16.out) hb); have n3_ := Aside0.mk (blk_below (g := gb572) (o := .cells #[.int .i64 t568, .int .i64 t569] 59 (0, 0)) (by (with_reducible repeat (first | refine blk_drewN ?_ _ | refine blk_drew ?_ | refine blk_alloc ?_ _)); exact BK572.out) hb); have n4_ := Aside0.mk (below_step (by repeat (first | (with_reducible first | exact HB.out | apply below_alloc | apply pw_below_drewN | apply below_drew1 | refine below_set ?_ GE572.out) | exact HB.out)) hb); clear HO_13; clear HO_15; clear HO_16; clear BK572; clear HB; have HO_13 := n0_; have HO_15 := n1_; have HO_16 := n2_; have BK572 := n3_; have HB := n4_; clear n0_ n1_ n2_ n3_ n4_; (try clear hb); (try clear hb2); (try clear hk); (try clear hi)))
                          go_ret
                          exact ⟨by first | rfl | (simp [errW_none, errW_some] <;> rfl) | (simp [*, errW_none, errW_some] <;> rfl), by repeat (first | (with_reducible first | exact HB.out | apply below_alloc | apply pw_below_drewN | apply below_drew1 | refine below_set ?_ GE572.out) | exact HB.out)⟩

/-- THE ONE PURE STATEMENT of numnahlaw09_ParseFew: yours. -/
def numnahlaw09_ParseFew.Pure : Prop := ∀ (a0 : ByteArray) (a1 : Int), a0.size ≤ 140737488351232 → (Lit.int .i64 a1).wf = true → ∃ k, numnahlaw09_ParseFew.f k a0 a1 = some true
theorem numnahlaw09_ParseFew.walk (P : numnahlaw09_ParseFew.Pure) (a0 : ByteArray) (a1 : Int) (w : World) (hG : GW w) (w0 : a0.size ≤ 140737488351232) (w1 : (Lit.int .i64 a1).wf = true) :
    Calls Tryd.prog 11 #[.string a0, .int .i64 a1] w fun e w' => e = .returned (.bool true) ∧ Below w.heap.size w w' := by
  obtain ⟨k, h⟩ := P a0 a1 w0 w1
  refine (numnahlaw09_ParseFew.calls (hG := hG) k a0 a1 true w h).mono ?_
  rintro e w' ⟨rfl, hd⟩
  exact ⟨rfl, hd⟩

end Go.Proofs.YtpeeflkodpnbpaaDoor.Pr
