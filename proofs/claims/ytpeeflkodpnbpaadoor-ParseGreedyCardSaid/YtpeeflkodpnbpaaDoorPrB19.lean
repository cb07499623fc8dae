-- Laid by wip/tools/inj.py of this project, which drives the kit's printer. Lean checks it.
import Derived.Test.YtpeeflkodpnbpaaDoorPr0
import Derived.Test.YtpeeflkodpnbpaaDoorHEarl
import Derived.Test.YtpeeflkodpnbpaaDoorHCopy
import Derived.Test.YtpeeflkodpnbpaaDoorHFew
import Derived.Test.YtpeeflkodpnbpaaDoorHSubs
import Derived.Test.YtpeeflkodpnbpaaDoorPrA1
import Derived.Test.YtpeeflkodpnbpaaDoorPrA8
import Derived.Test.YtpeeflkodpnbpaaDoorPrB17
import Derived.Test.YtpeeflkodpnbpaaDoorPrB18
namespace Go.Proofs.YtpeeflkodpnbpaaDoor.Pr
open Go.RowKit Go.Proofs.YtpeeflkodpnbpaaDoorW.PrintWords Go.Proofs.YtpeeflkodpnbpaaDoorW.PrintLast Go.Proofs.YtpeeflkodpnbpaaDoorW.PrintMore
attribute [local go_sem] max2_int min2_int max_two min_two max_three min_three max_four min_four   -- for this text's walks alone
set_option linter.unusedVariables false
set_option linter.unusedSimpArgs false

/-! ### numnahlaw09_awake: function 25 -/
mutual
def numnahlaw09_awake.j0 : Nat → List Int → Int → ByteArray → Int → Int → List Int → Int → Bool → Option (Bool)
 | 0, _, _, _, _, _, _, _, _ => none
 | k + 1, x5, x6, x7, x8, x9, x10, x11, x56 => if x56 = true then (some false) else (if x6 = 0 then ((numnahlaw09_ints.f k x5 (([1, 2, 2, 2, 1] : List Int))).bind fun t270 => (if t270 = true then (if x9 = 0 then (if x7.toList = ([98, 98, 97, 97] : List UInt8) then (if x8 = 0 then (if x11 = 0 then ((numnahlaw09_ints.f k x10 (([0, 1] : List Int))).bind fun t274 => (numnahlaw09_awake.j1 k (!t274))) else (numnahlaw09_awake.j1 k true)) else (numnahlaw09_awake.j1 k true)) else (numnahlaw09_awake.j1 k true)) else (numnahlaw09_awake.j1 k true)) else (numnahlaw09_awake.j1 k true))) else (numnahlaw09_awake.j1 k true))
def numnahlaw09_awake.j1 : Nat → Bool → Option (Bool)
 | 0, _ => none
 | k + 1, x86 => if x86 = true then (some false) else (some true)
end
def numnahlaw09_awake.f (k : Nat)  : Option (Bool) := (parse_Copying.f (⟨#[97, 98, 97, 98]⟩ : ByteArray)).bind fun bt240 => ((parse_Learning.f (⟨#[97, 98, 97, 98]⟩ : ByteArray)).bind fun bt244 => ((parse_Substrings.f (⟨#[97, 98, 97, 98]⟩ : ByteArray)).bind fun bt248 => ((parse_Turns.f k (⟨#[97, 98, 97, 98]⟩ : ByteArray)).bind fun bt252 => ((parse_Fewest.f (⟨#[97, 98, 97, 98]⟩ : ByteArray)).bind fun bt255 => (if bt240.2 = 0 then ((numnahref09_Same.f k bt240.1 (([(⟨(-1), 1⟩ : S63), (⟨(-1), 1⟩ : S63), (⟨0, 2⟩ : S63)] : List (S63)))).bind fun t262 => (if t262 = true then (if bt244.2 = 0 then ((numnahref09_Same.f k bt244.1 (([(⟨0, 1⟩ : S63), (⟨0, 1⟩ : S63), (⟨1, 2⟩ : S63)] : List (S63)))).bind fun t266 => (numnahlaw09_awake.j0 k bt248.1 bt248.2 bt252.1 bt252.2.1 bt252.2.2 bt255.1 bt255.2 (!t266))) else (numnahlaw09_awake.j0 k bt248.1 bt248.2 bt252.1 bt252.2.1 bt252.2.2 bt255.1 bt255.2 true)) else (numnahlaw09_awake.j0 k bt248.1 bt248.2 bt252.1 bt252.2.1 bt252.2.2 bt255.1 bt255.2 true))) else (numnahlaw09_awake.j0 k bt248.1 bt248.2 bt252.1 bt252.2.1 bt252.2.2 bt255.1 bt255.2 true))))))
theorem numnahlaw09_awake.mono_l : ∀ k, (∀ y0 y1 y2 y3 y4 y5 y6 y7, LeO (numnahlaw09_awake.j0 k y0 y1 y2 y3 y4 y5 y6 y7) (numnahlaw09_awake.j0 (k + 1) y0 y1 y2 y3 y4 y5 y6 y7)) ∧ (∀ y0, LeO (numnahlaw09_awake.j1 k y0) (numnahlaw09_awake.j1 (k + 1) y0))
 | 0 => ⟨fun _ _ _ _ _ _ _ _ r h => by simp [numnahlaw09_awake.j0] at h, fun _ r h => by simp [numnahlaw09_awake.j1] at h⟩
 | k + 1 => by
  obtain ⟨ih0, ih1⟩ := numnahlaw09_awake.mono_l k
  refine ⟨?_, ?_⟩
  ·intro y0 y1 y2 y3 y4 y5 y6 y7
   unfold numnahlaw09_awake.j0
   repeat' first
   | (with_reducible exact ih0 _ _ _ _ _ _ _ _)
   | (with_reducible exact ih1 _)
   | (with_reducible exact numnahlaw09_ints.mono _ _ _)
   | (with_reducible exact numnahref09_Same.mono _ _ _)
   | (with_reducible exact parse_Turns.mono _ _)
   | (with_reducible exact LeO.refl _)
   | (with_reducible exact LeO.none _)
   | (with_reducible refine LeO.ite ?_ ?_)
   | (with_reducible refine LeO.bind ?_ (fun _ => ?_))
   | exact ih0 _ _ _ _ _ _ _ _
   | exact ih1 _
   | exact numnahlaw09_ints.mono _ _ _
   | exact numnahref09_Same.mono _ _ _
   | exact parse_Turns.mono _ _
   | exact LeO.none _
   | refine LeO.ite ?_ ?_
   | refine LeO.bind ?_ (fun _ => ?_)
  ·intro y0
   unfold numnahlaw09_awake.j1
   repeat' first
   | (with_reducible exact ih0 _ _ _ _ _ _ _ _)
   | (with_reducible exact ih1 _)
   | (with_reducible exact numnahlaw09_ints.mono _ _ _)
   | (with_reducible exact numnahref09_Same.mono _ _ _)
   | (with_reducible exact parse_Turns.mono _ _)
   | (with_reducible exact LeO.refl _)
   | (with_reducible exact LeO.none _)
   | (with_reducible refine LeO.ite ?_ ?_)
   | (with_reducible refine LeO.bind ?_ (fun _ => ?_))
   | exact ih0 _ _ _ _ _ _ _ _
   | exact ih1 _
   | exact numnahlaw09_ints.mono _ _ _
   | exact numnahref09_Same.mono _ _ _
   | exact parse_Turns.mono _ _
   | exact LeO.none _
   | refine LeO.ite ?_ ?_
   | refine LeO.bind ?_ (fun _ => ?_)
theorem numnahlaw09_awake.mono : ∀ k, LeO (numnahlaw09_awake.f k ) (numnahlaw09_awake.f (k + 1) ) := by
 intro  k
 obtain ⟨ih0, ih1⟩ := numnahlaw09_awake.mono_l k
 unfold numnahlaw09_awake.f
 repeat' first
   | (with_reducible exact ih0 _ _ _ _ _ _ _ _)
   | (with_reducible exact ih1 _)
   | (with_reducible exact numnahlaw09_ints.mono _ _ _)
   | (with_reducible exact numnahref09_Same.mono _ _ _)
   | (with_reducible exact parse_Turns.mono _ _)
   | (with_reducible exact LeO.refl _)
   | (with_reducible exact LeO.none _)
   | (with_reducible refine LeO.ite ?_ ?_)
   | (with_reducible refine LeO.bind ?_ (fun _ => ?_))
   | exact ih0 _ _ _ _ _ _ _ _
   | exact ih1 _
   | exact numnahlaw09_ints.mono _ _ _
   | exact numnahref09_Same.mono _ _ _
   | exact parse_Turns.mono _ _
   | exact LeO.none _
   | refine LeO.ite ?_ ?_
   | refine LeO.bind ?_ (fun _ => ?_)
set_option maxHeartbeats 8000000 in
set_option maxRecDepth 100000 in
theorem numnahlaw09_awake.calls (k : Nat)  (r : Bool) (w : World) (hG : GW w) (h : numnahlaw09_awake.f k  = some r) :
  Calls Tryd.prog 25 #[] w fun e w' => e = .returned (.bool r) ∧ Below w.heap.size w w' := by
 have hu63 := Tryd.underlying63
 have HB := Aside0.mk (Below.refl w.heap.size w)
 have H : ((parse_Copying.f (⟨#[97, 98, 97, 98]⟩ : ByteArray)).bind fun bt240 => ((parse_Learning.f (⟨#[97, 98, 97, 98]⟩ : ByteArray)).bind fun bt244 => ((parse_Substrings.f (⟨#[97, 98, 97, 98]⟩ : ByteArray)).bind fun bt248 => ((parse_Turns.f k (⟨#[97, 98, 97, 98]⟩ : ByteArray)).bind fun bt252 => ((parse_Fewest.f (⟨#[97, 98, 97, 98]⟩ : ByteArray)).bind fun bt255 => (if bt240.2 = 0 then ((numnahref09_Same.f k bt240.1 (([(⟨(-1), 1⟩ : S63), (⟨(-1), 1⟩ : S63), (⟨0, 2⟩ : S63)] : List (S63)))).bind fun t262 => (if t262 = true then (if bt244.2 = 0 then ((numnahref09_Same.f k bt244.1 (([(⟨0, 1⟩ : S63), (⟨0, 1⟩ : S63), (⟨1, 2⟩ : S63)] : List (S63)))).bind fun t266 => (numnahlaw09_awake.j0 k bt248.1 bt248.2 bt252.1 bt252.2.1 bt252.2.2 bt255.1 bt255.2 (!t266))) else (numnahlaw09_awake.j0 k bt248.1 bt248.2 bt252.1 bt252.2.1 bt252.2.2 bt255.1 bt255.2 true)) else (numnahlaw09_awake.j0 k bt248.1 bt248.2 bt252.1 bt252.2.1 bt252.2.2 bt255.1 bt255.2 true))) else (numnahlaw09_awake.j0 k bt248.1 bt248.2 bt252.1 bt252.2.1 bt252.2.2 bt255.1 bt255.2 true))))))) = some r := h
 clear h
 replace H := Option.bind_eq_some_iff.mp H
 obtain ⟨⟨t240, t241⟩, A10, H⟩ := H
 replace H : ((parse_Learning.f (⟨#[97, 98, 97, 98]⟩ : ByteArray)).bind fun bt244 => ((parse_Substrings.f (⟨#[97, 98, 97, 98]⟩ : ByteArray)).bind fun bt248 => ((parse_Turns.f k (⟨#[97, 98, 97, 98]⟩ : ByteArray)).bind fun bt252 => ((parse_Fewest.f (⟨#[97, 98, 97, 98]⟩ : ByteArray)).bind fun bt255 => (if t241 = 0 then ((numnahref09_Same.f k t240 (([(⟨(-1), 1⟩ : S63), (⟨(-1), 1⟩ : S63), (⟨0, 2⟩ : S63)] : List (S63)))).bind fun t262 => (if t262 = true then (if bt244.2 = 0 then ((numnahref09_Same.f k bt244.1 (([(⟨0, 1⟩ : S63), (⟨0, 1⟩ : S63), (⟨1, 2⟩ : S63)] : List (S63)))).bind fun t266 => (numnahlaw09_awake.j0 k bt248.1 bt248.2 bt252.1 bt252.2.1 bt252.2.2 bt255.1 bt255.2 (!t266))) else (numnahlaw09_awake.j0 k bt248.1 bt248.2 bt252.1 bt252.2.1 bt252.2.2 bt255.1 bt255.2 true)) else (numnahlaw09_awake.j0 k bt248.1 bt248.2 bt252.1 bt252.2.1 bt252.2.2 bt255.1 bt255.2 true))) else (numnahlaw09_awake.j0 k bt248.1 bt248.2 bt252.1 bt252.2.1 bt252.2.2 bt255.1 bt255.2 true)))))) = some r := H
 have A1 := Aside0.mk A10
 clear A10
 replace H := Option.bind_eq_some_iff.mp H
 obtain ⟨⟨t244, t245⟩, A20, H⟩ := H
 replace H : ((parse_Substrings.f (⟨#[97, 98, 97, 98]⟩ : ByteArray)).bind fun bt248 => ((parse_Turns.f k (⟨#[97, 98, 97, 98]⟩ : ByteArray)).bind fun bt252 => ((parse_Fewest.f (⟨#[97, 98, 97, 98]⟩ : ByteArray)).bind fun bt255 => (if t241 = 0 then ((numnahref09_Same.f k t240 (([(⟨(-1), 1⟩ : S63), (⟨(-1), 1⟩ : S63), (⟨0, 2⟩ : S63)] : List (S63)))).bind fun t262 => (if t262 = true then (if t245 = 0 then ((numnahref09_Same.f k t244 (([(⟨0, 1⟩ : S63), (⟨0, 1⟩ : S63), (⟨1, 2⟩ : S63)] : List (S63)))).bind fun t266 => (numnahlaw09_awake.j0 k bt248.1 bt248.2 bt252.1 bt252.2.1 bt252.2.2 bt255.1 bt255.2 (!t266))) else (numnahlaw09_awake.j0 k bt248.1 bt248.2 bt252.1 bt252.2.1 bt252.2.2 bt255.1 bt255.2 true)) else (numnahlaw09_awake.j0 k bt248.1 bt248.2 bt252.1 bt252.2.1 bt252.2.2 bt255.1 bt255.2 true))) else (numnahlaw09_awake.j0 k bt248.1 bt248.2 bt252.1 bt252.2.1 bt252.2.2 bt255.1 bt255.2 true))))) = some r := H
 have A2 := Aside0.mk A20
 clear A20
 replace H := Option.bind_eq_some_iff.mp H
 obtain ⟨⟨t248, t249⟩, A30, H⟩ := H
 replace H : ((parse_Turns.f k (⟨#[97, 98, 97, 98]⟩ : ByteArray)).bind fun bt252 => ((parse_Fewest.f (⟨#[97, 98, 97, 98]⟩ : ByteArray)).bind fun bt255 => (if t241 = 0 then ((numnahref09_Same.f k t240 (([(⟨(-1), 1⟩ : S63), (⟨(-1), 1⟩ : S63), (⟨0, 2⟩ : S63)] : List (S63)))).bind fun t262 => (if t262 = true then (if t245 = 0 then ((numnahref09_Same.f k t244 (([(⟨0, 1⟩ : S63), (⟨0, 1⟩ : S63), (⟨1, 2⟩ : S63)] : List (S63)))).bind fun t266 => (numnahlaw09_awake.j0 k t248 t249 bt252.1 bt252.2.1 bt252.2.2 bt255.1 bt255.2 (!t266))) else (numnahlaw09_awake.j0 k t248 t249 bt252.1 bt252.2.1 bt252.2.2 bt255.1 bt255.2 true)) else (numnahlaw09_awake.j0 k t248 t249 bt252.1 bt252.2.1 bt252.2.2 bt255.1 bt255.2 true))) else (numnahlaw09_awake.j0 k t248 t249 bt252.1 bt252.2.1 bt252.2.2 bt255.1 bt255.2 true)))) = some r := H
 have A3 := Aside0.mk A30
 clear A30
 replace H := Option.bind_eq_some_iff.mp H
 obtain ⟨⟨t252, t253, t254⟩, A40, H⟩ := H
 replace H : ((parse_Fewest.f (⟨#[97, 98, 97, 98]⟩ : ByteArray)).bind fun bt255 => (if t241 = 0 then ((numnahref09_Same.f k t240 (([(⟨(-1), 1⟩ : S63), (⟨(-1), 1⟩ : S63), (⟨0, 2⟩ : S63)] : List (S63)))).bind fun t262 => (if t262 = true then (if t245 = 0 then ((numnahref09_Same.f k t244 (([(⟨0, 1⟩ : S63), (⟨0, 1⟩ : S63), (⟨1, 2⟩ : S63)] : List (S63)))).bind fun t266 => (numnahlaw09_awake.j0 k t248 t249 t252 t253 t254 bt255.1 bt255.2 (!t266))) else (numnahlaw09_awake.j0 k t248 t249 t252 t253 t254 bt255.1 bt255.2 true)) else (numnahlaw09_awake.j0 k t248 t249 t252 t253 t254 bt255.1 bt255.2 true))) else (numnahlaw09_awake.j0 k t248 t249 t252 t253 t254 bt255.1 bt255.2 true))) = some r := H
 have A4 := Aside0.mk A40
 clear A40
 replace H := Option.bind_eq_some_iff.mp H
 obtain ⟨⟨t255, t256⟩, A50, H⟩ := H
 replace H : (if t241 = 0 then ((numnahref09_Same.f k t240 (([(⟨(-1), 1⟩ : S63), (⟨(-1), 1⟩ : S63), (⟨0, 2⟩ : S63)] : List (S63)))).bind fun t262 => (if t262 = true then (if t245 = 0 then ((numnahref09_Same.f k t244 (([(⟨0, 1⟩ : S63), (⟨0, 1⟩ : S63), (⟨1, 2⟩ : S63)] : List (S63)))).bind fun t266 => (numnahlaw09_awake.j0 k t248 t249 t252 t253 t254 t255 t256 (!t266))) else (numnahlaw09_awake.j0 k t248 t249 t252 t253 t254 t255 t256 true)) else (numnahlaw09_awake.j0 k t248 t249 t252 t253 t254 t255 t256 true))) else (numnahlaw09_awake.j0 k t248 t249 t252 t253 t254 t255 t256 true)) = some r := H
 have A5 := Aside0.mk A50
 clear A50
 have HC6 := Aside0.mk H
 clear H
 go_enter Tryd.func25, Tryd.ntmps25
 go_upto_region 6 with (first | ((with_reducible refine gate_callee (f := 22) rfl ?_); refine goesL_ (some 13) rfl rfl Tryd.func22 (by kernel_rfl) rfl #[.string (⟨#[97, 98, 97, 98]⟩ : ByteArray)] rfl (by (try simp only [List.map_toArray, List.map_cons, List.map_nil]); first | done | rfl | (simp only [List.length_drop, List.length_take]; rfl)) ?_; (with_reducible refine (parse_Copying.calls (hG := ?hg) (⟨#[97, 98, 97, 98]⟩ : ByteArray) t240 t241 _ A1.out).mono ?_); (case hg => exact gw_now hG (by repeat (first | (with_reducible first | exact HB.out | apply below_alloc | apply pw_below_drewN | apply below_drew1) | exact HB.out))); rintro e w7 ⟨v242, rfl, ho0, hb⟩; refine ⟨_, rfl, ?_⟩; have n0_ := Aside0.mk (Kd.R_lower ho0 (below_size (by repeat (first | (with_reducible first | exact HB.out | apply below_alloc | apply pw_below_drewN | apply below_drew1) | exact HB.out)))); have n1_ := Aside0.mk (below_step (by repeat (first | (with_reducible first | exact HB.out | apply below_alloc | apply pw_below_drewN | apply below_drew1) | exact HB.out)) hb); clear HB; have HO243 := n0_; have HB := n1_; clear n0_ n1_; (try clear hb); (try clear hb2); (try clear hk); (try clear hi); (try clear ho0)) | ((with_reducible refine gate_callee (f := 23) rfl ?_); refine goesL_ (some 17) rfl rfl Tryd.func23 (by kernel_rfl) rfl #[.string (⟨#[97, 98, 97, 98]⟩ : ByteArray)] rfl (by (try simp only [List.map_toArray, List.map_cons, List.map_nil]); first | done | rfl | (simp only [List.length_drop, List.length_take]; rfl)) ?_; (with_reducible refine (parse_Learning.calls (⟨#[97, 98, 97, 98]⟩ : ByteArray) t244 t245 _ A2.out).mono ?_); rintro e w8 ⟨v246, rfl, ho0, hb⟩; refine ⟨_, rfl, ?_⟩; have n0_ := Aside0.mk (Kd.R_elder' (by (with_reducible repeat (first | apply Kd.R_alloc | apply Kd.R_drewN | apply Kd.R_drew)); exact HO243.out) (Kd.R_base ho0) hb); have n1_ := Aside0.mk (Kd.R_lower (Kd.R_new' ho0 (Kd.R_lt (by (with_reducible repeat (first | apply Kd.R_alloc | apply Kd.R_drewN | apply Kd.R_drew)); exact HO243.out))) (below_size (by repeat (first | (with_reducible first | exact HB.out | apply below_alloc | apply pw_below_drewN | apply below_drew1) | exact HB.out)))); have n2_ := Aside0.mk (below_step (by repeat (first | (with_reducible first | exact HB.out | apply below_alloc | apply pw_below_drewN | apply below_drew1) | exact HB.out)) hb); clear HO243; clear HB; have HO243 := n0_; have HO247 := n1_; have HB := n2_; clear n0_ n1_ n2_; (try clear hb); (try clear hb2); (try clear hk); (try clear hi); (try clear ho0)) | ((with_reducible refine gate_callee (f := 32) rfl ?_); refine goesL_ (some 21) rfl rfl Tryd.func32 (by kernel_rfl) rfl #[.string (⟨#[97, 98, 97, 98]⟩ : ByteArray)] rfl (by (try simp only [List.map_toArray, List.map_cons, List.map_nil]); first | done | rfl | (simp only [List.length_drop, List.length_take]; rfl)) ?_; (with_reducible refine (parse_Substrings.calls (⟨#[97, 98, 97, 98]⟩ : ByteArray) t248 t249 _ A3.out).mono ?_); rintro e w9 ⟨v250, rfl, ho0, hb⟩; refine ⟨_, rfl, ?_⟩; have n0_ := Aside0.mk (Kd.R_below (by (with_reducible repeat (first | apply Kd.R_alloc | apply Kd.R_drewN | apply Kd.R_drew)); exact HO243.out) hb); have n1_ := Aside0.mk (Kd.R_below (by (with_reducible repeat (first | apply Kd.R_alloc | apply Kd.R_drewN | apply Kd.R_drew)); exact HO247.out) hb); have n2_ := Aside0.mk (Kd.R_lower ho0 (below_size (by repeat (first | (with_reducible first | exact HB.out | apply below_alloc | apply pw_below_drewN | apply below_drew1) | exact HB.out)))); have n3_ := Aside0.mk (below_step (by repeat (first | (with_reducible first | exact HB.out | apply below_alloc | apply pw_below_drewN | apply below_drew1) | exact HB.out)) hb); clear HO243; clear HO247; clear HB; have HO243 := n0_; have HO247 := n1_; have HO251 := n2_; have HB := n3_; clear n0_ n1_ n2_ n3_; (try clear hb); (try clear hb2); (try clear hk); (try clear hi); (try clear ho0)) | ((with_reducible refine gate_callee (f := 30) rfl ?_); refine goesL_ (some 25) rfl rfl Tryd.func30 (by kernel_rfl) rfl #[.string (⟨#[97, 98, 97, 98]⟩ : ByteArray)] rfl (by (try simp only [List.map_toArray, List.map_cons, List.map_nil]); first | done | rfl | (simp only [List.length_drop, List.length_take]; rfl)) ?_; (with_reducible refine (parse_Turns.calls k (⟨#[97, 98, 97, 98]⟩ : ByteArray) t252 t253 t254 _ A4.out).mono ?_); rintro e w10 ⟨rfl, hb⟩; refine ⟨_, rfl, ?_⟩; have n0_ := Aside0.mk (Kd.R_below (by (with_reducible repeat (first | apply Kd.R_alloc | apply Kd.R_drewN | apply Kd.R_drew)); exact HO243.out) hb); have n1_ := Aside0.mk (Kd.R_below (by (with_reducible repeat (first | apply Kd.R_alloc | apply Kd.R_drewN | apply Kd.R_drew)); exact HO247.out) hb); have n2_ := Aside0.mk (Kd.R_below (by (with_reducible repeat (first | apply Kd.R_alloc | apply Kd.R_drewN | apply Kd.R_drew)); exact HO251.out) hb); have n3_ := Aside0.mk (below_step (by repeat (first | (with_reducible first | exact HB.out | apply below_alloc | apply pw_below_drewN | apply below_drew1) | exact HB.out)) hb); clear HO243; clear HO247; clear HO251; clear HB; have HO243 := n0_; have HO247 := n1_; have HO251 := n2_; have HB := n3_; clear n0_ n1_ n2_ n3_; (try clear hb); (try clear hb2); (try clear hk); (try clear hi)) | ((with_reducible refine gate_callee (f := 40) rfl ?_); refine goesL_ (some 30) rfl rfl Tryd.func40 (by kernel_rfl) rfl #[.string (⟨#[97, 98, 97, 98]⟩ : ByteArray)] rfl (by (try simp only [List.map_toArray, List.map_cons, List.map_nil]); first | done | rfl | (simp only [List.length_drop, List.length_take]; rfl)) ?_; (with_reducible refine (parse_Fewest.calls (⟨#[97, 98, 97, 98]⟩ : ByteArray) t255 t256 _ A5.out).mono ?_); rintro e w11 ⟨v257, rfl, ho0, hb⟩; refine ⟨_, rfl, ?_⟩; have n0_ := Aside0.mk (Kd.R_below (by (with_reducible repeat (first | apply Kd.R_alloc | apply Kd.R_drewN | apply Kd.R_drew)); exact HO243.out) hb); have n1_ := Aside0.mk (Kd.R_below (by (with_reducible repeat (first | apply Kd.R_alloc | apply Kd.R_drewN | apply Kd.R_drew)); exact HO247.out) hb); have n2_ := Aside0.mk (Kd.R_elder' (by (with_reducible repeat (first | apply Kd.R_alloc | apply Kd.R_drewN | apply Kd.R_drew)); exact HO251.out) (Kd.R_base ho0) hb); have n3_ := Aside0.mk (Kd.R_lower (Kd.R_new' ho0 (Kd.R_lt (by (with_reducible repeat (first | apply Kd.R_alloc | apply Kd.R_drewN | apply Kd.R_drew)); exact HO251.out))) (below_size (by repeat (first | (with_reducible first | exact HB.out | apply below_alloc | apply pw_below_drewN | apply below_drew1) | exact HB.out)))); have n4_ := Aside0.mk (below_step (by repeat (first | (with_reducible first | exact HB.out | apply below_alloc | apply pw_below_drewN | apply below_drew1) | exact HB.out)) hb); clear HO243; clear HO247; clear HO251; clear HB; have HO243 := n0_; have HO247 := n1_; have HO251 := n2_; have HO258 := n3_; have HB := n4_; clear n0_ n1_ n2_ n3_ n4_; (try clear hb); (try clear hb2); (try clear hk); (try clear hi); (try clear ho0)))
 (try simp only [Act.put, List.setIfInBounds_toArray, List.set_cons_zero, List.set_cons_succ])
 go_cut [56] (fun v56 wc => ∃ (kq : Nat) (x56_5 : Bool), v56 = .bool x56_5 ∧ Aside0 (numnahlaw09_awake.j0 kq t248 t249 t252 t253 t254 t255 t256 x56_5 = some r) ∧ Aside0 (kq ≤ k) ∧ Aside0 (Kd.R (Kd.int .i64) 3 wc w.heap.size (fun k_ => some k_ ≠ (v257 : Value).ownBlock) v250 t248) ∧ Aside0 (Kd.R (Kd.int .i64) 3 wc w.heap.size (fun k_ => some k_ ≠ (v250 : Value).ownBlock) v257 t255) ∧ Aside0 (Below w.heap.size w wc))
 case first =>
  have H := HC6.out
  clear HC6
  by_cases c12 : t241 = 0
  ·rw [if_pos c12] at H
   have c12b0 : (t241 == 0) = true := beq_iff_eq.mpr c12
   have c12b1 : (t241 != 0) = false := bne_eq_false_iff_eq.mpr c12
   clear c12
   (first | rw [c12b0] | (simp only [i64_w, i32_w]; rw [c12b0]) | skip)
   obtain ⟨y259, hy259⟩ : ∃ y_ : List (S63), y_ = (([(⟨(-1), 1⟩ : S63), (⟨(-1), 1⟩ : S63), (⟨0, 2⟩ : S63)] : List (S63))) := ⟨_, rfl⟩
   replace H : ((numnahref09_Same.f k t240 y259).bind fun t262 => (if t262 = true then (if t245 = 0 then ((numnahref09_Same.f k t244 (([(⟨0, 1⟩ : S63), (⟨0, 1⟩ : S63), (⟨1, 2⟩ : S63)] : List (S63)))).bind fun t266 => (numnahlaw09_awake.j0 k t248 t249 t252 t253 t254 t255 t256 (!t266))) else (numnahlaw09_awake.j0 k t248 t249 t252 t253 t254 t255 t256 true)) else (numnahlaw09_awake.j0 k t248 t249 t252 t253 t254 t255 t256 true))) = some r := by first | (rw [hy259]; with_reducible exact H) | (have H2_ := (Option.bind_some _ _).symm.trans H; rw [hy259]; with_reducible exact H2_) | (have H2_ := (Option.bind_some _ _).symm.trans H; with_reducible exact H2_) | with_reducible exact H | (rw [hy259]; exact H) | exact H
   have Ny259 := Aside0.mk hy259
   clear hy259
   replace H := Option.bind_eq_some_iff.mp H
   obtain ⟨t262, A130, H⟩ := H
   replace H : (if t262 = true then (if t245 = 0 then ((numnahref09_Same.f k t244 (([(⟨0, 1⟩ : S63), (⟨0, 1⟩ : S63), (⟨1, 2⟩ : S63)] : List (S63)))).bind fun t266 => (numnahlaw09_awake.j0 k t248 t249 t252 t253 t254 t255 t256 (!t266))) else (numnahlaw09_awake.j0 k t248 t249 t252 t253 t254 t255 t256 true)) else (numnahlaw09_awake.j0 k t248 t249 t252 t253 t254 t255 t256 true)) = some r := H
   have A13 := Aside0.mk A130
   clear A130
   by_cases c14 : t262 = true
   ·subst c14
    have H1 : (if t245 = 0 then ((numnahref09_Same.f k t244 (([(⟨0, 1⟩ : S63), (⟨0, 1⟩ : S63), (⟨1, 2⟩ : S63)] : List (S63)))).bind fun t266 => (numnahlaw09_awake.j0 k t248 t249 t252 t253 t254 t255 t256 (!t266))) else (numnahlaw09_awake.j0 k t248 t249 t252 t253 t254 t255 t256 true)) = some r := by rw [if_pos rfl] at H; exact H
    clear H
    have H := H1
    clear H1
    by_cases c15 : t245 = 0
    ·rw [if_pos c15] at H
     have c15b0 : (t245 == 0) = true := beq_iff_eq.mpr c15
     have c15b1 : (t245 != 0) = false := bne_eq_false_iff_eq.mpr c15
     clear c15
     obtain ⟨y263, hy263⟩ : ∃ y_ : List (S63), y_ = (([(⟨0, 1⟩ : S63), (⟨0, 1⟩ : S63), (⟨1, 2⟩ : S63)] : List (S63))) := ⟨_, rfl⟩
     replace H : ((numnahref09_Same.f k t244 y263).bind fun t266 => (numnahlaw09_awake.j0 k t248 t249 t252 t253 t254 t255 t256 (!t266))) = some r := by first | (rw [hy263]; with_reducible exact H) | (have H2_ := (Option.bind_some _ _).symm.trans H; rw [hy263]; with_reducible exact H2_) | (have H2_ := (Option.bind_some _ _).symm.trans H; with_reducible exact H2_) | with_reducible exact H | (rw [hy263]; exact H) | exact H
     have Ny263 := Aside0.mk hy263
     clear hy263
     replace H := Option.bind_eq_some_iff.mp H
     obtain ⟨t266, A160, H⟩ := H
     replace H : (numnahlaw09_awake.j0 k t248 t249 t252 t253 t254 t255 t256 (!t266)) = some r := H
     have A16 := Aside0.mk A160
     clear A160
     have H' := Aside0.mk H
     clear H
     go_wp2_with (first | ((with_reducible refine gate_dst (N := 40) rfl ?_); (try (refine gate_guard (by rfl) ?_; dsimp only)); refine Kd.R_lit k63 _ 63 ?hg (N := 40) ?hd (xs := ([(⟨(-1), 1⟩ : S63), (⟨(-1), 1⟩ : S63), (⟨0, 2⟩ : S63)] : List (S63))) (inner := [.int .i64 (-1), .int .i64 1, .int .i64 (-1), .int .i64 1, .int .i64 0, .int .i64 2]) (ok := fun _ => True) (okp := fun _ => True) ?hr ?hp (fun _ hk => hk) trivial (Below.refl _ _) (Nat.le_refl _) (by simp) ?_; (case hd => rfl); (case hg => rfl); (case hr => first | (go_simp; done) | (go_simp; rfl)); (case hp => exact (Reps.c2 (show Kd.M k63 _ _ _ (⟨(-1), 1⟩ : S63) [.int .i64 (-1), .int .i64 1] from (k63_mkM _ _ _ (⟨(-1), 1⟩ : S63) )) (Reps.c2 (show Kd.M k63 _ _ _ (⟨(-1), 1⟩ : S63) [.int .i64 (-1), .int .i64 1] from (k63_mkM _ _ _ (⟨(-1), 1⟩ : S63) )) (Reps.c2 (show Kd.M k63 _ _ _ (⟨0, 2⟩ : S63) [.int .i64 0, .int .i64 2] from (k63_mkM _ _ _ (⟨0, 2⟩ : S63) )) (Reps.none _ _))))); intro v260 w17 ho18 hb hg_ hnew_; clear hg_ hnew_; (first | rw [← Ny259.out] at ho18 | (simp only [Int.reduceToNat] at ho18; rw [← Ny259.out] at ho18)); have n0_ := Aside0.mk (Kd.R_elder' (by (with_reducible repeat (first | apply Kd.R_alloc | apply Kd.R_drewN | apply Kd.R_drew)); exact HO243.out) (Kd.R_base ho18) hb); have n1_ := Aside0.mk (Kd.R_elder' (by (with_reducible repeat (first | apply Kd.R_alloc | apply Kd.R_drewN | apply Kd.R_drew)); exact HO247.out) (Kd.R_base ho18) hb); have n2_ := Aside0.mk (Kd.R_below (by (with_reducible repeat (first | apply Kd.R_alloc | apply Kd.R_drewN | apply Kd.R_drew)); exact HO251.out) hb); have n3_ := Aside0.mk (Kd.R_below (by (with_reducible repeat (first | apply Kd.R_alloc | apply Kd.R_drewN | apply Kd.R_drew)); exact HO258.out) hb); have n4_ := Aside0.mk (Kd.R_lower (Kd.R_new' (Kd.R_new' ho18 (Kd.R_lt (by (with_reducible repeat (first | apply Kd.R_alloc | apply Kd.R_drewN | apply Kd.R_drew)); exact HO243.out))) (Kd.R_lt (by (with_reducible repeat (first | apply Kd.R_alloc | apply Kd.R_drewN | apply Kd.R_drew)); exact HO247.out))) (below_size (by repeat (first | (with_reducible first | exact HB.out | apply below_alloc | apply pw_below_drewN | apply below_drew1) | exact HB.out)))); have n5_ := Aside0.mk (below_step (by repeat (first | (with_reducible first | exact HB.out | apply below_alloc | apply pw_below_drewN | apply below_drew1) | exact HB.out)) hb); clear HO243; clear HO247; clear HO251; clear HO258; clear HB; have HO243 := n0_; have HO247 := n1_; have HO251 := n2_; have HO258 := n3_; have HO261 := n4_; have HB := n5_; clear n0_ n1_ n2_ n3_ n4_ n5_; clear hb ho18; obtain ⟨Ao19, co19, eo19⟩ := Kd.R_slice HO243.out; subst eo19; obtain ⟨Ao20, co20, eo20⟩ := Kd.R_slice HO261.out; subst eo20) | (go_at_call 26; (with_reducible refine (numnahref09_Same.calls k _ _ t240 _ _ y259 true _ ?side1 ?side2 ?side3 ?side4 A13.out).mono ?_); (case side1 => repeat (first | exact (Kd.R_reads' HO243.out).2.2 | (with_reducible refine Kd.C_alloc ?_ _) | (with_reducible refine Kd.C_drewN ?_ _) | (with_reducible refine Kd.C_drew ?_))); (case side2 => exact (Kd.R_reads' HO243.out).2.1); (case side3 => repeat (first | exact (Kd.R_reads' HO261.out).2.2 | (with_reducible refine Kd.C_alloc ?_ _) | (with_reducible refine Kd.C_drewN ?_ _) | (with_reducible refine Kd.C_drew ?_))); (case side4 => exact (Kd.R_reads' HO261.out).2.1); rintro e w' ⟨rfl, ⟨nd, rfl⟩⟩) | ((with_reducible refine gate_dst (N := 53) rfl ?_); (try (refine gate_guard (by rfl) ?_; dsimp only)); refine Kd.R_lit k63 _ 63 ?hg (N := 53) ?hd (xs := ([(⟨0, 1⟩ : S63), (⟨0, 1⟩ : S63), (⟨1, 2⟩ : S63)] : List (S63))) (inner := [.int .i64 0, .int .i64 1, .int .i64 0, .int .i64 1, .int .i64 1, .int .i64 2]) (ok := fun _ => True) (okp := fun _ => True) ?hr ?hp (fun _ hk => hk) trivial (Below.refl _ _) (Nat.le_refl _) (by simp) ?_; (case hd => rfl); (case hg => rfl); (case hr => first | (go_simp; done) | (go_simp; rfl)); (case hp => exact (Reps.c2 (show Kd.M k63 _ _ _ (⟨0, 1⟩ : S63) [.int .i64 0, .int .i64 1] from (k63_mkM _ _ _ (⟨0, 1⟩ : S63) )) (Reps.c2 (show Kd.M k63 _ _ _ (⟨0, 1⟩ : S63) [.int .i64 0, .int .i64 1] from (k63_mkM _ _ _ (⟨0, 1⟩ : S63) )) (Reps.c2 (show Kd.M k63 _ _ _ (⟨1, 2⟩ : S63) [.int .i64 1, .int .i64 2] from (k63_mkM _ _ _ (⟨1, 2⟩ : S63) )) (Reps.none _ _))))); intro v264 w21 ho22 hb hg_ hnew_; clear hg_ hnew_; (first | rw [← Ny263.out] at ho22 | (simp only [Int.reduceToNat] at ho22; rw [← Ny263.out] at ho22)); have n0_ := Aside0.mk (Kd.R_elder' (by (with_reducible repeat (first | apply Kd.R_alloc | apply Kd.R_drewN | apply Kd.R_drew)); exact HO243.out) (Kd.R_base ho22) hb); have n1_ := Aside0.mk (Kd.R_elder' (by (with_reducible repeat (first | apply Kd.R_alloc | apply Kd.R_drewN | apply Kd.R_drew)); exact HO247.out) (Kd.R_base ho22) hb); have n2_ := Aside0.mk (Kd.R_below (by (with_reducible repeat (first | apply Kd.R_alloc | apply Kd.R_drewN | apply Kd.R_drew)); exact HO251.out) hb); have n3_ := Aside0.mk (Kd.R_below (by (with_reducible repeat (first | apply Kd.R_alloc | apply Kd.R_drewN | apply Kd.R_drew)); exact HO258.out) hb); have n4_ := Aside0.mk (Kd.R_elder' (by (with_reducible repeat (first | apply Kd.R_alloc | apply Kd.R_drewN | apply Kd.R_drew)); exact HO261.out) (Kd.R_base ho22) hb); have n5_ := Aside0.mk (Kd.R_lower (Kd.R_new' (Kd.R_new' (Kd.R_new' ho22 (Kd.R_lt (by (with_reducible repeat (first | apply Kd.R_alloc | apply Kd.R_drewN | apply Kd.R_drew)); exact HO243.out))) (Kd.R_lt (by (with_reducible repeat (first | apply Kd.R_alloc | apply Kd.R_drewN | apply Kd.R_drew)); exact HO247.out))) (Kd.R_lt (by (with_reducible repeat (first | apply Kd.R_alloc | apply Kd.R_drewN | apply Kd.R_drew)); exact HO261.out))) (below_size (by repeat (first | (with_reducible first | exact HB.out | apply below_alloc | apply pw_below_drewN | apply below_drew1) | exact HB.out)))); have n6_ := Aside0.mk (below_step (by repeat (first | (with_reducible first | exact HB.out | apply below_alloc | apply pw_below_drewN | apply below_drew1) | exact HB.out)) hb); clear HO243; clear HO247; clear HO251; clear HO258; clear HO261; clear HB; have HO243 := n0_; have HO247 := n1_; have HO251 := n2_; have HO258 := n3_; have HO261 := n4_; have HO265 := n5_; have HB := n6_; clear n0_ n1_ n2_ n3_ n4_ n5_ n6_; clear hb ho22; obtain ⟨Ao23, co23, eo23⟩ := Kd.R_slice HO247.out; subst eo23; obtain ⟨Ao24, co24, eo24⟩ := Kd.R_slice HO265.out; subst eo24) | (go_at_call 26; (with_reducible refine (numnahref09_Same.calls k _ _ t244 _ _ y263 t266 _ ?side1 ?side2 ?side3 ?side4 A16.out).mono ?_); (case side1 => repeat (first | exact (Kd.R_reads' HO247.out).2.2 | (with_reducible refine Kd.C_alloc ?_ _) | (with_reducible refine Kd.C_drewN ?_ _) | (with_reducible refine Kd.C_drew ?_))); (case side2 => exact (Kd.R_reads' HO247.out).2.1); (case side3 => repeat (first | exact (Kd.R_reads' HO265.out).2.2 | (with_reducible refine Kd.C_alloc ?_ _) | (with_reducible refine Kd.C_drewN ?_ _) | (with_reducible refine Kd.C_drew ?_))); (case side4 => exact (Kd.R_reads' HO265.out).2.1); rintro e w' ⟨rfl, ⟨nd, rfl⟩⟩))
     go_meet
     case rel => exact ⟨_, (!t266), (by first | rfl | (simp; done) | (simp [*]; done)), H', ⟨by first | omega | exact Nat.le_refl _⟩, ⟨by (with_reducible repeat (first | apply Kd.R_alloc | apply Kd.R_drewN | apply Kd.R_drew)); exact Kd.R_mono HO251.out (fun _ hk => hk.2)⟩, ⟨by (with_reducible repeat (first | apply Kd.R_alloc | apply Kd.R_drewN | apply Kd.R_drew)); exact Kd.R_mono HO258.out (fun _ hk => hk.2)⟩, ⟨by repeat (first | (with_reducible first | exact HB.out | apply below_alloc | apply pw_below_drewN | apply below_drew1) | exact HB.out)⟩⟩
    ·rw [if_neg c15] at H
     have c15b0 : (t245 == 0) = false := beq_eq_false_iff_ne.mpr c15
     have c15b1 : (t245 != 0) = true := bne_iff_ne.mpr c15
     have H' := Aside0.mk H
     clear H
     go_wp2_with (first | ((with_reducible refine gate_dst (N := 40) rfl ?_); (try (refine gate_guard (by rfl) ?_; dsimp only)); refine Kd.R_lit k63 _ 63 ?hg (N := 40) ?hd (xs := ([(⟨(-1), 1⟩ : S63), (⟨(-1), 1⟩ : S63), (⟨0, 2⟩ : S63)] : List (S63))) (inner := [.int .i64 (-1), .int .i64 1, .int .i64 (-1), .int .i64 1, .int .i64 0, .int .i64 2]) (ok := fun _ => True) (okp := fun _ => True) ?hr ?hp (fun _ hk => hk) trivial (Below.refl _ _) (Nat.le_refl _) (by simp) ?_; (case hd => rfl); (case hg => rfl); (case hr => first | (go_simp; done) | (go_simp; rfl)); (case hp => exact (Reps.c2 (show Kd.M k63 _ _ _ (⟨(-1), 1⟩ : S63) [.int .i64 (-1), .int .i64 1] from (k63_mkM _ _ _ (⟨(-1), 1⟩ : S63) )) (Reps.c2 (show Kd.M k63 _ _ _ (⟨(-1), 1⟩ : S63) [.int .i64 (-1), .int .i64 1] from (k63_mkM _ _ _ (⟨(-1), 1⟩ : S63) )) (Reps.c2 (show Kd.M k63 _ _ _ (⟨0, 2⟩ : S63) [.int .i64 0, .int .i64 2] from (k63_mkM _ _ _ (⟨0, 2⟩ : S63) )) (Reps.none _ _))))); intro v260 w25 ho26 hb hg_ hnew_; clear hg_ hnew_; (first | rw [← Ny259.out] at ho26 | (simp only [Int.reduceToNat] at ho26; rw [← Ny259.out] at ho26)); have n0_ := Aside0.mk (Kd.R_elder' (by (with_reducible repeat (first | apply Kd.R_alloc | apply Kd.R_drewN | apply Kd.R_drew)); exact HO243.out) (Kd.R_base ho26) hb); have n1_ := Aside0.mk (Kd.R_elder' (by (with_reducible repeat (first | apply Kd.R_alloc | apply Kd.R_drewN | apply Kd.R_drew)); exact HO247.out) (Kd.R_base ho26) hb); have n2_ := Aside0.mk (Kd.R_below (by (with_reducible repeat (first | apply Kd.R_alloc | apply Kd.R_drewN | apply Kd.R_drew)); exact HO251.out) hb); have n3_ := Aside0.mk (Kd.R_below (by (with_reducible repeat (first | apply Kd.R_alloc | apply Kd.R_drewN | apply Kd.R_drew)); exact HO258.out) hb); have n4_ := Aside0.mk (Kd.R_lower (Kd.R_new' (Kd.R_new' ho26 (Kd.R_lt (by (with_reducible repeat (first | apply Kd.R_alloc | apply Kd.R_drewN | apply Kd.R_drew)); exact HO243.out))) (Kd.R_lt (by (with_reducible repeat (first | apply Kd.R_alloc | apply Kd.R_drewN | apply Kd.R_drew)); exact HO247.out))) (below_size (by repeat (first | (with_reducible first | exact HB.out | apply below_alloc | apply pw_below_drewN | apply below_drew1) | exact HB.out)))); have n5_ := Aside0.mk (below_step (by repeat (first | (with_reducible first | exact HB.out | apply below_alloc | apply pw_below_drewN | apply below_drew1) | exact HB.out)) hb); clear HO243; clear HO247; clear HO251; clear HO258; clear HB; have HO243 := n0_; have HO247 := n1_; have HO251 := n2_; have HO258 := n3_; have HO261 := n4_; have HB := n5_; clear n0_ n1_ n2_ n3_ n4_ n5_; clear hb ho26; obtain ⟨Ao27, co27, eo27⟩ := Kd.R_slice HO243.out; subst eo27; obtain ⟨Ao28, co28, eo28⟩ := Kd.R_slice HO261.out; subst eo28) | (go_at_call 26; (with_reducible refine (numnahref09_Same.calls k _ _ t240 _ _ y259 true _ ?side1 ?side2 ?side3 ?side4 A13.out).mono ?_); (case side1 => repeat (first | exact (Kd.R_reads' HO243.out).2.2 | (with_reducible refine Kd.C_alloc ?_ _) | (with_reducible refine Kd.C_drewN ?_ _) | (with_reducible refine Kd.C_drew ?_))); (case side2 => exact (Kd.R_reads' HO243.out).2.1); (case side3 => repeat (first | exact (Kd.R_reads' HO261.out).2.2 | (with_reducible refine Kd.C_alloc ?_ _) | (with_reducible refine Kd.C_drewN ?_ _) | (with_reducible refine Kd.C_drew ?_))); (case side4 => exact (Kd.R_reads' HO261.out).2.1); rintro e w' ⟨rfl, ⟨nd, rfl⟩⟩))
     go_meet
     case rel => exact ⟨_, (true), (by first | rfl | (simp; done) | (simp [*]; done)), H', ⟨by first | omega | exact Nat.le_refl _⟩, ⟨by (with_reducible repeat (first | apply Kd.R_alloc | apply Kd.R_drewN | apply Kd.R_drew)); exact Kd.R_mono HO251.out (fun _ hk => hk.2)⟩, ⟨by (with_reducible repeat (first | apply Kd.R_alloc | apply Kd.R_drewN | apply Kd.R_drew)); exact Kd.R_mono HO258.out (fun _ hk => hk.2)⟩, ⟨by repeat (first | (with_reducible first | exact HB.out | apply below_alloc | apply pw_below_drewN | apply below_drew1) | exact HB.out)⟩⟩
   ·replace c14 := Bool.eq_false_iff.mpr c14
    subst c14
    have H1 : (numnahlaw09_awake.j0 k t248 t249 t252 t253 t254 t255 t256 true) = some r := by rw [if_neg (show ¬ (false = true) by decide)] at H; exact H
    clear H
    have H := H1
    clear H1
    have H' := Aside0.mk H
    clear H
    go_wp2_with (first | ((with_reducible refine gate_dst (N := 40) rfl ?_); (try (refine gate_guard (by rfl) ?_; dsimp only)); refine Kd.R_lit k63 _ 63 ?hg (N := 40) ?hd (xs := ([(⟨(-1), 1⟩ : S63), (⟨(-1), 1⟩ : S63), (⟨0, 2⟩ : S63)] : List (S63))) (inner := [.int .i64 (-1), .int .i64 1, .int .i64 (-1), .int .i64 1, .int .i64 0, .int .i64 2]) (ok := fun _ => True) (okp := fun _ => True) ?hr ?hp (fun _ hk => hk) trivial (Below.refl _ _) (Nat.le_refl _) (by simp) ?_; (case hd => rfl); (case hg => rfl); (case hr => first | (go_simp; done) | (go_simp; rfl)); (case hp => exact (Reps.c2 (show Kd.M k63 _ _ _ (⟨(-1), 1⟩ : S63) [.int .i64 (-1), .int .i64 1] from (k63_mkM _ _ _ (⟨(-1), 1⟩ : S63) )) (Reps.c2 (show Kd.M k63 _ _ _ (⟨(-1), 1⟩ : S63) [.int .i64 (-1), .int .i64 1] from (k63_mkM _ _ _ (⟨(-1), 1⟩ : S63) )) (Reps.c2 (show Kd.M k63 _ _ _ (⟨0, 2⟩ : S63) [.int .i64 0, .int .i64 2] from (k63_mkM _ _ _ (⟨0, 2⟩ : S63) )) (Reps.none _ _))))); intro v260 w29 ho30 hb hg_ hnew_; clear hg_ hnew_; (first | rw [← Ny259.out] at ho30 | (simp only [Int.reduceToNat] at ho30; rw [← Ny259.out] at ho30)); have n0_ := Aside0.mk (Kd.R_elder' (by (with_reducible repeat (first | apply Kd.R_alloc | apply Kd.R_drewN | apply Kd.R_drew)); exact HO243.out) (Kd.R_base ho30) hb); have n1_ := Aside0.mk (Kd.R_elder' (by (with_reducible repeat (first | apply Kd.R_alloc | apply Kd.R_drewN | apply Kd.R_drew)); exact HO247.out) (Kd.R_base ho30) hb); have n2_ := Aside0.mk (Kd.R_below (by (with_reducible repeat (first | apply Kd.R_alloc | apply Kd.R_drewN | apply Kd.R_drew)); exact HO251.out) hb); have n3_ := Aside0.mk (Kd.R_below (by (with_reducible repeat (first | apply Kd.R_alloc | apply Kd.R_drewN | apply Kd.R_drew)); exact HO258.out) hb); have n4_ := Aside0.mk (Kd.R_lower (Kd.R_new' (Kd.R_new' ho30 (Kd.R_lt (by (with_reducible repeat (first | apply Kd.R_alloc | apply Kd.R_drewN | apply Kd.R_drew)); exact HO243.out))) (Kd.R_lt (by (with_reducible repeat (first | apply Kd.R_alloc | apply Kd.R_drewN | apply Kd.R_drew)); exact HO247.out))) (below_size (by repeat (first | (with_reducible first | exact HB.out | apply below_alloc | apply pw_below_drewN | apply below_drew1) | exact HB.out)))); have n5_ := Aside0.mk (below_step (by repeat (first | (with_reducible first | exact HB.out | apply below_alloc | apply pw_below_drewN | apply below_drew1) | exact HB.out)) hb); clear HO243; clear HO247; clear HO251; clear HO258; clear HB; have HO243 := n0_; have HO247 := n1_; have HO251 := n2_; have HO258 := n3_; have HO261 := n4_; have HB := n5_; clear n0_ n1_ n2_ n3_ n4_ n5_; clear hb ho30; obtain ⟨Ao31, co31, eo31⟩ := Kd.R_slice HO243.out; subst eo31; obtain ⟨Ao32, co32, eo32⟩ := Kd.R_slice HO261.out; subst eo32) | (go_at_call 26; (with_reducible refine (numnahref09_Same.calls k _ _ t240 _ _ y259 false _ ?side1 ?side2 ?side3 ?side4 A13.out).mono ?_); (case side1 => repeat (first | exact (Kd.R_reads' HO243.out).2.2 | (with_reducible refine Kd.C_alloc ?_ _) | (with_reducible refine Kd.C_drewN ?_ _) | (with_reducible refine Kd.C_drew ?_))); (case side2 => exact (Kd.R_reads' HO243.out).2.1); (case side3 => repeat (first | exact (Kd.R_reads' HO261.out).2.2 | (with_reducible refine Kd.C_alloc ?_ _) | (with_reducible refine Kd.C_drewN ?_ _) | (with_reducible refine Kd.C_drew ?_))); (case side4 => exact (Kd.R_reads' HO261.out).2.1); rintro e w' ⟨rfl, ⟨nd, rfl⟩⟩))
    go_meet
    case rel => exact ⟨_, (true), (by first | rfl | (simp; done) | (simp [*]; done)), H', ⟨by first | omega | exact Nat.le_refl _⟩, ⟨by (with_reducible repeat (first | apply Kd.R_alloc | apply Kd.R_drewN | apply Kd.R_drew)); exact Kd.R_mono HO251.out (fun _ hk => hk.2)⟩, ⟨by (with_reducible repeat (first | apply Kd.R_alloc | apply Kd.R_drewN | apply Kd.R_drew)); exact Kd.R_mono HO258.out (fun _ hk => hk.2)⟩, ⟨by repeat (first | (with_reducible first | exact HB.out | apply below_alloc | apply pw_below_drewN | apply below_drew1) | exact HB.out)⟩⟩
  ·rw [if_neg c12] at H
   have c12b0 : (t241 == 0) = false := beq_eq_false_iff_ne.mpr c12
   have c12b1 : (t241 != 0) = true := bne_iff_ne.mpr c12
   (first | rw [c12b0] | (simp only [i64_w, i32_w]; rw [c12b0]) | skip)
   have H' := Aside0.mk H
   clear H
   go_wp2
   go_meet
   case rel => exact ⟨_, (true), (by first | rfl | (simp; done) | (simp [*]; done)), H', ⟨by first | omega | exact Nat.le_refl _⟩, ⟨by (with_reducible repeat (first | apply Kd.R_alloc | apply Kd.R_drewN | apply Kd.R_drew)); exact Kd.R_mono HO251.out (fun _ hk => hk.2)⟩, ⟨by (with_reducible repeat (first | apply Kd.R_alloc | apply Kd.R_drewN | apply Kd.R_drew)); exact Kd.R_mono HO258.out (fun _ hk => hk.2)⟩, ⟨by repeat (first | (with_reducible first | exact HB.out | apply below_alloc | apply pw_below_drewN | apply below_drew1) | exact HB.out)⟩⟩
 case rest =>
  clear HC6
  try clear c1
  try clear c2
  try clear p2
  try clear c3
  try clear c4
  try clear c12
  try clear c12b0
  try clear c12b1
  try clear c14
  try clear c15
  try clear c15b0
  try clear c15b1
  try clear c22
  try clear c23
  try clear c25
  try clear c30
  try clear c32
  obtain ⟨kq, x56_5, rfl, HA, HJ5, HO_5, HO_10, HB⟩ := hcut
  cases kq with
  | zero => exact absurd HA.out (by simp [numnahlaw09_awake.j0])
  | succ kj5 =>
   have H := HA.out
   clear HA
   simp only [numnahlaw09_awake.j0] at H
   by_cases c33 : x56_5 = true
   ·subst c33
    have H1 : (some false) = some r := by rw [if_pos rfl] at H; exact H
    clear H
    have H := H1
    clear H1
    obtain rfl := Option.some.inj H
    go_wp2
    go_ret
    exact ⟨by first | rfl | (simp [errW_none, errW_some] <;> rfl) | (simp [*, errW_none, errW_some] <;> rfl), by repeat (first | (with_reducible first | exact HB.out | apply below_alloc | apply pw_below_drewN | apply below_drew1) | exact HB.out)⟩
   ·replace c33 := Bool.eq_false_iff.mpr c33
    subst c33
    have H1 : (if t249 = 0 then ((numnahlaw09_ints.f kj5 t248 (([1, 2, 2, 2, 1] : List Int))).bind fun t270 => (if t270 = true then (if t254 = 0 then (if t252.toList = ([98, 98, 97, 97] : List UInt8) then (if t253 = 0 then (if t256 = 0 then ((numnahlaw09_ints.f kj5 t255 (([0, 1] : List Int))).bind fun t274 => (numnahlaw09_awake.j1 kj5 (!t274))) else (numnahlaw09_awake.j1 kj5 true)) else (numnahlaw09_awake.j1 kj5 true)) else (numnahlaw09_awake.j1 kj5 true)) else (numnahlaw09_awake.j1 kj5 true)) else (numnahlaw09_awake.j1 kj5 true))) else (numnahlaw09_awake.j1 kj5 true)) = some r := by rw [if_neg (show ¬ (false = true) by decide)] at H; exact H
    clear H
    have H := H1
    clear H1
    have HC34 := Aside0.mk H
    clear H
    go_upto_region 8 with (fail)
    go_cut [86] (fun v86 wc => ∃ (kq : Nat) (x86_33 : Bool), v86 = .bool x86_33 ∧ Aside0 (numnahlaw09_awake.j1 kq x86_33 = some r) ∧ Aside0 (kq ≤ kj5) ∧ Aside0 (Below w.heap.size w wc))
    case first =>
     have H := HC34.out
     clear HC34
     by_cases c35 : t249 = 0
     ·rw [if_pos c35] at H
      have c35b0 : (t249 == 0) = true := beq_iff_eq.mpr c35
      have c35b1 : (t249 != 0) = false := bne_eq_false_iff_eq.mpr c35
      clear c35
      (first | rw [c35b0] | (simp only [i64_w, i32_w]; rw [c35b0]) | skip)
      obtain ⟨y267, hy267⟩ : ∃ y_ : List Int, y_ = (([1, 2, 2, 2, 1] : List Int)) := ⟨_, rfl⟩
      replace H : ((numnahlaw09_ints.f kj5 t248 y267).bind fun t270 => (if t270 = true then (if t254 = 0 then (if t252.toList = ([98, 98, 97, 97] : List UInt8) then (if t253 = 0 then (if t256 = 0 then ((numnahlaw09_ints.f kj5 t255 (([0, 1] : List Int))).bind fun t274 => (numnahlaw09_awake.j1 kj5 (!t274))) else (numnahlaw09_awake.j1 kj5 true)) else (numnahlaw09_awake.j1 kj5 true)) else (numnahlaw09_awake.j1 kj5 true)) else (numnahlaw09_awake.j1 kj5 true)) else (numnahlaw09_awake.j1 kj5 true))) = some r := by first | (rw [hy267]; with_reducible exact H) | (have H2_ := (Option.bind_some _ _).symm.trans H; rw [hy267]; with_reducible exact H2_) | (have H2_ := (Option.bind_some _ _).symm.trans H; with_reducible exact H2_) | with_reducible exact H | (rw [hy267]; exact H) | exact H
      have Ny267 := Aside0.mk hy267
      clear hy267
      replace H := Option.bind_eq_some_iff.mp H
      obtain ⟨t270, A360, H⟩ := H
      replace H : (if t270 = true then (if t254 = 0 then (if t252.toList = ([98, 98, 97, 97] : List UInt8) then (if t253 = 0 then (if t256 = 0 then ((numnahlaw09_ints.f kj5 t255 (([0, 1] : List Int))).bind fun t274 => (numnahlaw09_awake.j1 kj5 (!t274))) else (numnahlaw09_awake.j1 kj5 true)) else (numnahlaw09_awake.j1 kj5 true)) else (numnahlaw09_awake.j1 kj5 true)) else (numnahlaw09_awake.j1 kj5 true)) else (numnahlaw09_awake.j1 kj5 true)) = some r := H
      have A36 := Aside0.mk A360
      clear A360
      by_cases c37 : t270 = true
      ·subst c37
       have H1 : (if t254 = 0 then (if t252.toList = ([98, 98, 97, 97] : List UInt8) then (if t253 = 0 then (if t256 = 0 then ((numnahlaw09_ints.f kj5 t255 (([0, 1] : List Int))).bind fun t274 => (numnahlaw09_awake.j1 kj5 (!t274))) else (numnahlaw09_awake.j1 kj5 true)) else (numnahlaw09_awake.j1 kj5 true)) else (numnahlaw09_awake.j1 kj5 true)) else (numnahlaw09_awake.j1 kj5 true)) = some r := by rw [if_pos rfl] at H; exact H
       clear H
       have H := H1
       clear H1
       by_cases c38 : t254 = 0
       ·rw [if_pos c38] at H
        have c38b0 : (t254 == 0) = true := beq_iff_eq.mpr c38
        have c38b1 : (t254 != 0) = false := bne_eq_false_iff_eq.mpr c38
        clear c38
        by_cases c39 : t252.toList = ([98, 98, 97, 97] : List UInt8)
        ·rw [if_pos c39] at H
         have c39b0 : (t252.toList == ([98, 98, 97, 97] : List UInt8)) = true := beq_iff_eq.mpr c39
         have c39b1 : (t252.toList != ([98, 98, 97, 97] : List UInt8)) = false := bne_eq_false_iff_eq.mpr c39
         clear c39
         by_cases c40 : t253 = 0
         ·rw [if_pos c40] at H
          have c40b0 : (t253 == 0) = true := beq_iff_eq.mpr c40
          have c40b1 : (t253 != 0) = false := bne_eq_false_iff_eq.mpr c40
          clear c40
          by_cases c41 : t256 = 0
          ·rw [if_pos c41] at H
           have c41b0 : (t256 == 0) = true := beq_iff_eq.mpr c41
           have c41b1 : (t256 != 0) = false := bne_eq_false_iff_eq.mpr c41
           clear c41
           obtain ⟨y271, hy271⟩ : ∃ y_ : List Int, y_ = (([0, 1] : List Int)) := ⟨_, rfl⟩
           replace H : ((numnahlaw09_ints.f kj5 t255 y271).bind fun t274 => (numnahlaw09_awake.j1 kj5 (!t274))) = some r := by first | (rw [hy271]; with_reducible exact H) | (have H2_ := (Option.bind_some _ _).symm.trans H; rw [hy271]; with_reducible exact H2_) | (have H2_ := (Option.bind_some _ _).symm.trans H; with_reducible exact H2_) | with_reducible exact H | (rw [hy271]; exact H) | exact H
           have Ny271 := Aside0.mk hy271
           clear hy271
           replace H := Option.bind_eq_some_iff.mp H
           obtain ⟨t274, A420, H⟩ := H
           replace H : (numnahlaw09_awake.j1 kj5 (!t274)) = some r := H
           have A42 := Aside0.mk A420
           clear A420
           have H' := Aside0.mk H
           clear H
           go_wp2_with (first | ((with_reducible refine gate_dst (N := 61) rfl ?_); (try (refine gate_guard (by rfl) ?_; dsimp only)); refine Kd.R_lit (Kd.int .i64) _ 3 ?hg (N := 61) ?hd (xs := ([1, 2, 2, 2, 1] : List Int)) (inner := [.int .i64 1, .int .i64 2, .int .i64 2, .int .i64 2, .int .i64 1]) (ok := fun _ => True) (okp := fun _ => True) ?hr ?hp (fun _ hk => hk) trivial (Below.refl _ _) (Nat.le_refl _) (by simp) ?_; (case hd => rfl); (case hg => rfl); (case hr => first | (go_simp; done) | (go_simp; rfl)); (case hp => exact (Reps.one (show Kd.M (Kd.int .i64) _ _ _ 1 [.int .i64 1] from rfl) (Reps.one (show Kd.M (Kd.int .i64) _ _ _ 2 [.int .i64 2] from rfl) (Reps.one (show Kd.M (Kd.int .i64) _ _ _ 2 [.int .i64 2] from rfl) (Reps.one (show Kd.M (Kd.int .i64) _ _ _ 2 [.int .i64 2] from rfl) (Reps.one (show Kd.M (Kd.int .i64) _ _ _ 1 [.int .i64 1] from rfl) (Reps.none _ _))))))); intro v268 w43 ho44 hb hg_ hnew_; clear hg_ hnew_; (first | rw [← Ny267.out] at ho44 | (simp only [Int.reduceToNat] at ho44; rw [← Ny267.out] at ho44)); have n0_ := Aside0.mk (Kd.R_elder' (by (with_reducible repeat (first | apply Kd.R_alloc | apply Kd.R_drewN | apply Kd.R_drew)); exact HO_5.out) (Kd.R_base ho44) hb); have n1_ := Aside0.mk (Kd.R_elder' (by (with_reducible repeat (first | apply Kd.R_alloc | apply Kd.R_drewN | apply Kd.R_drew)); exact HO_10.out) (Kd.R_base ho44) hb); have n2_ := Aside0.mk (Kd.R_lower (Kd.R_new' (Kd.R_new' ho44 (Kd.R_lt (by (with_reducible repeat (first | apply Kd.R_alloc | apply Kd.R_drewN | apply Kd.R_drew)); exact HO_5.out))) (Kd.R_lt (by (with_reducible repeat (first | apply Kd.R_alloc | apply Kd.R_drewN | apply Kd.R_drew)); exact HO_10.out))) (below_size (by repeat (first | (with_reducible first | exact HB.out | apply below_alloc | apply pw_below_drewN | apply below_drew1) | exact HB.out)))); have n3_ := Aside0.mk (below_step (by repeat (first | (with_reducible first | exact HB.out | apply below_alloc | apply pw_below_drewN | apply below_drew1) | exact HB.out)) hb); clear HO_5; clear HO_10; clear HB; have HO_5 := n0_; have HO_10 := n1_; have HO269 := n2_; have HB := n3_; clear n0_ n1_ n2_ n3_; clear hb ho44; obtain ⟨Ao45, co45, eo45⟩ := Kd.R_slice HO_5.out; subst eo45; obtain ⟨Ao46, co46, eo46⟩ := Kd.R_slice HO269.out; subst eo46) | (go_at_call 41; (with_reducible refine (numnahlaw09_ints.calls kj5 _ _ t248 _ _ y267 true _ ?side1 ?side2 ?side3 ?side4 A36.out).mono ?_); (case side1 => repeat (first | exact (Kd.R_reads' HO_5.out).2.2 | (with_reducible refine Kd.C_alloc ?_ _) | (with_reducible refine Kd.C_drewN ?_ _) | (with_reducible refine Kd.C_drew ?_))); (case side2 => exact (Kd.R_reads' HO_5.out).2.1); (case side3 => repeat (first | exact (Kd.R_reads' HO269.out).2.2 | (with_reducible refine Kd.C_alloc ?_ _) | (with_reducible refine Kd.C_drewN ?_ _) | (with_reducible refine Kd.C_drew ?_))); (case side4 => exact (Kd.R_reads' HO269.out).2.1); rintro e w' ⟨rfl, ⟨nd, rfl⟩⟩) | ((with_reducible refine gate_dst (N := 83) rfl ?_); (try (refine gate_guard (by rfl) ?_; dsimp only)); refine Kd.R_lit (Kd.int .i64) _ 3 ?hg (N := 83) ?hd (xs := ([0, 1] : List Int)) (inner := [.int .i64 0, .int .i64 1]) (ok := fun _ => True) (okp := fun _ => True) ?hr ?hp (fun _ hk => hk) trivial (Below.refl _ _) (Nat.le_refl _) (by simp) ?_; (case hd => rfl); (case hg => rfl); (case hr => first | (go_simp; done) | (go_simp; rfl)); (case hp => exact (Reps.one (show Kd.M (Kd.int .i64) _ _ _ 0 [.int .i64 0] from rfl) (Reps.one (show Kd.M (Kd.int .i64) _ _ _ 1 [.int .i64 1] from rfl) (Reps.none _ _)))); intro v272 w47 ho48 hb hg_ hnew_; clear hg_ hnew_; (first | rw [← Ny271.out] at ho48 | (simp only [Int.reduceToNat] at ho48; rw [← Ny271.out] at ho48)); have n0_ := Aside0.mk (Kd.R_elder' (by (with_reducible repeat (first | apply Kd.R_alloc | apply Kd.R_drewN | apply Kd.R_drew)); exact HO_5.out) (Kd.R_base ho48) hb); have n1_ := Aside0.mk (Kd.R_elder' (by (with_reducible repeat (first | apply Kd.R_alloc | apply Kd.R_drewN | apply Kd.R_drew)); exact HO_10.out) (Kd.R_base ho48) hb); have n2_ := Aside0.mk (Kd.R_elder' (by (with_reducible repeat (first | apply Kd.R_alloc | apply Kd.R_drewN | apply Kd.R_drew)); exact HO269.out) (Kd.R_base ho48) hb); have n3_ := Aside0.mk (Kd.R_lower (Kd.R_new' (Kd.R_new' (Kd.R_new' ho48 (Kd.R_lt (by (with_reducible repeat (first | apply Kd.R_alloc | apply Kd.R_drewN | apply Kd.R_drew)); exact HO_5.out))) (Kd.R_lt (by (with_reducible repeat (first | apply Kd.R_alloc | apply Kd.R_drewN | apply Kd.R_drew)); exact HO_10.out))) (Kd.R_lt (by (with_reducible repeat (first | apply Kd.R_alloc | apply Kd.R_drewN | apply Kd.R_drew)); exact HO269.out))) (below_size (by repeat (first | (with_reducible first | exact HB.out | apply below_alloc | apply pw_below_drewN | apply below_drew1) | exact HB.out)))); have n4_ := Aside0.mk (below_step (by repeat (first | (with_reducible first | exact HB.out | apply below_alloc | apply pw_below_drewN | apply below_drew1) | exact HB.out)) hb); clear HO_5; clear HO_10; clear HO269; clear HB; have HO_5 := n0_; have HO_10 := n1_; have HO269 := n2_; have HO273 := n3_; have HB := n4_; clear n0_ n1_ n2_ n3_ n4_; clear hb ho48; obtain ⟨Ao49, co49, eo49⟩ := Kd.R_slice HO_10.out; subst eo49; obtain ⟨Ao50, co50, eo50⟩ := Kd.R_slice HO273.out; subst eo50) | (go_at_call 41; (with_reducible refine (numnahlaw09_ints.calls kj5 _ _ t255 _ _ y271 t274 _ ?side1 ?side2 ?side3 ?side4 A42.out).mono ?_); (case side1 => repeat (first | exact (Kd.R_reads' HO_10.out).2.2 | (with_reducible refine Kd.C_alloc ?_ _) | (with_reducible refine Kd.C_drewN ?_ _) | (with_reducible refine Kd.C_drew ?_))); (case side2 => exact (Kd.R_reads' HO_10.out).2.1); (case side3 => repeat (first | exact (Kd.R_reads' HO273.out).2.2 | (with_reducible refine Kd.C_alloc ?_ _) | (with_reducible refine Kd.C_drewN ?_ _) | (with_reducible refine Kd.C_drew ?_))); (case side4 => exact (Kd.R_reads' HO273.out).2.1); rintro e w' ⟨rfl, ⟨nd, rfl⟩⟩))
           go_meet
           case rel => exact ⟨_, (!t274), (by first | rfl | (simp; done) | (simp [*]; done)), H', ⟨by have := HJ5.out; first | omega | exact Nat.le_refl _⟩, ⟨by repeat (first | (with_reducible first | exact HB.out | apply below_alloc | apply pw_below_drewN | apply below_drew1) | exact HB.out)⟩⟩
          ·rw [if_neg c41] at H
           have c41b0 : (t256 == 0) = false := beq_eq_false_iff_ne.mpr c41
           have c41b1 : (t256 != 0) = true := bne_iff_ne.mpr c41
           have H' := Aside0.mk H
           clear H
           go_wp2_with (first | ((with_reducible refine gate_dst (N := 61) rfl ?_); (try (refine gate_guard (by rfl) ?_; dsimp only)); refine Kd.R_lit (Kd.int .i64) _ 3 ?hg (N := 61) ?hd (xs := ([1, 2, 2, 2, 1] : List Int)) (inner := [.int .i64 1, .int .i64 2, .int .i64 2, .int .i64 2, .int .i64 1]) (ok := fun _ => True) (okp := fun _ => True) ?hr ?hp (fun _ hk => hk) trivial (Below.refl _ _) (Nat.le_refl _) (by simp) ?_; (case hd => rfl); (case hg => rfl); (case hr => first | (go_simp; done) | (go_simp; rfl)); (case hp => exact (Reps.one (show Kd.M (Kd.int .i64) _ _ _ 1 [.int .i64 1] from rfl) (Reps.one (show Kd.M (Kd.int .i64) _ _ _ 2 [.int .i64 2] from rfl) (Reps.one (show Kd.M (Kd.int .i64) _ _ _ 2 [.int .i64 2] from rfl) (Reps.one (show Kd.M (Kd.int .i64) _ _ _ 2 [.int .i64 2] from rfl) (Reps.one (show Kd.M (Kd.int .i64) _ _ _ 1 [.int .i64 1] from rfl) (Reps.none _ _))))))); intro v268 w51 ho52 hb hg_ hnew_; clear hg_ hnew_; (first | rw [← Ny267.out] at ho52 | (simp only [Int.reduceToNat] at ho52; rw [← Ny267.out] at ho52)); have n0_ := Aside0.mk (Kd.R_elder' (by (with_reducible repeat (first | apply Kd.R_alloc | apply Kd.R_drewN | apply Kd.R_drew)); exact HO_5.out) (Kd.R_base ho52) hb); have n1_ := Aside0.mk (Kd.R_elder' (by (with_reducible repeat (first | apply Kd.R_alloc | apply Kd.R_drewN | apply Kd.R_drew)); exact HO_10.out) (Kd.R_base ho52) hb); have n2_ := Aside0.mk (Kd.R_lower (Kd.R_new' (Kd.R_new' ho52 (Kd.R_lt (by (with_reducible repeat (first | apply Kd.R_alloc | apply Kd.R_drewN | apply Kd.R_drew)); exact HO_5.out))) (Kd.R_lt (by (with_reducible repeat (first | apply Kd.R_alloc | apply Kd.R_drewN | apply Kd.R_drew)); exact HO_10.out))) (below_size (by repeat (first | (with_reducible first | exact HB.out | apply below_alloc | apply pw_below_drewN | apply below_drew1) | exact HB.out)))); have n3_ := Aside0.mk (below_step (by repeat (first | (with_reducible first | exact HB.out | apply below_alloc | apply pw_below_drewN | apply below_drew1) | exact HB.out)) hb); clear HO_5; clear HO_10; clear HB; have HO_5 := n0_; have HO_10 := n1_; have HO269 := n2_; have HB := n3_; clear n0_ n1_ n2_ n3_; clear hb ho52; obtain ⟨Ao53, co53, eo53⟩ := Kd.R_slice HO_5.out; subst eo53; obtain ⟨Ao54, co54, eo54⟩ := Kd.R_slice HO269.out; subst eo54) | (go_at_call 41; (with_reducible refine (numnahlaw09_ints.calls kj5 _ _ t248 _ _ y267 true _ ?side1 ?side2 ?side3 ?side4 A36.out).mono ?_); (case side1 => repeat (first | exact (Kd.R_reads' HO_5.out).2.2 | (with_reducible refine Kd.C_alloc ?_ _) | (with_reducible refine Kd.C_drewN ?_ _) | (with_reducible refine Kd.C_drew ?_))); (case side2 => exact (Kd.R_reads' HO_5.out).2.1); (case side3 => repeat (first | exact (Kd.R_reads' HO269.out).2.2 | (with_reducible refine Kd.C_alloc ?_ _) | (with_reducible refine Kd.C_drewN ?_ _) | (with_reducible refine Kd.C_drew ?_))); (case side4 => exact (Kd.R_reads' HO269.out).2.1); rintro e w' ⟨rfl, ⟨nd, rfl⟩⟩))
           go_meet
           case rel => exact ⟨_, (true), (by first | rfl | (simp; done) | (simp [*]; done)), H', ⟨by have := HJ5.out; first | omega | exact Nat.le_refl _⟩, ⟨by repeat (first | (with_reducible first | exact HB.out | apply below_alloc | apply pw_below_drewN | apply below_drew1) | exact HB.out)⟩⟩
         ·rw [if_neg c40] at H
          have c40b0 : (t253 == 0) = false := beq_eq_false_iff_ne.mpr c40
          have c40b1 : (t253 != 0) = true := bne_iff_ne.mpr c40
          have H' := Aside0.mk H
          clear H
          go_wp2_with (first | ((with_reducible refine gate_dst (N := 61) rfl ?_); (try (refine gate_guard (by rfl) ?_; dsimp only)); refine Kd.R_lit (Kd.int .i64) _ 3 ?hg (N := 61) ?hd (xs := ([1, 2, 2, 2, 1] : List Int)) (inner := [.int .i64 1, .int .i64 2, .int .i64 2, .int .i64 2, .int .i64 1]) (ok := fun _ => True) (okp := fun _ => True) ?hr ?hp (fun _ hk => hk) trivial (Below.refl _ _) (Nat.le_refl _) (by simp) ?_; (case hd => rfl); (case hg => rfl); (case hr => first | (go_simp; done) | (go_simp; rfl)); (case hp => exact (Reps.one (show Kd.M (Kd.int .i64) _ _ _ 1 [.int .i64 1] from rfl) (Reps.one (show Kd.M (Kd.int .i64) _ _ _ 2 [.int .i64 2] from rfl) (Reps.one (show Kd.M (Kd.int .i64) _ _ _ 2 [.int .i64 2] from rfl) (Reps.one (show Kd.M (Kd.int .i64) _ _ _ 2 [.int .i64 2] from rfl) (Reps.one (show Kd.M (Kd.int .i64) _ _ _ 1 [.int .i64 1] from rfl) (Reps.none _ _))))))); intro v268 w55 ho56 hb hg_ hnew_; clear hg_ hnew_; (first | rw [← Ny267.out] at ho56 | (simp only [Int.reduceToNat] at ho56; rw [← Ny267.out] at ho56)); have n0_ := Aside0.mk (Kd.R_elder' (by (with_reducible repeat (first | apply Kd.R_alloc | apply Kd.R_drewN | apply Kd.R_drew)); exact HO_5.out) (Kd.R_base ho56) hb); have n1_ := Aside0.mk (Kd.R_elder' (by (with_reducible repeat (first | apply Kd.R_alloc | apply Kd.R_drewN | apply Kd.R_drew)); exact HO_10.out) (Kd.R_base ho56) hb); have n2_ := Aside0.mk (Kd.R_lower (Kd.R_new' (Kd.R_new' ho56 (Kd.R_lt (by (with_reducible repeat (first | apply Kd.R_alloc | apply Kd.R_drewN | apply Kd.R_drew)); exact HO_5.out))) (Kd.R_lt (by (with_reducible repeat (first | apply Kd.R_alloc | apply Kd.R_drewN | apply Kd.R_drew)); exact HO_10.out))) (below_size (by repeat (first | (with_reducible first | exact HB.out | apply below_alloc | apply pw_below_drewN | apply below_drew1) | exact HB.out)))); have n3_ := Aside0.mk (below_step (by repeat (first | (with_reducible first | exact HB.out | apply below_alloc | apply pw_below_drewN | apply below_drew1) | exact HB.out)) hb); clear HO_5; clear HO_10; clear HB; have HO_5 := n0_; have HO_10 := n1_; have HO269 := n2_; have HB := n3_; clear n0_ n1_ n2_ n3_; clear hb ho56; obtain ⟨Ao57, co57, eo57⟩ := Kd.R_slice HO_5.out; subst eo57; obtain ⟨Ao58, co58, eo58⟩ := Kd.R_slice HO269.out; subst eo58) | (go_at_call 41; (with_reducible refine (numnahlaw09_ints.calls kj5 _ _ t248 _ _ y267 true _ ?side1 ?side2 ?side3 ?side4 A36.out).mono ?_); (case side1 => repeat (first | exact (Kd.R_reads' HO_5.out).2.2 | (with_reducible refine Kd.C_alloc ?_ _) | (with_reducible refine Kd.C_drewN ?_ _) | (with_reducible refine Kd.C_drew ?_))); (case side2 => exact (Kd.R_reads' HO_5.out).2.1); (case side3 => repeat (first | exact (Kd.R_reads' HO269.out).2.2 | (with_reducible refine Kd.C_alloc ?_ _) | (with_reducible refine Kd.C_drewN ?_ _) | (with_reducible refine Kd.C_drew ?_))); (case side4 => exact (Kd.R_reads' HO269.out).2.1); rintro e w' ⟨rfl, ⟨nd, rfl⟩⟩))
          go_meet
          case rel => exact ⟨_, (true), (by first | rfl | (simp; done) | (simp [*]; done)), H', ⟨by have := HJ5.out; first | omega | exact Nat.le_refl _⟩, ⟨by repeat (first | (with_reducible first | exact HB.out | apply below_alloc | apply pw_below_drewN | apply below_drew1) | exact HB.out)⟩⟩
        ·rw [if_neg c39] at H
         have c39b0 : (t252.toList == ([98, 98, 97, 97] : List UInt8)) = false := beq_eq_false_iff_ne.mpr c39
         have c39b1 : (t252.toList != ([98, 98, 97, 97] : List UInt8)) = true := bne_iff_ne.mpr c39
         have H' := Aside0.mk H
         clear H
         go_wp2_with (first | ((with_reducible refine gate_dst (N := 61) rfl ?_); (try (refine gate_guard (by rfl) ?_; dsimp only)); refine Kd.R_lit (Kd.int .i64) _ 3 ?hg (N := 61) ?hd (xs := ([1, 2, 2, 2, 1] : List Int)) (inner := [.int .i64 1, .int .i64 2, .int .i64 2, .int .i64 2, .int .i64 1]) (ok := fun _ => True) (okp := fun _ => True) ?hr ?hp (fun _ hk => hk) trivial (Below.refl _ _) (Nat.le_refl _) (by simp) ?_; (case hd => rfl); (case hg => rfl); (case hr => first | (go_simp; done) | (go_simp; rfl)); (case hp => exact (Reps.one (show Kd.M (Kd.int .i64) _ _ _ 1 [.int .i64 1] from rfl) (Reps.one (show Kd.M (Kd.int .i64) _ _ _ 2 [.int .i64 2] from rfl) (Reps.one (show Kd.M (Kd.int .i64) _ _ _ 2 [.int .i64 2] from rfl) (Reps.one (show Kd.M (Kd.int .i64) _ _ _ 2 [.int .i64 2] from rfl) (Reps.one (show Kd.M (Kd.int .i64) _ _ _ 1 [.int .i64 1] from rfl) (Reps.none _ _))))))); intro v268 w59 ho60 hb hg_ hnew_; clear hg_ hnew_; (first | rw [← Ny267.out] at ho60 | (simp only [Int.reduceToNat] at ho60; rw [← Ny267.out] at ho60)); have n0_ := Aside0.mk (Kd.R_elder' (by (with_reducible repeat (first | apply Kd.R_alloc | apply Kd.R_drewN | apply Kd.R_drew)); exact HO_5.out) (Kd.R_base ho60) hb); have n1_ := Aside0.mk (Kd.R_elder' (by (with_reducible repeat (first | apply Kd.R_alloc | apply Kd.R_drewN | apply Kd.R_drew)); exact HO_10.out) (Kd.R_base ho60) hb); have n2_ := Aside0.mk (Kd.R_lower (Kd.R_new' (Kd.R_new' ho60 (Kd.R_lt (by (with_reducible repeat (first | apply Kd.R_alloc | apply Kd.R_drewN | apply Kd.R_drew)); exact HO_5.out))) (Kd.R_lt (by (with_reducible repeat (first | apply Kd.R_alloc | apply Kd.R_drewN | apply Kd.R_drew)); exact HO_10.out))) (below_size (by repeat (first | (with_reducible first | exact HB.out | apply below_alloc | apply pw_below_drewN | apply below_drew1) | exact HB.out)))); have n3_ := Aside0.mk (below_step (by repeat (first | (with_reducible first | exact HB.out | apply below_alloc | apply pw_below_drewN | apply below_drew1) | exact HB.out)) hb); clear HO_5; clear HO_10; clear HB; have HO_5 := n0_; have HO_10 := n1_; have HO269 := n2_; have HB := n3_; clear n0_ n1_ n2_ n3_; clear hb ho60; obtain ⟨Ao61, co61, eo61⟩ := Kd.R_slice HO_5.out; subst eo61; obtain ⟨Ao62, co62, eo62⟩ := Kd.R_slice HO269.out; subst eo62) | (go_at_call 41; (with_reducible refine (numnahlaw09_ints.calls kj5 _ _ t248 _ _ y267 true _ ?side1 ?side2 ?side3 ?side4 A36.out).mono ?_); (case side1 => repeat (first | exact (Kd.R_reads' HO_5.out).2.2 | (with_reducible refine Kd.C_alloc ?_ _) | (with_reducible refine Kd.C_drewN ?_ _) | (with_reducible refine Kd.C_drew ?_))); (case side2 => exact (Kd.R_reads' HO_5.out).2.1); (case side3 => repeat (first | exact (Kd.R_reads' HO269.out).2.2 | (with_reducible refine Kd.C_alloc ?_ _) | (with_reducible refine Kd.C_drewN ?_ _) | (with_reducible refine Kd.C_drew ?_))); (case side4 => exact (Kd.R_reads' HO269.out).2.1); rintro e w' ⟨rfl, ⟨nd, rfl⟩⟩))
         go_meet
         case rel => exact ⟨_, (true), (by first | rfl | (simp; done) | (simp [*]; done)), H', ⟨by have := HJ5.out; first | omega | exact Nat.le_refl _⟩, ⟨by repeat (first | (with_reducible first | exact HB.out | apply below_alloc | apply pw_below_drewN | apply below_drew1) | exact HB.out)⟩⟩
       ·rw [if_neg c38] at H
        have c38b0 : (t254 == 0) = false := beq_eq_false_iff_ne.mpr c38
        have c38b1 : (t254 != 0) = true := bne_iff_ne.mpr c38
        have H' := Aside0.mk H
        clear H
        go_wp2_with (first | ((with_reducible refine gate_dst (N := 61) rfl ?_); (try (refine gate_guard (by rfl) ?_; dsimp only)); refine Kd.R_lit (Kd.int .i64) _ 3 ?hg (N := 61) ?hd (xs := ([1, 2, 2, 2, 1] : List Int)) (inner := [.int .i64 1, .int .i64 2, .int .i64 2, .int .i64 2, .int .i64 1]) (ok := fun _ => True) (okp := fun _ => True) ?hr ?hp (fun _ hk => hk) trivial (Below.refl _ _) (Nat.le_refl _) (by simp) ?_; (case hd => rfl); (case hg => rfl); (case hr => first | (go_simp; done) | (go_simp; rfl)); (case hp => exact (Reps.one (show Kd.M (Kd.int .i64) _ _ _ 1 [.int .i64 1] from rfl) (Reps.one (show Kd.M (Kd.int .i64) _ _ _ 2 [.int .i64 2] from rfl) (Reps.one (show Kd.M (Kd.int .i64) _ _ _ 2 [.int .i64 2] from rfl) (Reps.one (show Kd.M (Kd.int .i64) _ _ _ 2 [.int .i64 2] from rfl) (Reps.one (show Kd.M (Kd.int .i64) _ _ _ 1 [.int .i64 1] from rfl) (Reps.none _ _))))))); intro v268 w63 ho64 hb hg_ hnew_; clear hg_ hnew_; (first | rw [← Ny267.out] at ho64 | (simp only [Int.reduceToNat] at ho64; rw [← Ny267.out] at ho64)); have n0_ := Aside0.mk (Kd.R_elder' (by (with_reducible repeat (first | apply Kd.R_alloc | apply Kd.R_drewN | apply Kd.R_drew)); exact HO_5.out) (Kd.R_base ho64) hb); have n1_ := Aside0.mk (Kd.R_elder' (by (with_reducible repeat (first | apply Kd.R_alloc | apply Kd.R_drewN | apply Kd.R_drew)); exact HO_10.out) (Kd.R_base ho64) hb); have n2_ := Aside0.mk (Kd.R_lower (Kd.R_new' (Kd.R_new' ho64 (Kd.R_lt (by (with_reducible repeat (first | apply Kd.R_alloc | apply Kd.R_drewN | apply Kd.R_drew)); exact HO_5.out))) (Kd.R_lt (by (with_reducible repeat (first | apply Kd.R_alloc | apply Kd.R_drewN | apply Kd.R_drew)); exact HO_10.out))) (below_size (by repeat (first | (with_reducible first | exact HB.out | apply below_alloc | apply pw_below_drewN | apply below_drew1) | exact HB.out)))); have n3_ := Aside0.mk (below_step (by repeat (first | (with_reducible first | exact HB.out | apply below_alloc | apply pw_below_drewN | apply below_drew1) | exact HB.out)) hb); clear HO_5; clear HO_10; clear HB; have HO_5 := n0_; have HO_10 := n1_; have HO269 := n2_; have HB := n3_; clear n0_ n1_ n2_ n3_; clear hb ho64; obtain ⟨Ao65, co65, eo65⟩ := Kd.R_slice HO_5.out; subst eo65; obtain ⟨Ao66, co66, eo66⟩ := Kd.R_slice HO269.out; subst eo66) | (go_at_call 41; (with_reducible refine (numnahlaw09_ints.calls kj5 _ _ t248 _ _ y267 true _ ?side1 ?side2 ?side3 ?side4 A36.out).mono ?_); (case side1 => repeat (first | exact (Kd.R_reads' HO_5.out).2.2 | (with_reducible refine Kd.C_alloc ?_ _) | (with_reducible refine Kd.C_drewN ?_ _) | (with_reducible refine Kd.C_drew ?_))); (case side2 => exact (Kd.R_reads' HO_5.out).2.1); (case side3 => repeat (first | exact (Kd.R_reads' HO269.out).2.2 | (with_reducible refine Kd.C_alloc ?_ _) | (with_reducible refine Kd.C_drewN ?_ _) | (with_reducible refine Kd.C_drew ?_))); (case side4 => exact (Kd.R_reads' HO269.out).2.1); rintro e w' ⟨rfl, ⟨nd, rfl⟩⟩))
        go_meet
        case rel => exact ⟨_, (true), (by first | rfl | (simp; done) | (simp [*]; done)), H', ⟨by have := HJ5.out; first | omega | exact Nat.le_refl _⟩, ⟨by repeat (first | (with_reducible first | exact HB.out | apply below_alloc | apply pw_below_drewN | apply below_drew1) | exact HB.out)⟩⟩
      ·replace c37 := Bool.eq_false_iff.mpr c37
       subst c37
       have H1 : (numnahlaw09_awake.j1 kj5 true) = some r := by rw [if_neg (show ¬ (false = true) by decide)] at H; exact H
       clear H
       have H := H1
       clear H1
       have H' := Aside0.mk H
       clear H
       go_wp2_with (first | ((with_reducible refine gate_dst (N := 61) rfl ?_); (try (refine gate_guard (by rfl) ?_; dsimp only)); refine Kd.R_lit (Kd.int .i64) _ 3 ?hg (N := 61) ?hd (xs := ([1, 2, 2, 2, 1] : List Int)) (inner := [.int .i64 1, .int .i64 2, .int .i64 2, .int .i64 2, .int .i64 1]) (ok := fun _ => True) (okp := fun _ => True) ?hr ?hp (fun _ hk => hk) trivial (Below.refl _ _) (Nat.le_refl _) (by simp) ?_; (case hd => rfl); (case hg => rfl); (case hr => first | (go_simp; done) | (go_simp; rfl)); (case hp => exact (Reps.one (show Kd.M (Kd.int .i64) _ _ _ 1 [.int .i64 1] from rfl) (Reps.one (show Kd.M (Kd.int .i64) _ _ _ 2 [.int .i64 2] from rfl) (Reps.one (show Kd.M (Kd.int .i64) _ _ _ 2 [.int .i64 2] from rfl) (Reps.one (show Kd.M (Kd.int .i64) _ _ _ 2 [.int .i64 2] from rfl) (Reps.one (show Kd.M (Kd.int .i64) _ _ _ 1 [.int .i64 1] from rfl) (Reps.none _ _))))))); intro v268 w67 ho68 hb hg_ hnew_; clear hg_ hnew_; (first | rw [← Ny267.out] at ho68 | (simp only [Int.reduceToNat] at ho68; rw [← Ny267.out] at ho68)); have n0_ := Aside0.mk (Kd.R_elder' (by (with_reducible repeat (first | apply Kd.R_alloc | apply Kd.R_drewN | apply Kd.R_drew)); exact HO_5.out) (Kd.R_base ho68) hb); have n1_ := Aside0.mk (Kd.R_elder' (by (with_reducible repeat (first | apply Kd.R_alloc | apply Kd.R_drewN | apply Kd.R_drew)); exact HO_10.out) (Kd.R_base ho68) hb); have n2_ := Aside0.mk (Kd.R_lower (Kd.R_new' (Kd.R_new' ho68 (Kd.R_lt (by (with_reducible repeat (first | apply Kd.R_alloc | apply Kd.R_drewN | apply Kd.R_drew)); exact HO_5.out))) (Kd.R_lt (by (with_reducible repeat (first | apply Kd.R_alloc | apply Kd.R_drewN | apply Kd.R_drew)); exact HO_10.out))) (below_size (by repeat (first | (with_reducible first | exact HB.out | apply below_alloc | apply pw_below_drewN | apply below_drew1) | exact HB.out)))); have n3_ := Aside0.mk (below_step (by repeat (first | (with_reducible first | exact HB.out | apply below_alloc | apply pw_below_drewN | apply below_drew1) | exact HB.out)) hb); clear HO_5; clear HO_10; clear HB; have HO_5 := n0_; have HO_10 := n1_; have HO269 := n2_; have HB := n3_; clear n0_ n1_ n2_ n3_; clear hb ho68; obtain ⟨Ao69, co69, eo69⟩ := Kd.R_slice HO_5.out; subst eo69; obtain ⟨Ao70, co70, eo70⟩ := Kd.R_slice HO269.out; subst eo70) | (go_at_call 41; (with_reducible refine (numnahlaw09_ints.calls kj5 _ _ t248 _ _ y267 false _ ?side1 ?side2 ?side3 ?side4 A36.out).mono ?_); (case side1 => repeat (first | exact (Kd.R_reads' HO_5.out).2.2 | (with_reducible refine Kd.C_alloc ?_ _) | (with_reducible refine Kd.C_drewN ?_ _) | (with_reducible refine Kd.C_drew ?_))); (case side2 => exact (Kd.R_reads' HO_5.out).2.1); (case side3 => repeat (first | exact (Kd.R_reads' HO269.out).2.2 | (with_reducible refine Kd.C_alloc ?_ _) | (with_reducible refine Kd.C_drewN ?_ _) | (with_reducible refine Kd.C_drew ?_))); (case side4 => exact (Kd.R_reads' HO269.out).2.1); rintro e w' ⟨rfl, ⟨nd, rfl⟩⟩))
       go_meet
       case rel => exact ⟨_, (true), (by first | rfl | (simp; done) | (simp [*]; done)), H', ⟨by have := HJ5.out; first | omega | exact Nat.le_refl _⟩, ⟨by repeat (first | (with_reducible first | exact HB.out | apply below_alloc | apply pw_below_drewN | apply below_drew1) | exact HB.out)⟩⟩
     ·rw [if_neg c35] at H
      have c35b0 : (t249 == 0) = false := beq_eq_false_iff_ne.mpr c35
      have c35b1 : (t249 != 0) = true := bne_iff_ne.mpr c35
      (first | rw [c35b0] | (simp only [i64_w, i32_w]; rw [c35b0]) | skip)
      have H' := Aside0.mk H
      clear H
      go_wp2
      go_meet
      case rel => exact ⟨_, (true), (by first | rfl | (simp; done) | (simp [*]; done)), H', ⟨by have := HJ5.out; first | omega | exact Nat.le_refl _⟩, ⟨by repeat (first | (with_reducible first | exact HB.out | apply below_alloc | apply pw_below_drewN | apply below_drew1) | exact HB.out)⟩⟩
    case rest =>
     clear HC34
     try clear c1
     try clear c2
     try clear p2
     try clear c3
     try clear c4
     try clear c12
     try clear c12b0
     try clear c12b1
     try clear c14
     try clear c15
     try clear c15b0
     try clear c15b1
     try clear c22
     try clear c23
     try clear c25
     try clear c30
     try clear c32
     try clear c33
     try clear c35
     try clear c35b0
     try clear c35b1
     try clear c37
     try clear c38
     try clear c38b0
     try clear c38b1
     try clear c39
     try clear c39b0
     try clear c39b1
     try clear c40
     try clear c40b0
     try clear c40b1
     try clear c41
     try clear c41b0
     try clear c41b1
     try clear p2
     obtain ⟨kq, x86_33, rfl, HA, HJ33, HB⟩ := hcut
     cases kq with
     | zero => exact absurd HA.out (by simp [numnahlaw09_awake.j1])
     | succ kj33 =>
      have H := HA.out
      clear HA
      simp only [numnahlaw09_awake.j1] at H
      by_cases c71 : x86_33 = true
      ·subst c71
       have H1 : (some false) = some r := by rw [if_pos rfl] at H; exact H
       clear H
       have H := H1
       clear H1
       obtain rfl := Option.some.inj H
       go_wp2
       go_ret
       exact ⟨by first | rfl | (simp [errW_none, errW_some] <;> rfl) | (simp [*, errW_none, errW_some] <;> rfl), by repeat (first | (with_reducible first | exact HB.out | apply below_alloc | apply pw_below_drewN | apply below_drew1) | exact HB.out)⟩
      ·replace c71 := Bool.eq_false_iff.mpr c71
       subst c71
       have H1 : (some true) = some r := by rw [if_neg (show ¬ (false = true) by decide)] at H; exact H
       clear H
       have H := H1
       clear H1
       obtain rfl := Option.some.inj H
       go_wp2
       go_ret
       exact ⟨by first | rfl | (simp [errW_none, errW_some] <;> rfl) | (simp [*, errW_none, errW_some] <;> rfl), by repeat (first | (with_reducible first | exact HB.out | apply below_alloc | apply pw_below_drewN | apply below_drew1) | exact HB.out)⟩

end Go.Proofs.YtpeeflkodpnbpaaDoor.Pr
-- indented by one
