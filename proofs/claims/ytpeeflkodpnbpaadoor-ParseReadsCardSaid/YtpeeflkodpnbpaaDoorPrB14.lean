-- Laid by wip/tools/inj.py of this project, which drives the kit's printer. Lean checks it.
import Derived.Test.YtpeeflkodpnbpaaDoorPr0
import Derived.Test.YtpeeflkodpnbpaaDoorHEarl
import Derived.Test.YtpeeflkodpnbpaaDoorHRead
import Derived.Test.YtpeeflkodpnbpaaDoorPrA1
import Derived.Test.YtpeeflkodpnbpaaDoorHAre
import Derived.Test.YtpeeflkodpnbpaaDoorPrA19
import Derived.Test.YtpeeflkodpnbpaaDoorPrA20
import Derived.Test.YtpeeflkodpnbpaaDoorPrB19
import Derived.Test.YtpeeflkodpnbpaaDoorPrB24
namespace Go.Proofs.YtpeeflkodpnbpaaDoor.Pr
open Go.RowKit Go.Proofs.YtpeeflkodpnbpaaDoorW.PrintWords Go.Proofs.YtpeeflkodpnbpaaDoorW.PrintLast Go.Proofs.YtpeeflkodpnbpaaDoorW.PrintMore
attribute [local go_sem] max2_int min2_int max_two min_two max_three min_three max_four min_four   -- for this text's walks alone
set_option linter.unusedVariables false
set_option linter.unusedSimpArgs false

/-! ### numnahlaw09_ParseReads: function 19 -/
mutual
def numnahlaw09_ParseReads.j0 : Nat → ByteArray → ByteArray → Int → ByteArray → Int → ByteArray → Bool → ByteArray → Bool → Option (Bool)
 | 0, _, _, _, _, _, _, _, _, _ => none
 | k + 1, x6, x7, x8, x9, x10, x11, x12, x13, x14 => if x14 = true then ((numnahref09_Word.f k x6).bind fun t890 => (numnahlaw09_ParseReads.j1 k x7 x8 x9 x10 x11 x12 x13 t890)) else (numnahlaw09_ParseReads.j1 k x7 x8 x9 x10 x11 x12 x13 false)
def numnahlaw09_ParseReads.j1 : Nat → ByteArray → Int → ByteArray → Int → ByteArray → Bool → ByteArray → Bool → Option (Bool)
 | 0, _, _, _, _, _, _, _, _ => none
 | k + 1, x7, x8, x9, x10, x11, x12, x13, x14 => if x12 = true then (if x7.toList = x11.toList then (numnahlaw09_ParseReads.j2 k x9 x10 x13 x14 (x8 != 0)) else (numnahlaw09_ParseReads.j2 k x9 x10 x13 x14 true)) else (if x7.toList = ([] : List UInt8) then (if x8 = 2 then (numnahlaw09_ParseReads.j2 k x9 x10 x13 x14 false) else (numnahlaw09_ParseReads.j2 k x9 x10 x13 x14 true)) else (numnahlaw09_ParseReads.j2 k x9 x10 x13 x14 true))
def numnahlaw09_ParseReads.j2 : Nat → ByteArray → Int → ByteArray → Bool → Bool → Option (Bool)
 | 0, _, _, _, _, _ => none
 | k + 1, x9, x10, x13, x14, x74 => if x74 = true then (some false) else (if x14 = true then (if x9.toList = x13.toList then (if x10 = 0 then ((numnahlaw09_awake.f k).bind fun t891 => (some t891)) else (some false)) else (some false)) else (if x9.toList = ([] : List UInt8) then (if x10 = 2 then ((numnahlaw09_awake.f k).bind fun t892 => (some t892)) else (some false)) else (some false)))
end
def numnahlaw09_ParseReads.f (k : Nat) (l0 : List (S63)) (a1 : ByteArray) : Option (Bool) := (numnahlaw09_plan.f l0).bind fun t877 => ((numnahlaw09_short.f a1).bind fun t880 => ((parse_Read.f t877 t880).bind fun bt881 => ((parse_Unlearn.f k t877 t880).bind fun bt883 => ((numnahref09_Read.f k t877 t880).bind fun bt885 => ((numnahref09_Unlearn.f k t877 t880).bind fun bt887 => (if bt885.2 = true then ((numnahref09_Word.f k t880).bind fun t889 => (numnahlaw09_ParseReads.j0 k t880 bt881.1 bt881.2 bt883.1 bt883.2 bt885.1 t889 bt887.1 bt887.2)) else (numnahlaw09_ParseReads.j0 k t880 bt881.1 bt881.2 bt883.1 bt883.2 bt885.1 false bt887.1 bt887.2)))))))
theorem numnahlaw09_ParseReads.mono_l : ∀ k, (∀ y0 y1 y2 y3 y4 y5 y6 y7 y8, LeO (numnahlaw09_ParseReads.j0 k y0 y1 y2 y3 y4 y5 y6 y7 y8) (numnahlaw09_ParseReads.j0 (k + 1) y0 y1 y2 y3 y4 y5 y6 y7 y8)) ∧ (∀ y0 y1 y2 y3 y4 y5 y6 y7, LeO (numnahlaw09_ParseReads.j1 k y0 y1 y2 y3 y4 y5 y6 y7) (numnahlaw09_ParseReads.j1 (k + 1) y0 y1 y2 y3 y4 y5 y6 y7)) ∧ (∀ y0 y1 y2 y3 y4, LeO (numnahlaw09_ParseReads.j2 k y0 y1 y2 y3 y4) (numnahlaw09_ParseReads.j2 (k + 1) y0 y1 y2 y3 y4))
 | 0 => ⟨fun _ _ _ _ _ _ _ _ _ r h => by simp [numnahlaw09_ParseReads.j0] at h, fun _ _ _ _ _ _ _ _ r h => by simp [numnahlaw09_ParseReads.j1] at h, fun _ _ _ _ _ r h => by simp [numnahlaw09_ParseReads.j2] at h⟩
 | k + 1 => by
  obtain ⟨ih0, ih1, ih2⟩ := numnahlaw09_ParseReads.mono_l k
  refine ⟨?_, ?_, ?_⟩
  ·intro y0 y1 y2 y3 y4 y5 y6 y7 y8
   unfold numnahlaw09_ParseReads.j0
   repeat' first
   | (with_reducible exact ih0 _ _ _ _ _ _ _ _ _)
   | (with_reducible exact ih1 _ _ _ _ _ _ _ _)
   | (with_reducible exact ih2 _ _ _ _ _)
   | (with_reducible exact numnahlaw09_awake.mono _)
   | (with_reducible exact numnahref09_Read.mono _ _ _)
   | (with_reducible exact numnahref09_Unlearn.mono _ _ _)
   | (with_reducible exact numnahref09_Word.mono _ _)
   | (with_reducible exact parse_Unlearn.mono _ _ _)
   | (with_reducible exact LeO.refl _)
   | (with_reducible exact LeO.none _)
   | (with_reducible refine LeO.ite ?_ ?_)
   | (with_reducible refine LeO.bind ?_ (fun _ => ?_))
   | exact ih0 _ _ _ _ _ _ _ _ _
   | exact ih1 _ _ _ _ _ _ _ _
   | exact ih2 _ _ _ _ _
   | exact numnahlaw09_awake.mono _
   | exact numnahref09_Read.mono _ _ _
   | exact numnahref09_Unlearn.mono _ _ _
   | exact numnahref09_Word.mono _ _
   | exact parse_Unlearn.mono _ _ _
   | exact LeO.none _
   | refine LeO.ite ?_ ?_
   | refine LeO.bind ?_ (fun _ => ?_)
  ·intro y0 y1 y2 y3 y4 y5 y6 y7
   unfold numnahlaw09_ParseReads.j1
   repeat' first
   | (with_reducible exact ih0 _ _ _ _ _ _ _ _ _)
   | (with_reducible exact ih1 _ _ _ _ _ _ _ _)
   | (with_reducible exact ih2 _ _ _ _ _)
   | (with_reducible exact numnahlaw09_awake.mono _)
   | (with_reducible exact numnahref09_Read.mono _ _ _)
   | (with_reducible exact numnahref09_Unlearn.mono _ _ _)
   | (with_reducible exact numnahref09_Word.mono _ _)
   | (with_reducible exact parse_Unlearn.mono _ _ _)
   | (with_reducible exact LeO.refl _)
   | (with_reducible exact LeO.none _)
   | (with_reducible refine LeO.ite ?_ ?_)
   | (with_reducible refine LeO.bind ?_ (fun _ => ?_))
   | exact ih0 _ _ _ _ _ _ _ _ _
   | exact ih1 _ _ _ _ _ _ _ _
   | exact ih2 _ _ _ _ _
   | exact numnahlaw09_awake.mono _
   | exact numnahref09_Read.mono _ _ _
   | exact numnahref09_Unlearn.mono _ _ _
   | exact numnahref09_Word.mono _ _
   | exact parse_Unlearn.mono _ _ _
   | exact LeO.none _
   | refine LeO.ite ?_ ?_
   | refine LeO.bind ?_ (fun _ => ?_)
  ·intro y0 y1 y2 y3 y4
   unfold numnahlaw09_ParseReads.j2
   repeat' first
   | (with_reducible exact ih0 _ _ _ _ _ _ _ _ _)
   | (with_reducible exact ih1 _ _ _ _ _ _ _ _)
   | (with_reducible exact ih2 _ _ _ _ _)
   | (with_reducible exact numnahlaw09_awake.mono _)
   | (with_reducible exact numnahref09_Read.mono _ _ _)
   | (with_reducible exact numnahref09_Unlearn.mono _ _ _)
   | (with_reducible exact numnahref09_Word.mono _ _)
   | (with_reducible exact parse_Unlearn.mono _ _ _)
   | (with_reducible exact LeO.refl _)
   | (with_reducible exact LeO.none _)
   | (with_reducible refine LeO.ite ?_ ?_)
   | (with_reducible refine LeO.bind ?_ (fun _ => ?_))
   | exact ih0 _ _ _ _ _ _ _ _ _
   | exact ih1 _ _ _ _ _ _ _ _
   | exact ih2 _ _ _ _ _
   | exact numnahlaw09_awake.mono _
   | exact numnahref09_Read.mono _ _ _
   | exact numnahref09_Unlearn.mono _ _ _
   | exact numnahref09_Word.mono _ _
   | exact parse_Unlearn.mono _ _ _
   | exact LeO.none _
   | refine LeO.ite ?_ ?_
   | refine LeO.bind ?_ (fun _ => ?_)
theorem numnahlaw09_ParseReads.mono : ∀ a0 a1 k, LeO (numnahlaw09_ParseReads.f k a0 a1) (numnahlaw09_ParseReads.f (k + 1) a0 a1) := by
 intro a0 a1 k
 obtain ⟨ih0, ih1, ih2⟩ := numnahlaw09_ParseReads.mono_l k
 unfold numnahlaw09_ParseReads.f
 repeat' first
   | (with_reducible exact ih0 _ _ _ _ _ _ _ _ _)
   | (with_reducible exact ih1 _ _ _ _ _ _ _ _)
   | (with_reducible exact ih2 _ _ _ _ _)
   | (with_reducible exact numnahlaw09_awake.mono _)
   | (with_reducible exact numnahref09_Read.mono _ _ _)
   | (with_reducible exact numnahref09_Unlearn.mono _ _ _)
   | (with_reducible exact numnahref09_Word.mono _ _)
   | (with_reducible exact parse_Unlearn.mono _ _ _)
   | (with_reducible exact LeO.refl _)
   | (with_reducible exact LeO.none _)
   | (with_reducible refine LeO.ite ?_ ?_)
   | (with_reducible refine LeO.bind ?_ (fun _ => ?_))
   | exact ih0 _ _ _ _ _ _ _ _ _
   | exact ih1 _ _ _ _ _ _ _ _
   | exact ih2 _ _ _ _ _
   | exact numnahlaw09_awake.mono _
   | exact numnahref09_Read.mono _ _ _
   | exact numnahref09_Unlearn.mono _ _ _
   | exact numnahref09_Word.mono _ _
   | exact parse_Unlearn.mono _ _ _
   | exact LeO.none _
   | refine LeO.ite ?_ ?_
   | refine LeO.bind ?_ (fun _ => ?_)
set_option maxHeartbeats 8000000 in
set_option maxRecDepth 100000 in
theorem numnahlaw09_ParseReads.calls (k : Nat) (A0 : Option Addr) (c0 : Nat) (l0 : List (S63)) (a1 : ByteArray) (r : Bool) (w : World) (hG : GW w) (hr0 : Kd.C k63 w A0 l0.length l0) (hc0 : l0.length ≤ c0) (h : numnahlaw09_ParseReads.f k l0 a1 = some r) :
  Calls Tryd.prog 19 #[.slice A0 l0.length c0, .string a1] w fun e w' => e = .returned (.bool r) ∧ Below w.heap.size w w' := by
 have HR0 := Aside0.mk hr0
 have HC0 := Aside0.mk hc0
 clear hr0 hc0
 have HB := Aside0.mk (Below.refl w.heap.size w)
 have H : ((numnahlaw09_plan.f l0).bind fun t877 => ((numnahlaw09_short.f a1).bind fun t880 => ((parse_Read.f t877 t880).bind fun bt881 => ((parse_Unlearn.f k t877 t880).bind fun bt883 => ((numnahref09_Read.f k t877 t880).bind fun bt885 => ((numnahref09_Unlearn.f k t877 t880).bind fun bt887 => (if bt885.2 = true then ((numnahref09_Word.f k t880).bind fun t889 => (numnahlaw09_ParseReads.j0 k t880 bt881.1 bt881.2 bt883.1 bt883.2 bt885.1 t889 bt887.1 bt887.2)) else (numnahlaw09_ParseReads.j0 k t880 bt881.1 bt881.2 bt883.1 bt883.2 bt885.1 false bt887.1 bt887.2)))))))) = some r := h
 clear h
 replace H := Option.bind_eq_some_iff.mp H
 obtain ⟨t877, A30, H⟩ := H
 replace H : ((numnahlaw09_short.f a1).bind fun t880 => ((parse_Read.f t877 t880).bind fun bt881 => ((parse_Unlearn.f k t877 t880).bind fun bt883 => ((numnahref09_Read.f k t877 t880).bind fun bt885 => ((numnahref09_Unlearn.f k t877 t880).bind fun bt887 => (if bt885.2 = true then ((numnahref09_Word.f k t880).bind fun t889 => (numnahlaw09_ParseReads.j0 k t880 bt881.1 bt881.2 bt883.1 bt883.2 bt885.1 t889 bt887.1 bt887.2)) else (numnahlaw09_ParseReads.j0 k t880 bt881.1 bt881.2 bt883.1 bt883.2 bt885.1 false bt887.1 bt887.2))))))) = some r := H
 have A3 := Aside0.mk A30
 clear A30
 replace H := Option.bind_eq_some_iff.mp H
 obtain ⟨t880, A40, H⟩ := H
 replace H : ((parse_Read.f t877 t880).bind fun bt881 => ((parse_Unlearn.f k t877 t880).bind fun bt883 => ((numnahref09_Read.f k t877 t880).bind fun bt885 => ((numnahref09_Unlearn.f k t877 t880).bind fun bt887 => (if bt885.2 = true then ((numnahref09_Word.f k t880).bind fun t889 => (numnahlaw09_ParseReads.j0 k t880 bt881.1 bt881.2 bt883.1 bt883.2 bt885.1 t889 bt887.1 bt887.2)) else (numnahlaw09_ParseReads.j0 k t880 bt881.1 bt881.2 bt883.1 bt883.2 bt885.1 false bt887.1 bt887.2)))))) = some r := H
 have A4 := Aside0.mk A40
 clear A40
 replace H := Option.bind_eq_some_iff.mp H
 obtain ⟨⟨t881, t882⟩, A50, H⟩ := H
 replace H : ((parse_Unlearn.f k t877 t880).bind fun bt883 => ((numnahref09_Read.f k t877 t880).bind fun bt885 => ((numnahref09_Unlearn.f k t877 t880).bind fun bt887 => (if bt885.2 = true then ((numnahref09_Word.f k t880).bind fun t889 => (numnahlaw09_ParseReads.j0 k t880 t881 t882 bt883.1 bt883.2 bt885.1 t889 bt887.1 bt887.2)) else (numnahlaw09_ParseReads.j0 k t880 t881 t882 bt883.1 bt883.2 bt885.1 false bt887.1 bt887.2))))) = some r := H
 have A5 := Aside0.mk A50
 clear A50
 replace H := Option.bind_eq_some_iff.mp H
 obtain ⟨⟨t883, t884⟩, A60, H⟩ := H
 replace H : ((numnahref09_Read.f k t877 t880).bind fun bt885 => ((numnahref09_Unlearn.f k t877 t880).bind fun bt887 => (if bt885.2 = true then ((numnahref09_Word.f k t880).bind fun t889 => (numnahlaw09_ParseReads.j0 k t880 t881 t882 t883 t884 bt885.1 t889 bt887.1 bt887.2)) else (numnahlaw09_ParseReads.j0 k t880 t881 t882 t883 t884 bt885.1 false bt887.1 bt887.2)))) = some r := H
 have A6 := Aside0.mk A60
 clear A60
 replace H := Option.bind_eq_some_iff.mp H
 obtain ⟨⟨t885, t886⟩, A70, H⟩ := H
 replace H : ((numnahref09_Unlearn.f k t877 t880).bind fun bt887 => (if t886 = true then ((numnahref09_Word.f k t880).bind fun t889 => (numnahlaw09_ParseReads.j0 k t880 t881 t882 t883 t884 t885 t889 bt887.1 bt887.2)) else (numnahlaw09_ParseReads.j0 k t880 t881 t882 t883 t884 t885 false bt887.1 bt887.2))) = some r := H
 have A7 := Aside0.mk A70
 clear A70
 replace H := Option.bind_eq_some_iff.mp H
 obtain ⟨⟨t887, t888⟩, A80, H⟩ := H
 replace H : (if t886 = true then ((numnahref09_Word.f k t880).bind fun t889 => (numnahlaw09_ParseReads.j0 k t880 t881 t882 t883 t884 t885 t889 t887 t888)) else (numnahlaw09_ParseReads.j0 k t880 t881 t882 t883 t884 t885 false t887 t888)) = some r := H
 have A8 := Aside0.mk A80
 clear A80
 have HC9 := Aside0.mk H
 clear H
 go_enter Tryd.func19, Tryd.ntmps19
 go_upto_region 6 with (first | ((with_reducible refine gate_callee (f := 55) rfl ?_); refine goesL_ (some 16) rfl rfl Tryd.func55 (by kernel_rfl) rfl #[.slice A0 l0.length c0] rfl (by (try simp only [List.map_toArray, List.map_cons, List.map_nil]); first | done | rfl | (simp only [List.length_drop, List.length_take]; rfl)) ?_; (with_reducible refine (numnahlaw09_plan.calls _ _ l0 t877 _ ?side1 ?side2 A3.out).mono ?_); (case side1 => repeat (first | exact HR0.out | (with_reducible refine Kd.C_alloc ?_ _) | (with_reducible refine Kd.C_drewN ?_ _) | (with_reducible refine Kd.C_drew ?_))); (case side2 => exact HC0.out); rintro e w10 ⟨v878, rfl, ho0, hb⟩; refine ⟨_, rfl, ?_⟩; have n0_ := Aside0.mk (Kd.R_lower ho0 (below_size (by repeat (first | (with_reducible first | exact HB.out | apply below_alloc | apply pw_below_drewN | apply below_drew1) | exact HB.out)))); have n1_ := Aside0.mk (below_step (by repeat (first | (with_reducible first | exact HB.out | apply below_alloc | apply pw_below_drewN | apply below_drew1) | exact HB.out)) hb); clear HB; have HO879 := n0_; have HB := n1_; clear n0_ n1_; (try clear hb); (try clear hb2); (try clear hk); (try clear hi); (try clear ho0)) | ((with_reducible refine gate_callee (f := 21) rfl ?_); refine goesL_ (some 18) rfl rfl Tryd.func21 (by kernel_rfl) rfl #[.string a1] rfl (by (try simp only [List.map_toArray, List.map_cons, List.map_nil]); first | done | rfl | (simp only [List.length_drop, List.length_take]; rfl)) ?_; (with_reducible refine (numnahlaw09_short.calls a1 t880 _ A4.out).mono ?_); rintro e w11 ⟨rfl, hb⟩; refine ⟨_, rfl, ?_⟩; have n0_ := Aside0.mk (Kd.R_below (by (with_reducible repeat (first | apply Kd.R_alloc | apply Kd.R_drewN | apply Kd.R_drew)); exact HO879.out) hb); have n1_ := Aside0.mk (below_step (by repeat (first | (with_reducible first | exact HB.out | apply below_alloc | apply pw_below_drewN | apply below_drew1) | exact HB.out)) hb); clear HO879; clear HB; have HO879 := n0_; have HB := n1_; clear n0_ n1_; (try clear hb); (try clear hb2); (try clear hk); (try clear hi); obtain ⟨Ao12, co12, eo12⟩ := Kd.R_slice HO879.out; subst eo12) | ((with_reducible refine gate_callee (f := 53) rfl ?_); refine goesL_ (some 22) rfl rfl Tryd.func53 (by kernel_rfl) rfl #[.slice Ao12 t877.length co12, .string t880] rfl (by (try simp only [List.map_toArray, List.map_cons, List.map_nil]); first | done | rfl | (simp only [List.length_drop, List.length_take]; rfl)) ?_; (with_reducible refine (parse_Read.calls (hG := ?hg) _ _ t877 t880 t881 t882 _ ?side1 ?side2 A5.out).mono ?_); (case hg => exact gw_now hG (by repeat (first | (with_reducible first | exact HB.out | apply below_alloc | apply pw_below_drewN | apply below_drew1) | exact HB.out))); (case side1 => repeat (first | exact (Kd.R_reads' HO879.out).2.2 | (with_reducible refine Kd.C_alloc ?_ _) | (with_reducible refine Kd.C_drewN ?_ _) | (with_reducible refine Kd.C_drew ?_))); (case side2 => exact (Kd.R_reads' HO879.out).2.1); rintro e w13 ⟨rfl, hb⟩; refine ⟨_, rfl, ?_⟩; have n0_ := Aside0.mk (Kd.R_below (by (with_reducible repeat (first | apply Kd.R_alloc | apply Kd.R_drewN | apply Kd.R_drew)); exact HO879.out) hb); have n1_ := Aside0.mk (below_step (by repeat (first | (with_reducible first | exact HB.out | apply below_alloc | apply pw_below_drewN | apply below_drew1) | exact HB.out)) hb); clear HO879; clear HB; have HO879 := n0_; have HB := n1_; clear n0_ n1_; (try clear hb); (try clear hb2); (try clear hk); (try clear hi)) | ((with_reducible refine gate_callee (f := 51) rfl ?_); refine goesL_ (some 28) rfl rfl Tryd.func51 (by kernel_rfl) rfl #[.slice Ao12 t877.length co12, .string t880] rfl (by (try simp only [List.map_toArray, List.map_cons, List.map_nil]); first | done | rfl | (simp only [List.length_drop, List.length_take]; rfl)) ?_; (with_reducible refine (parse_Unlearn.calls k _ _ t877 t880 t883 t884 _ ?side1 ?side2 A6.out).mono ?_); (case side1 => repeat (first | exact (Kd.R_reads' HO879.out).2.2 | (with_reducible refine Kd.C_alloc ?_ _) | (with_reducible refine Kd.C_drewN ?_ _) | (with_reducible refine Kd.C_drew ?_))); (case side2 => exact (Kd.R_reads' HO879.out).2.1); rintro e w14 ⟨rfl, hb⟩; refine ⟨_, rfl, ?_⟩; have n0_ := Aside0.mk (Kd.R_below (by (with_reducible repeat (first | apply Kd.R_alloc | apply Kd.R_drewN | apply Kd.R_drew)); exact HO879.out) hb); have n1_ := Aside0.mk (below_step (by repeat (first | (with_reducible first | exact HB.out | apply below_alloc | apply pw_below_drewN | apply below_drew1) | exact HB.out)) hb); clear HO879; clear HB; have HO879 := n0_; have HB := n1_; clear n0_ n1_; (try clear hb); (try clear hb2); (try clear hk); (try clear hi)) | ((with_reducible refine gate_callee (f := 60) rfl ?_); refine goesL_ (some 34) rfl rfl Tryd.func60 (by kernel_rfl) rfl #[.slice Ao12 t877.length co12, .string t880] rfl (by (try simp only [List.map_toArray, List.map_cons, List.map_nil]); first | done | rfl | (simp only [List.length_drop, List.length_take]; rfl)) ?_; (with_reducible refine (numnahref09_Read.calls k _ _ t877 t880 t885 t886 _ ?side1 ?side2 A7.out).mono ?_); (case side1 => repeat (first | exact (Kd.R_reads' HO879.out).2.2 | (with_reducible refine Kd.C_alloc ?_ _) | (with_reducible refine Kd.C_drewN ?_ _) | (with_reducible refine Kd.C_drew ?_))); (case side2 => exact (Kd.R_reads' HO879.out).2.1); rintro e w15 ⟨rfl, hb⟩; refine ⟨_, rfl, ?_⟩; have n0_ := Aside0.mk (Kd.R_below (by (with_reducible repeat (first | apply Kd.R_alloc | apply Kd.R_drewN | apply Kd.R_drew)); exact HO879.out) hb); have n1_ := Aside0.mk (below_step (by repeat (first | (with_reducible first | exact HB.out | apply below_alloc | apply pw_below_drewN | apply below_drew1) | exact HB.out)) hb); clear HO879; clear HB; have HO879 := n0_; have HB := n1_; clear n0_ n1_; (try clear hb); (try clear hb2); (try clear hk); (try clear hi)) | ((with_reducible refine gate_callee (f := 61) rfl ?_); refine goesL_ (some 40) rfl rfl Tryd.func61 (by kernel_rfl) rfl #[.slice Ao12 t877.length co12, .string t880] rfl (by (try simp only [List.map_toArray, List.map_cons, List.map_nil]); first | done | rfl | (simp only [List.length_drop, List.length_take]; rfl)) ?_; (with_reducible refine (numnahref09_Unlearn.calls k _ _ t877 t880 t887 t888 _ ?side1 ?side2 A8.out).mono ?_); (case side1 => repeat (first | exact (Kd.R_reads' HO879.out).2.2 | (with_reducible refine Kd.C_alloc ?_ _) | (with_reducible refine Kd.C_drewN ?_ _) | (with_reducible refine Kd.C_drew ?_))); (case side2 => exact (Kd.R_reads' HO879.out).2.1); rintro e w16 ⟨rfl, hb⟩; refine ⟨_, rfl, ?_⟩; have n0_ := Aside0.mk (Kd.R_below (by (with_reducible repeat (first | apply Kd.R_alloc | apply Kd.R_drewN | apply Kd.R_drew)); exact HO879.out) hb); have n1_ := Aside0.mk (below_step (by repeat (first | (with_reducible first | exact HB.out | apply below_alloc | apply pw_below_drewN | apply below_drew1) | exact HB.out)) hb); clear HO879; clear HB; have HO879 := n0_; have HB := n1_; clear n0_ n1_; (try clear hb); (try clear hb2); (try clear hk); (try clear hi)))
 (try simp only [Act.put, List.setIfInBounds_toArray, List.set_cons_zero, List.set_cons_succ])
 go_cut [12] (fun v12 wc => ∃ (kq : Nat) (x12_8 : Bool), v12 = .bool x12_8 ∧ Aside0 (numnahlaw09_ParseReads.j0 kq t880 t881 t882 t883 t884 t885 x12_8 t887 t888 = some r) ∧ Aside0 (kq ≤ k) ∧ Aside0 (Below w.heap.size w wc))
 case first =>
  have H := HC9.out
  clear HC9
  by_cases c17 : t886 = true
  ·subst c17
   have H1 : ((numnahref09_Word.f k t880).bind fun t889 => (numnahlaw09_ParseReads.j0 k t880 t881 t882 t883 t884 t885 t889 t887 t888)) = some r := by rw [if_pos rfl] at H; exact H
   clear H
   have H := H1
   clear H1
   replace H := Option.bind_eq_some_iff.mp H
   obtain ⟨t889, A180, H⟩ := H
   replace H : (numnahlaw09_ParseReads.j0 k t880 t881 t882 t883 t884 t885 t889 t887 t888) = some r := H
   have A18 := Aside0.mk A180
   clear A180
   have H' := Aside0.mk H
   clear H
   go_wp2_with (first | (go_at_call 24; (with_reducible refine (numnahref09_Word.calls k t880 t889 _ A18.out).mono ?_); rintro e w' ⟨rfl, ⟨nd, rfl⟩⟩))
   go_meet
   case rel => exact ⟨_, (t889), (by first | rfl | (simp; done) | (simp [*]; done)), H', ⟨by first | omega | exact Nat.le_refl _⟩, ⟨by repeat (first | (with_reducible first | exact HB.out | apply below_alloc | apply pw_below_drewN | apply below_drew1) | exact HB.out)⟩⟩
  ·replace c17 := Bool.eq_false_iff.mpr c17
   subst c17
   have H1 : (numnahlaw09_ParseReads.j0 k t880 t881 t882 t883 t884 t885 false t887 t888) = some r := by rw [if_neg (show ¬ (false = true) by decide)] at H; exact H
   clear H
   have H := H1
   clear H1
   have H' := Aside0.mk H
   clear H
   go_wp2
   go_meet
   case rel => exact ⟨_, (false), (by first | rfl | (simp; done) | (simp [*]; done)), H', ⟨by first | omega | exact Nat.le_refl _⟩, ⟨by repeat (first | (with_reducible first | exact HB.out | apply below_alloc | apply pw_below_drewN | apply below_drew1) | exact HB.out)⟩⟩
 case rest =>
  clear HC9
  try clear c1
  try clear c2
  try clear p2
  try clear c5
  try clear c6
  try clear c17
  obtain ⟨kq, x12_8, rfl, HA, HJ8, HB⟩ := hcut
  cases kq with
  | zero => exact absurd HA.out (by simp [numnahlaw09_ParseReads.j0])
  | succ kj8 =>
   have H := HA.out
   clear HA
   simp only [numnahlaw09_ParseReads.j0] at H
   have HC19 := Aside0.mk H
   clear H
   go_upto_region 7 with (fail)
   go_cut [14] (fun v14 wc => ∃ (kq : Nat) (x14_18 : Bool), v14 = .bool x14_18 ∧ Aside0 (numnahlaw09_ParseReads.j1 kq t881 t882 t883 t884 t885 x12_8 t887 x14_18 = some r) ∧ Aside0 (kq ≤ kj8) ∧ Aside0 (Below w.heap.size w wc))
   case first =>
    have H := HC19.out
    clear HC19
    by_cases c20 : t888 = true
    ·subst c20
     have H1 : ((numnahref09_Word.f kj8 t880).bind fun t890 => (numnahlaw09_ParseReads.j1 kj8 t881 t882 t883 t884 t885 x12_8 t887 t890)) = some r := by rw [if_pos rfl] at H; exact H
     clear H
     have H := H1
     clear H1
     replace H := Option.bind_eq_some_iff.mp H
     obtain ⟨t890, A210, H⟩ := H
     replace H : (numnahlaw09_ParseReads.j1 kj8 t881 t882 t883 t884 t885 x12_8 t887 t890) = some r := H
     have A21 := Aside0.mk A210
     clear A210
     have H' := Aside0.mk H
     clear H
     go_wp2_with (first | (go_at_call 24; (with_reducible refine (numnahref09_Word.calls kj8 t880 t890 _ A21.out).mono ?_); rintro e w' ⟨rfl, ⟨nd, rfl⟩⟩))
     go_meet
     case rel => exact ⟨_, (t890), (by first | rfl | (simp; done) | (simp [*]; done)), H', ⟨by have := HJ8.out; first | omega | exact Nat.le_refl _⟩, ⟨by repeat (first | (with_reducible first | exact HB.out | apply below_alloc | apply pw_below_drewN | apply below_drew1) | exact HB.out)⟩⟩
    ·replace c20 := Bool.eq_false_iff.mpr c20
     subst c20
     have H1 : (numnahlaw09_ParseReads.j1 kj8 t881 t882 t883 t884 t885 x12_8 t887 false) = some r := by rw [if_neg (show ¬ (false = true) by decide)] at H; exact H
     clear H
     have H := H1
     clear H1
     have H' := Aside0.mk H
     clear H
     go_wp2
     go_meet
     case rel => exact ⟨_, (false), (by first | rfl | (simp; done) | (simp [*]; done)), H', ⟨by have := HJ8.out; first | omega | exact Nat.le_refl _⟩, ⟨by repeat (first | (with_reducible first | exact HB.out | apply below_alloc | apply pw_below_drewN | apply below_drew1) | exact HB.out)⟩⟩
   case rest =>
    clear HC19
    try clear c1
    try clear c2
    try clear p2
    try clear c5
    try clear c6
    try clear c17
    try clear c19
    try clear c20
    try clear c21
    try clear p2
    obtain ⟨kq, x14_18, rfl, HA, HJ18, HB⟩ := hcut
    cases kq with
    | zero => exact absurd HA.out (by simp [numnahlaw09_ParseReads.j1])
    | succ kj18 =>
     have H := HA.out
     clear HA
     simp only [numnahlaw09_ParseReads.j1] at H
     have HC22 := Aside0.mk H
     clear H
     go_upto_region 8 with (fail)
     go_cut [74] (fun v74 wc => ∃ (kq : Nat) (x74_21 : Bool), v74 = .bool x74_21 ∧ Aside0 (numnahlaw09_ParseReads.j2 kq t883 t884 t887 x14_18 x74_21 = some r) ∧ Aside0 (kq ≤ kj18) ∧ Aside0 (Below w.heap.size w wc))
     case first =>
      have H := HC22.out
      clear HC22
      by_cases c23 : x12_8 = true
      ·subst c23
       have H1 : (if t881.toList = t885.toList then (numnahlaw09_ParseReads.j2 kj18 t883 t884 t887 x14_18 (t882 != 0)) else (numnahlaw09_ParseReads.j2 kj18 t883 t884 t887 x14_18 true)) = some r := by rw [if_pos rfl] at H; exact H
       clear H
       have H := H1
       clear H1
       by_cases c24 : t881.toList = t885.toList
       ·rw [if_pos c24] at H
        have c24b0 : (t881.toList == t885.toList) = true := beq_iff_eq.mpr c24
        have c24b1 : (t881.toList != t885.toList) = false := bne_eq_false_iff_eq.mpr c24
        clear c24
        (first | rw [c24b0] | (simp only [i64_w, i32_w]; rw [c24b0]) | skip)
        have H' := Aside0.mk H
        clear H
        go_wp2
        go_meet
        case rel => exact ⟨_, ((t882 != 0)), (by first | rfl | (simp; done) | (simp [*]; done)), H', ⟨by have := HJ8.out; have := HJ18.out; first | omega | exact Nat.le_refl _⟩, ⟨by repeat (first | (with_reducible first | exact HB.out | apply below_alloc | apply pw_below_drewN | apply below_drew1) | exact HB.out)⟩⟩
       ·rw [if_neg c24] at H
        have c24b0 : (t881.toList == t885.toList) = false := beq_eq_false_iff_ne.mpr c24
        have c24b1 : (t881.toList != t885.toList) = true := bne_iff_ne.mpr c24
        (first | rw [c24b0] | (simp only [i64_w, i32_w]; rw [c24b0]) | skip)
        have H' := Aside0.mk H
        clear H
        go_wp2
        go_meet
        case rel => exact ⟨_, (true), (by first | rfl | (simp; done) | (simp [*]; done)), H', ⟨by have := HJ8.out; have := HJ18.out; first | omega | exact Nat.le_refl _⟩, ⟨by repeat (first | (with_reducible first | exact HB.out | apply below_alloc | apply pw_below_drewN | apply below_drew1) | exact HB.out)⟩⟩
      ·replace c23 := Bool.eq_false_iff.mpr c23
       subst c23
       have H1 : (if t881.toList = ([] : List UInt8) then (if t882 = 2 then (numnahlaw09_ParseReads.j2 kj18 t883 t884 t887 x14_18 false) else (numnahlaw09_ParseReads.j2 kj18 t883 t884 t887 x14_18 true)) else (numnahlaw09_ParseReads.j2 kj18 t883 t884 t887 x14_18 true)) = some r := by rw [if_neg (show ¬ (false = true) by decide)] at H; exact H
       clear H
       have H := H1
       clear H1
       by_cases c25 : t881.toList = ([] : List UInt8)
       ·rw [if_pos c25] at H
        have c25b0 : (t881.toList == ([] : List UInt8)) = true := beq_iff_eq.mpr c25
        have c25b1 : (t881.toList != ([] : List UInt8)) = false := bne_eq_false_iff_eq.mpr c25
        clear c25
        by_cases c26 : t882 = 2
        ·rw [if_pos c26] at H
         have c26b0 : (t882 == 2) = true := beq_iff_eq.mpr c26
         have c26b1 : (t882 != 2) = false := bne_eq_false_iff_eq.mpr c26
         clear c26
         have H' := Aside0.mk H
         clear H
         go_wp2
         go_meet
         case rel => exact ⟨_, (false), (by first | rfl | (simp; done) | (simp [*]; done)), H', ⟨by have := HJ8.out; have := HJ18.out; first | omega | exact Nat.le_refl _⟩, ⟨by repeat (first | (with_reducible first | exact HB.out | apply below_alloc | apply pw_below_drewN | apply below_drew1) | exact HB.out)⟩⟩
        ·rw [if_neg c26] at H
         have c26b0 : (t882 == 2) = false := beq_eq_false_iff_ne.mpr c26
         have c26b1 : (t882 != 2) = true := bne_iff_ne.mpr c26
         have H' := Aside0.mk H
         clear H
         go_wp2
         go_meet
         case rel => exact ⟨_, (true), (by first | rfl | (simp; done) | (simp [*]; done)), H', ⟨by have := HJ8.out; have := HJ18.out; first | omega | exact Nat.le_refl _⟩, ⟨by repeat (first | (with_reducible first | exact HB.out | apply below_alloc | apply pw_below_drewN | apply below_drew1) | exact HB.out)⟩⟩
       ·rw [if_neg c25] at H
        have c25b0 : (t881.toList == ([] : List UInt8)) = false := beq_eq_false_iff_ne.mpr c25
        have c25b1 : (t881.toList != ([] : List UInt8)) = true := bne_iff_ne.mpr c25
        have H' := Aside0.mk H
        clear H
        go_wp2
        go_meet
        case rel => exact ⟨_, (true), (by first | rfl | (simp; done) | (simp [*]; done)), H', ⟨by have := HJ8.out; have := HJ18.out; first | omega | exact Nat.le_refl _⟩, ⟨by repeat (first | (with_reducible first | exact HB.out | apply below_alloc | apply pw_below_drewN | apply below_drew1) | exact HB.out)⟩⟩
     case rest =>
      clear HC22
      try clear c1
      try clear c2
      try clear p2
      try clear c5
      try clear c6
      try clear c17
      try clear c19
      try clear c20
      try clear c21
      try clear c23
      try clear c24
      try clear c24b0
      try clear c24b1
      try clear c25
      try clear c25b0
      try clear c25b1
      try clear c26
      try clear c26b0
      try clear c26b1
      try clear p2
      obtain ⟨kq, x74_21, rfl, HA, HJ21, HB⟩ := hcut
      cases kq with
      | zero => exact absurd HA.out (by simp [numnahlaw09_ParseReads.j2])
      | succ kj21 =>
       have H := HA.out
       clear HA
       simp only [numnahlaw09_ParseReads.j2] at H
       by_cases c27 : x74_21 = true
       ·subst c27
        have H1 : (some false) = some r := by rw [if_pos rfl] at H; exact H
        clear H
        have H := H1
        clear H1
        obtain rfl := Option.some.inj H
        go_wp2
        go_ret
        exact ⟨by first | rfl | (simp [errW_none, errW_some] <;> rfl) | (simp [*, errW_none, errW_some] <;> rfl), by repeat (first | (with_reducible first | exact HB.out | apply below_alloc | apply pw_below_drewN | apply below_drew1) | exact HB.out)⟩
       ·replace c27 := Bool.eq_false_iff.mpr c27
        subst c27
        have H1 : (if x14_18 = true then (if t883.toList = t887.toList then (if t884 = 0 then ((numnahlaw09_awake.f kj21).bind fun t891 => (some t891)) else (some false)) else (some false)) else (if t883.toList = ([] : List UInt8) then (if t884 = 2 then ((numnahlaw09_awake.f kj21).bind fun t892 => (some t892)) else (some false)) else (some false))) = some r := by rw [if_neg (show ¬ (false = true) by decide)] at H; exact H
        clear H
        have H := H1
        clear H1
        by_cases c28 : x14_18 = true
        ·subst c28
         have H1 : (if t883.toList = t887.toList then (if t884 = 0 then ((numnahlaw09_awake.f kj21).bind fun t891 => (some t891)) else (some false)) else (some false)) = some r := by rw [if_pos rfl] at H; exact H
         clear H
         have H := H1
         clear H1
         by_cases c29 : t883.toList = t887.toList
         ·rw [if_pos c29] at H
          have c29b0 : (t883.toList == t887.toList) = true := beq_iff_eq.mpr c29
          have c29b1 : (t883.toList != t887.toList) = false := bne_eq_false_iff_eq.mpr c29
          clear c29
          by_cases c30 : t884 = 0
          ·rw [if_pos c30] at H
           have c30b0 : (t884 == 0) = true := beq_iff_eq.mpr c30
           have c30b1 : (t884 != 0) = false := bne_eq_false_iff_eq.mpr c30
           clear c30
           replace H := Option.bind_eq_some_iff.mp H
           obtain ⟨t891, A310, H⟩ := H
           replace H : (some t891) = some r := H
           have A31 := Aside0.mk A310
           clear A310
           obtain rfl := Option.some.inj H
           go_wp2_with (first | (go_at_call 25; (with_reducible refine (numnahlaw09_awake.calls (hG := ?hg) kj21  t891 _ A31.out).mono ?_); (case hg => exact gw_now hG (by repeat (first | (with_reducible first | exact HB.out | apply below_alloc | apply pw_below_drewN | apply below_drew1) | exact HB.out))); rintro e w32 ⟨rfl, hb⟩; have n0_ := Aside0.mk (below_step (by repeat (first | (with_reducible first | exact HB.out | apply below_alloc | apply pw_below_drewN | apply below_drew1) | exact HB.out)) hb); clear HB; have HB := n0_; clear n0_; (try clear hb); (try clear hb2); (try clear hk); (try clear hi)))
           go_ret
           exact ⟨by first | rfl | (simp [errW_none, errW_some] <;> rfl) | (simp [*, errW_none, errW_some] <;> rfl), by repeat (first | (with_reducible first | exact HB.out | apply below_alloc | apply pw_below_drewN | apply below_drew1) | exact HB.out)⟩
          ·rw [if_neg c30] at H
           have c30b0 : (t884 == 0) = false := beq_eq_false_iff_ne.mpr c30
           have c30b1 : (t884 != 0) = true := bne_iff_ne.mpr c30
           obtain rfl := Option.some.inj H
           go_wp2
           go_ret
           exact ⟨by first | rfl | (simp [errW_none, errW_some] <;> rfl) | (simp [*, errW_none, errW_some] <;> rfl), by repeat (first | (with_reducible first | exact HB.out | apply below_alloc | apply pw_below_drewN | apply below_drew1) | exact HB.out)⟩
         ·rw [if_neg c29] at H
          have c29b0 : (t883.toList == t887.toList) = false := beq_eq_false_iff_ne.mpr c29
          have c29b1 : (t883.toList != t887.toList) = true := bne_iff_ne.mpr c29
          obtain rfl := Option.some.inj H
          go_wp2
          go_ret
          exact ⟨by first | rfl | (simp [errW_none, errW_some] <;> rfl) | (simp [*, errW_none, errW_some] <;> rfl), by repeat (first | (with_reducible first | exact HB.out | apply below_alloc | apply pw_below_drewN | apply below_drew1) | exact HB.out)⟩
        ·replace c28 := Bool.eq_false_iff.mpr c28
         subst c28
         have H1 : (if t883.toList = ([] : List UInt8) then (if t884 = 2 then ((numnahlaw09_awake.f kj21).bind fun t892 => (some t892)) else (some false)) else (some false)) = some r := by rw [if_neg (show ¬ (false = true) by decide)] at H; exact H
         clear H
         have H := H1
         clear H1
         by_cases c33 : t883.toList = ([] : List UInt8)
         ·rw [if_pos c33] at H
          have c33b0 : (t883.toList == ([] : List UInt8)) = true := beq_iff_eq.mpr c33
          have c33b1 : (t883.toList != ([] : List UInt8)) = false := bne_eq_false_iff_eq.mpr c33
          clear c33
          by_cases c34 : t884 = 2
          ·rw [if_pos c34] at H
           have c34b0 : (t884 == 2) = true := beq_iff_eq.mpr c34
           have c34b1 : (t884 != 2) = false := bne_eq_false_iff_eq.mpr c34
           clear c34
           replace H := Option.bind_eq_some_iff.mp H
           obtain ⟨t892, A350, H⟩ := H
           replace H : (some t892) = some r := H
           have A35 := Aside0.mk A350
           clear A350
           obtain rfl := Option.some.inj H
           go_wp2_with (first | (go_at_call 25; (with_reducible refine (numnahlaw09_awake.calls (hG := ?hg) kj21  t892 _ A35.out).mono ?_); (case hg => exact gw_now hG (by repeat (first | (with_reducible first | exact HB.out | apply below_alloc | apply pw_below_drewN | apply below_drew1) | exact HB.out))); rintro e w36 ⟨rfl, hb⟩; have n0_ := Aside0.mk (below_step (by repeat (first | (with_reducible first | exact HB.out | apply below_alloc | apply pw_below_drewN | apply below_drew1) | exact HB.out)) hb); clear HB; have HB := n0_; clear n0_; (try clear hb); (try clear hb2); (try clear hk); (try clear hi)))
           go_ret
           exact ⟨by first | rfl | (simp [errW_none, errW_some] <;> rfl) | (simp [*, errW_none, errW_some] <;> rfl), by repeat (first | (with_reducible first | exact HB.out | apply below_alloc | apply pw_below_drewN | apply below_drew1) | exact HB.out)⟩
          ·rw [if_neg c34] at H
           have c34b0 : (t884 == 2) = false := beq_eq_false_iff_ne.mpr c34
           have c34b1 : (t884 != 2) = true := bne_iff_ne.mpr c34
           obtain rfl := Option.some.inj H
           go_wp2
           go_ret
           exact ⟨by first | rfl | (simp [errW_none, errW_some] <;> rfl) | (simp [*, errW_none, errW_some] <;> rfl), by repeat (first | (with_reducible first | exact HB.out | apply below_alloc | apply pw_below_drewN | apply below_drew1) | exact HB.out)⟩
         ·rw [if_neg c33] at H
          have c33b0 : (t883.toList == ([] : List UInt8)) = false := beq_eq_false_iff_ne.mpr c33
          have c33b1 : (t883.toList != ([] : List UInt8)) = true := bne_iff_ne.mpr c33
          obtain rfl := Option.some.inj H
          go_wp2
          go_ret
          exact ⟨by first | rfl | (simp [errW_none, errW_some] <;> rfl) | (simp [*, errW_none, errW_some] <;> rfl), by repeat (first | (with_reducible first | exact HB.out | apply below_alloc | apply pw_below_drewN | apply below_drew1) | exact HB.out)⟩

end Go.Proofs.YtpeeflkodpnbpaaDoor.Pr
-- indented by one
