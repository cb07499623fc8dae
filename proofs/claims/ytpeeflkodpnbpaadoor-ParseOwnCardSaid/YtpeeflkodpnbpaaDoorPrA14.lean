-- Laid by wip/tools/inj.py of this project, which drives the kit's printer. Lean checks it.
import Derived.Test.YtpeeflkodpnbpaaDoorPr0
import Derived.Test.YtpeeflkodpnbpaaDoorPrA11
namespace Go.Proofs.YtpeeflkodpnbpaaDoor.Pr
open Go.RowKit Go.Proofs.YtpeeflkodpnbpaaDoorW.PrintWords Go.Proofs.YtpeeflkodpnbpaaDoorW.PrintLast Go.Proofs.YtpeeflkodpnbpaaDoorW.PrintMore
attribute [local go_sem] max2_int min2_int max_two min_two max_three min_three max_four min_four   -- for this text's walks alone
set_option linter.unusedVariables false
set_option linter.unusedSimpArgs false

/-! ### numnahref09_Common: function 44 -/
mutual
def numnahref09_Common.l0 : Nat → ByteArray → ByteArray → Int → Option (ByteArray)
 | 0, _, _, _ => none
 | k + 1, x0, x1, x5 => if x5 > 0 then ((numnahref09_parts.f k x0 x5).bind fun t525 => (numnahref09_Common.l1 k x0 x1 x5 t525 0)) else (some (⟨#[]⟩ : ByteArray))
def numnahref09_Common.l1 : Nat → ByteArray → ByteArray → Int → List ByteArray → Int → Option (ByteArray)
 | 0, _, _, _, _, _ => none
 | k + 1, x0, x1, x5, x6, x7 => if x7 < (x6.length : Int) then (if 0 ≤ x7 then ((numnahref09_places.f k x1 (rdOf ByteArray.empty x6 x7)).bind fun t529 => (if (t529.length : Int) > 0 then (some (rdOf ByteArray.empty x6 x7)) else (numnahref09_Common.l1 k x0 x1 x5 x6 (wrap64 (x7 + 1))))) else (none)) else (numnahref09_Common.l0 k x0 x1 (wrap64 (x5 - 1)))
end
def numnahref09_Common.f (k : Nat) (a0 : ByteArray) (a1 : ByteArray) : Option (ByteArray) := numnahref09_Common.l0 k a0 a1 (mn (a0.size : Int) (a1.size : Int))
theorem numnahref09_Common.mono_l : ∀ k, (∀ y0 y1 y2, LeO (numnahref09_Common.l0 k y0 y1 y2) (numnahref09_Common.l0 (k + 1) y0 y1 y2)) ∧ (∀ y0 y1 y2 y3 y4, LeO (numnahref09_Common.l1 k y0 y1 y2 y3 y4) (numnahref09_Common.l1 (k + 1) y0 y1 y2 y3 y4))
 | 0 => ⟨fun _ _ _ r h => by simp [numnahref09_Common.l0] at h, fun _ _ _ _ _ r h => by simp [numnahref09_Common.l1] at h⟩
 | k + 1 => by
  obtain ⟨ih0, ih1⟩ := numnahref09_Common.mono_l k
  refine ⟨?_, ?_⟩
  ·intro y0 y1 y2
   unfold numnahref09_Common.l0
   repeat' first
   | (with_reducible exact ih0 _ _ _)
   | (with_reducible exact ih1 _ _ _ _ _)
   | (with_reducible exact numnahref09_parts.mono _ _ _)
   | (with_reducible exact numnahref09_places.mono _ _ _)
   | (with_reducible exact LeO.refl _)
   | (with_reducible exact LeO.none _)
   | (with_reducible refine LeO.ite ?_ ?_)
   | (with_reducible refine LeO.bind ?_ (fun _ => ?_))
   | exact ih0 _ _ _
   | exact ih1 _ _ _ _ _
   | exact numnahref09_parts.mono _ _ _
   | exact numnahref09_places.mono _ _ _
   | exact LeO.none _
   | refine LeO.ite ?_ ?_
   | refine LeO.bind ?_ (fun _ => ?_)
  ·intro y0 y1 y2 y3 y4
   unfold numnahref09_Common.l1
   repeat' first
   | (with_reducible exact ih0 _ _ _)
   | (with_reducible exact ih1 _ _ _ _ _)
   | (with_reducible exact numnahref09_parts.mono _ _ _)
   | (with_reducible exact numnahref09_places.mono _ _ _)
   | (with_reducible exact LeO.refl _)
   | (with_reducible exact LeO.none _)
   | (with_reducible refine LeO.ite ?_ ?_)
   | (with_reducible refine LeO.bind ?_ (fun _ => ?_))
   | exact ih0 _ _ _
   | exact ih1 _ _ _ _ _
   | exact numnahref09_parts.mono _ _ _
   | exact numnahref09_places.mono _ _ _
   | exact LeO.none _
   | refine LeO.ite ?_ ?_
   | refine LeO.bind ?_ (fun _ => ?_)
theorem numnahref09_Common.mono : ∀ a0 a1 k, LeO (numnahref09_Common.f k a0 a1) (numnahref09_Common.f (k + 1) a0 a1) := by
 intro a0 a1 k
 obtain ⟨ih0, ih1⟩ := numnahref09_Common.mono_l k
 unfold numnahref09_Common.f
 repeat' first
   | (with_reducible exact ih0 _ _ _)
   | (with_reducible exact ih1 _ _ _ _ _)
   | (with_reducible exact numnahref09_parts.mono _ _ _)
   | (with_reducible exact numnahref09_places.mono _ _ _)
   | (with_reducible exact LeO.refl _)
   | (with_reducible exact LeO.none _)
   | (with_reducible refine LeO.ite ?_ ?_)
   | (with_reducible refine LeO.bind ?_ (fun _ => ?_))
   | exact ih0 _ _ _
   | exact ih1 _ _ _ _ _
   | exact numnahref09_parts.mono _ _ _
   | exact numnahref09_places.mono _ _ _
   | exact LeO.none _
   | refine LeO.ite ?_ ?_
   | refine LeO.bind ?_ (fun _ => ?_)
/-! ### numnahlaw09_within: function 45 -/
def numnahlaw09_within.l0 : Nat → ByteArray → ByteArray → Int → Option (Bool)
 | 0, _, _, _ => none
 | k + 1, x0, x1, x5 => if (wrap64 (x5 + (x1.size : Int))) ≤ (x0.size : Int) then (if 0 ≤ x5 then (if x5 ≤ (wrap64 (x5 + (x1.size : Int))) then (if (x0.extract (x5 : Int).toNat ((wrap64 (x5 + (x1.size : Int))) : Int).toNat).toList = x1.toList then (some true) else (numnahlaw09_within.l0 k x0 x1 (wrap64 (x5 + 1)))) else (none)) else (none)) else (some false)
def numnahlaw09_within.f (k : Nat) (a0 : ByteArray) (a1 : ByteArray) : Option (Bool) := numnahlaw09_within.l0 k a0 a1 0
theorem numnahlaw09_within.mono_l : ∀ k, (∀ y0 y1 y2, LeO (numnahlaw09_within.l0 k y0 y1 y2) (numnahlaw09_within.l0 (k + 1) y0 y1 y2))
 | 0 => fun _ _ _ r h => by simp [numnahlaw09_within.l0] at h
 | k + 1 => by
  have ih0 := numnahlaw09_within.mono_l k
  ·intro y0 y1 y2
   unfold numnahlaw09_within.l0
   repeat' first
   | (with_reducible exact ih0 _ _ _)
   | (with_reducible exact LeO.refl _)
   | (with_reducible exact LeO.none _)
   | (with_reducible refine LeO.ite ?_ ?_)
   | (with_reducible refine LeO.bind ?_ (fun _ => ?_))
   | exact ih0 _ _ _
   | exact LeO.none _
   | refine LeO.ite ?_ ?_
   | refine LeO.bind ?_ (fun _ => ?_)
theorem numnahlaw09_within.mono : ∀ a0 a1 k, LeO (numnahlaw09_within.f k a0 a1) (numnahlaw09_within.f (k + 1) a0 a1) := by
 intro a0 a1 k
 have ih0 := numnahlaw09_within.mono_l k
 unfold numnahlaw09_within.f
 repeat' first
   | (with_reducible exact ih0 _ _ _)
   | (with_reducible exact LeO.refl _)
   | (with_reducible exact LeO.none _)
   | (with_reducible refine LeO.ite ?_ ?_)
   | (with_reducible refine LeO.bind ?_ (fun _ => ?_))
   | exact ih0 _ _ _
   | exact LeO.none _
   | refine LeO.ite ?_ ?_
   | refine LeO.bind ?_ (fun _ => ?_)
/-! ### numnahref09_Longest: function 48 -/
mutual
def numnahref09_Longest.l0 : Nat → ByteArray → Int → Option (ByteArray × Int × Int × Bool)
 | 0, _, _ => none
 | k + 1, x0, x6 => if x6 > 0 then ((numnahref09_parts.f k x0 x6).bind fun t619 => (numnahref09_Longest.l1 k x0 x6 t619 0)) else (some ((⟨#[]⟩ : ByteArray), 0, 0, false))
def numnahref09_Longest.l1 : Nat → ByteArray → Int → List ByteArray → Int → Option (ByteArray × Int × Int × Bool)
 | 0, _, _, _, _ => none
 | k + 1, x0, x6, x7, x8 => if x8 < (x7.length : Int) then (if 0 ≤ x8 then ((numnahref09_places.f k x0 (rdOf ByteArray.empty x7 x8)).bind fun t623 => (if (t623.length : Int) > 1 then (if 0 < (t623.length : Int) then (if 1 < (t623.length : Int) then (some (rdOf ByteArray.empty x7 x8, rd t623 0, rd t623 1, true)) else (none)) else (none)) else (numnahref09_Longest.l1 k x0 x6 x7 (wrap64 (x8 + 1))))) else (none)) else (numnahref09_Longest.l0 k x0 (wrap64 (x6 - 1)))
end
def numnahref09_Longest.f (k : Nat) (a0 : ByteArray) : Option (ByteArray × Int × Int × Bool) := numnahref09_Longest.l0 k a0 (wrap64 ((a0.size : Int) - 1))
theorem numnahref09_Longest.mono_l : ∀ k, (∀ y0 y1, LeO (numnahref09_Longest.l0 k y0 y1) (numnahref09_Longest.l0 (k + 1) y0 y1)) ∧ (∀ y0 y1 y2 y3, LeO (numnahref09_Longest.l1 k y0 y1 y2 y3) (numnahref09_Longest.l1 (k + 1) y0 y1 y2 y3))
 | 0 => ⟨fun _ _ r h => by simp [numnahref09_Longest.l0] at h, fun _ _ _ _ r h => by simp [numnahref09_Longest.l1] at h⟩
 | k + 1 => by
  obtain ⟨ih0, ih1⟩ := numnahref09_Longest.mono_l k
  refine ⟨?_, ?_⟩
  ·intro y0 y1
   unfold numnahref09_Longest.l0
   repeat' first
   | (with_reducible exact ih0 _ _)
   | (with_reducible exact ih1 _ _ _ _)
   | (with_reducible exact numnahref09_parts.mono _ _ _)
   | (with_reducible exact numnahref09_places.mono _ _ _)
   | (with_reducible exact LeO.refl _)
   | (with_reducible exact LeO.none _)
   | (with_reducible refine LeO.ite ?_ ?_)
   | (with_reducible refine LeO.bind ?_ (fun _ => ?_))
   | exact ih0 _ _
   | exact ih1 _ _ _ _
   | exact numnahref09_parts.mono _ _ _
   | exact numnahref09_places.mono _ _ _
   | exact LeO.none _
   | refine LeO.ite ?_ ?_
   | refine LeO.bind ?_ (fun _ => ?_)
  ·intro y0 y1 y2 y3
   unfold numnahref09_Longest.l1
   repeat' first
   | (with_reducible exact ih0 _ _)
   | (with_reducible exact ih1 _ _ _ _)
   | (with_reducible exact numnahref09_parts.mono _ _ _)
   | (with_reducible exact numnahref09_places.mono _ _ _)
   | (with_reducible exact LeO.refl _)
   | (with_reducible exact LeO.none _)
   | (with_reducible refine LeO.ite ?_ ?_)
   | (with_reducible refine LeO.bind ?_ (fun _ => ?_))
   | exact ih0 _ _
   | exact ih1 _ _ _ _
   | exact numnahref09_parts.mono _ _ _
   | exact numnahref09_places.mono _ _ _
   | exact LeO.none _
   | refine LeO.ite ?_ ?_
   | refine LeO.bind ?_ (fun _ => ?_)
theorem numnahref09_Longest.mono : ∀ a0 k, LeO (numnahref09_Longest.f k a0) (numnahref09_Longest.f (k + 1) a0) := by
 intro a0 k
 obtain ⟨ih0, ih1⟩ := numnahref09_Longest.mono_l k
 unfold numnahref09_Longest.f
 repeat' first
   | (with_reducible exact ih0 _ _)
   | (with_reducible exact ih1 _ _ _ _)
   | (with_reducible exact numnahref09_parts.mono _ _ _)
   | (with_reducible exact numnahref09_places.mono _ _ _)
   | (with_reducible exact LeO.refl _)
   | (with_reducible exact LeO.none _)
   | (with_reducible refine LeO.ite ?_ ?_)
   | (with_reducible refine LeO.bind ?_ (fun _ => ?_))
   | exact ih0 _ _
   | exact ih1 _ _ _ _
   | exact numnahref09_parts.mono _ _ _
   | exact numnahref09_places.mono _ _ _
   | exact LeO.none _
   | refine LeO.ite ?_ ?_
   | refine LeO.bind ?_ (fun _ => ?_)
/-! ### numnahref09_Substrings: function 49 -/
def numnahref09_Substrings.l0 : Nat → ByteArray → List Int → Int → Option (List Int)
 | 0, _, _, _ => none
 | k + 1, x0, x3, x4 => if x4 ≤ (x0.size : Int) then ((numnahref09_parts.f k x0 x4).bind fun t629 => (if x3.length < 17592186044416 then (numnahref09_Substrings.l0 k x0 (x3 ++ [(t629.length : Int)]) (wrap64 (x4 + 1))) else (none))) else (some x3)
def numnahref09_Substrings.f (k : Nat) (a0 : ByteArray) : Option (List Int) := numnahref09_Substrings.l0 k a0 ([] : List Int) 0
theorem numnahref09_Substrings.mono_l : ∀ k, (∀ y0 y1 y2, LeO (numnahref09_Substrings.l0 k y0 y1 y2) (numnahref09_Substrings.l0 (k + 1) y0 y1 y2))
 | 0 => fun _ _ _ r h => by simp [numnahref09_Substrings.l0] at h
 | k + 1 => by
  have ih0 := numnahref09_Substrings.mono_l k
  ·intro y0 y1 y2
   unfold numnahref09_Substrings.l0
   repeat' first
   | (with_reducible exact ih0 _ _ _)
   | (with_reducible exact numnahref09_parts.mono _ _ _)
   | (with_reducible exact LeO.refl _)
   | (with_reducible exact LeO.none _)
   | (with_reducible refine LeO.ite ?_ ?_)
   | (with_reducible refine LeO.bind ?_ (fun _ => ?_))
   | exact ih0 _ _ _
   | exact numnahref09_parts.mono _ _ _
   | exact LeO.none _
   | refine LeO.ite ?_ ?_
   | refine LeO.bind ?_ (fun _ => ?_)
theorem numnahref09_Substrings.mono : ∀ a0 k, LeO (numnahref09_Substrings.f k a0) (numnahref09_Substrings.f (k + 1) a0) := by
 intro a0 k
 have ih0 := numnahref09_Substrings.mono_l k
 unfold numnahref09_Substrings.f
 repeat' first
   | (with_reducible exact ih0 _ _ _)
   | (with_reducible exact numnahref09_parts.mono _ _ _)
   | (with_reducible exact LeO.refl _)
   | (with_reducible exact LeO.none _)
   | (with_reducible refine LeO.ite ?_ ?_)
   | (with_reducible refine LeO.bind ?_ (fun _ => ?_))
   | exact ih0 _ _ _
   | exact numnahref09_parts.mono _ _ _
   | exact LeO.none _
   | refine LeO.ite ?_ ?_
   | refine LeO.bind ?_ (fun _ => ?_)
set_option maxHeartbeats 8000000 in
set_option maxRecDepth 100000 in
theorem numnahref09_Substrings.calls (k : Nat) (a0 : ByteArray) (r : List Int) (w : World) (h : numnahref09_Substrings.f k a0 = some r) :
  Calls Tryd.prog 49 #[.string a0] w fun e w' => ∃ v0_ : Value, e = .returned (v0_) ∧ Kd.R (Kd.int .i64) 3 w' w.heap.size (fun _ => True) v0_ r ∧ Below w.heap.size w w' := by
 have HB := Aside0.mk (Below.refl w.heap.size w)
 have H : (numnahref09_Substrings.l0 k a0 ([] : List Int) 0) = some r := h
 clear h
 have H' := Aside0.mk H
 clear H
 go_enter Tryd.func49, Tryd.ntmps49
 go_wp2
 go_loopg [3, 4] k (fun kq v3 v4 w' => ∃ (x3_1 : List Int) (x4_1 : Int), v4 = .int .i64 x4_1 ∧ Aside0 (numnahref09_Substrings.l0 kq a0 x3_1 x4_1 = some r) ∧ Aside0 (kq ≤ k) ∧ Aside0 (Kd.R (Kd.int .i64) 3 w' w.heap.size (fun _ => True) v3 x3_1) ∧ Aside0 (Below w.heap.size w w'))
 case atStart => exact ⟨(([] : List Int)), (0), (by first | rfl | (simp; done) | (simp [*]; done)), H', ⟨Nat.le_refl _⟩, ⟨by first | exact Kd.R_nil _ _ _ _ _ | exact Kd.N_nil _ _ _ _ _ | exact Kd.V_nil _ _ _ _ _ | exact Kd.Q_nil _ _ _ _ _ | exact Kd.S_nil _ _ _ _ _⟩, ⟨by repeat (first | (with_reducible first | exact HB.out | apply below_alloc | apply pw_below_drewN | apply below_drew1) | exact HB.out)⟩⟩
 case round =>
  clear H'
  obtain ⟨x3_1, x4_1, rfl, HA, HK1, HO_3, HB⟩ := hrel
  cases gk with
  | zero => exact absurd HA.out (by simp [numnahref09_Substrings.l0])
  | succ k1 =>
   have H := HA.out
   clear HA
   simp only [numnahref09_Substrings.l0] at H
   by_cases c2 : x4_1 ≤ (a0.size : Int)
   ·rw [if_pos c2] at H
    have c2b0 : decide (x4_1 ≤ (a0.size : Int)) = true := decide_eq_true c2
    clear c2
    replace H := Option.bind_eq_some_iff.mp H
    obtain ⟨t629, A30, H⟩ := H
    replace H : (if x3_1.length < 17592186044416 then (numnahref09_Substrings.l0 k1 a0 (x3_1 ++ [(t629.length : Int)]) (wrap64 (x4_1 + 1))) else (none)) = some r := H
    have A3 := Aside0.mk A30
    clear A30
    by_cases c4 : x3_1.length < 17592186044416
    ·rw [if_pos c4] at H
     have LMc4 := Aside0.mk c4
     clear c4
     obtain ⟨y632, hy632⟩ : ∃ y_ : List Int, y_ = (x3_1 ++ [(t629.length : Int)]) := ⟨_, rfl⟩
     replace H : (numnahref09_Substrings.l0 k1 a0 y632 (wrap64 (x4_1 + 1))) = some r := by first | (rw [hy632]; with_reducible exact H) | (have H2_ := (Option.bind_some _ _).symm.trans H; rw [hy632]; with_reducible exact H2_) | (have H2_ := (Option.bind_some _ _).symm.trans H; with_reducible exact H2_) | with_reducible exact H | (rw [hy632]; exact H) | exact H
     have Ny632 := Aside0.mk hy632
     clear hy632
     have H' := Aside0.mk H
     clear H
     go_wp2_with (first | ((with_reducible refine gate_callee (f := 72) rfl ?_); refine goesL_ (some 14) rfl rfl Tryd.func72 (by kernel_rfl) rfl #[.string a0, .int .i64 x4_1] rfl (by (try simp only [List.map_toArray, List.map_cons, List.map_nil]); first | done | rfl | (simp only [List.length_drop, List.length_take]; rfl)) ?_; (with_reducible refine (numnahref09_parts.calls k1 a0 x4_1 t629 _ A3.out).mono ?_); rintro e w5 ⟨v630, rfl, ho0, hb⟩; refine ⟨_, rfl, ?_⟩; have n0_ := Aside0.mk (Kd.R_below (by (with_reducible repeat (first | apply Kd.R_alloc | apply Kd.R_drewN | apply Kd.R_drew)); exact HO_3.out) hb); have n1_ := Aside0.mk (Kd.R_lower ho0 (below_size (by repeat (first | (with_reducible first | exact HB.out | apply below_alloc | apply pw_below_drewN | apply below_drew1) | exact HB.out)))); have n2_ := Aside0.mk (below_step (by repeat (first | (with_reducible first | exact HB.out | apply below_alloc | apply pw_below_drewN | apply below_drew1) | exact HB.out)) hb); clear HO_3; clear HB; have HO_3 := n0_; have HO631 := n1_; have HB := n2_; clear n0_ n1_ n2_; (try clear hb); (try clear hb2); (try clear hk); (try clear hi); (try clear ho0); obtain ⟨Ao6, co6, eo6⟩ := Kd.R_slice HO631.out; subst eo6) | ((with_reducible refine gate_builtin (b := .append) (xs := #[.tmp 11, .tmp 16]) rfl ?_); at_builtin; refine Kd.R_append (Kd.int .i64) (w0 := w) w.heap.size rfl (.tmp 11) (.tmp 16) 34 3 (.int .i64 0) 8 rfl Tryd.underlying34 info3 rfl (by decide) (by omega) u3 x3_1 (t629.length : Int) [.int .i64 (t629.length : Int)] (fun _ => True) (fun _ => False) rfl rfl ?aP (fun _ hk => hk.elim) ?aF ?aO ?aB ?aS ?aL ?_; (case aP => exact rfl); (case aB => exact (by repeat (first | (with_reducible first | exact HB.out | apply below_alloc | apply pw_below_drewN | apply below_drew1) | exact HB.out))); (case aF => exact (fun _ _ => trivial)); (case aO => exact (by (with_reducible repeat (first | apply Kd.R_alloc | apply Kd.R_drewN | apply Kd.R_drew)); exact HO_3.out)); (case aS => exact (below_size (by repeat (first | (with_reducible first | exact HB.out | apply below_alloc | apply pw_below_drewN | apply below_drew1) | exact HB.out)))); (case aL => have := LMc4.out; omega); intro v633 w7 ho hb hg hat; rw [← Ny632.out] at ho; have n0_ := Aside0.mk (Kd.R_over' (by (with_reducible repeat (first | apply Kd.R_alloc | apply Kd.R_drewN | apply Kd.R_drew)); exact HO631.out) (Kd.R_typed (by (with_reducible repeat (first | apply Kd.R_alloc | apply Kd.R_drewN | apply Kd.R_drew)); exact HO_3.out)) (by decide) hg); have n1_ := Aside0.mk (hb); have n2_ := Aside0.mk (ho); clear HO631; clear HB; clear HO_3; have HO631 := n0_; have HB := n1_; have HO634 := n2_; clear n0_ n1_ n2_; clear ho hb hg hat))
     go_roundg k1
     case measure => have := HK1.out; omega
     case rel => exact ⟨(y632), (wrap64 (x4_1 + 1)), (by first | rfl | (simp; done) | (simp [*]; done)), H', ⟨by have := HK1.out; omega⟩, ⟨by (with_reducible repeat (first | apply Kd.R_alloc | apply Kd.R_drewN | apply Kd.R_drew)); exact HO634.out⟩, ⟨by repeat (first | (with_reducible first | exact HB.out | apply below_alloc | apply pw_below_drewN | apply below_drew1) | exact HB.out)⟩⟩
    ·rw [if_neg c4] at H
     exact absurd H (by simp)
   ·rw [if_neg c2] at H
    have c2b0 : decide (x4_1 ≤ (a0.size : Int)) = false := decide_eq_false c2
    clear c2
    obtain rfl := Option.some.inj H
    go_wp2
    go_ret
    exact ⟨_, by first | rfl | (simp [errW_none, errW_some] <;> rfl) | (simp [*, errW_none, errW_some] <;> rfl), by (with_reducible repeat (first | apply Kd.R_alloc | apply Kd.R_drewN | apply Kd.R_drew)); exact HO_3.out, by repeat (first | (with_reducible first | exact HB.out | apply below_alloc | apply pw_below_drewN | apply below_drew1) | exact HB.out)⟩

/-! ### numnahref09_gcd: function 80 -/
def numnahref09_gcd.l0 : Nat → Int → Int → Option (Int)
 | 0, _, _ => none
 | k + 1, x0, x1 => if x1 > 0 then (if x1 = 0 then (none) else (numnahref09_gcd.l0 k x1 (Int.tmod x0 x1))) else (some x0)
def numnahref09_gcd.f (k : Nat) (a0 : Int) (a1 : Int) : Option (Int) := numnahref09_gcd.l0 k a0 a1
theorem numnahref09_gcd.mono_l : ∀ k, (∀ y0 y1, LeO (numnahref09_gcd.l0 k y0 y1) (numnahref09_gcd.l0 (k + 1) y0 y1))
 | 0 => fun _ _ r h => by simp [numnahref09_gcd.l0] at h
 | k + 1 => by
  have ih0 := numnahref09_gcd.mono_l k
  ·intro y0 y1
   unfold numnahref09_gcd.l0
   repeat' first
   | (with_reducible exact ih0 _ _)
   | (with_reducible exact LeO.refl _)
   | (with_reducible exact LeO.none _)
   | (with_reducible refine LeO.ite ?_ ?_)
   | (with_reducible refine LeO.bind ?_ (fun _ => ?_))
   | exact ih0 _ _
   | exact LeO.none _
   | refine LeO.ite ?_ ?_
   | refine LeO.bind ?_ (fun _ => ?_)
theorem numnahref09_gcd.mono : ∀ a0 a1 k, LeO (numnahref09_gcd.f k a0 a1) (numnahref09_gcd.f (k + 1) a0 a1) := by
 intro a0 a1 k
 have ih0 := numnahref09_gcd.mono_l k
 unfold numnahref09_gcd.f
 repeat' first
   | (with_reducible exact ih0 _ _)
   | (with_reducible exact LeO.refl _)
   | (with_reducible exact LeO.none _)
   | (with_reducible refine LeO.ite ?_ ?_)
   | (with_reducible refine LeO.bind ?_ (fun _ => ?_))
   | exact ih0 _ _
   | exact LeO.none _
   | refine LeO.ite ?_ ?_
   | refine LeO.bind ?_ (fun _ => ?_)
end Go.Proofs.YtpeeflkodpnbpaaDoor.Pr
-- indented by one
