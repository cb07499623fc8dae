-- Laid by wip/tools/inj.py of this project, which drives the kit's printer. Lean checks it.
import Derived.Test.YtpeeflkodpnbpaaDoorPr0
namespace Go.Proofs.YtpeeflkodpnbpaaDoor.Pr
open Go.RowKit Go.Proofs.YtpeeflkodpnbpaaDoorW.PrintWords Go.Proofs.YtpeeflkodpnbpaaDoorW.PrintLast Go.Proofs.YtpeeflkodpnbpaaDoorW.PrintMore
attribute [local go_sem] max2_int min2_int max_two min_two max_three min_three max_four min_four   -- for this text's walks alone
set_option linter.unusedVariables false
set_option linter.unusedSimpArgs false

/-! ### numnahref09_number: function 66 -/
def numnahref09_number.l0 : Nat → List ByteArray → ByteArray → Int → Option (Int)
 | 0, _, _, _ => none
 | k + 1, x0, x1, x5 => if x5 < (x0.length : Int) then (if 0 ≤ x5 then (if (rdOf ByteArray.empty x0 x5).toList = x1.toList then (some (wrap64 (x5 + 1))) else (numnahref09_number.l0 k x0 x1 (wrap64 (x5 + 1)))) else (none)) else (some 0)
def numnahref09_number.f (k : Nat) (l0 : List ByteArray) (a1 : ByteArray) : Option (Int) := numnahref09_number.l0 k l0 a1 0
theorem numnahref09_number.mono_l : ∀ k, (∀ y0 y1 y2, LeO (numnahref09_number.l0 k y0 y1 y2) (numnahref09_number.l0 (k + 1) y0 y1 y2))
 | 0 => fun _ _ _ r h => by simp [numnahref09_number.l0] at h
 | k + 1 => by
  have ih0 := numnahref09_number.mono_l k
  ·intro y0 y1 y2
   unfold numnahref09_number.l0
   repeat' first
   | (with_reducible exact ih0 _ _ _)
   | (with_reducible exact LeO.refl _)
   | (with_reducible exact LeO.none _)
   | (with_reducible refine LeO.ite ?_ ?_)
   | (with_reducible refine LeO.bind ?_ (fun _ => ?_))
   | exact ih0 _ _ _
   | exact LeO.none _
   | refine LeO.ite ?_ ?_
   | refine LeO.bind ?_ (fun _ => ?_)
theorem numnahref09_number.mono : ∀ a0 a1 k, LeO (numnahref09_number.f k a0 a1) (numnahref09_number.f (k + 1) a0 a1) := by
 intro a0 a1 k
 have ih0 := numnahref09_number.mono_l k
 unfold numnahref09_number.f
 repeat' first
   | (with_reducible exact ih0 _ _ _)
   | (with_reducible exact LeO.refl _)
   | (with_reducible exact LeO.none _)
   | (with_reducible refine LeO.ite ?_ ?_)
   | (with_reducible refine LeO.bind ?_ (fun _ => ?_))
   | exact ih0 _ _ _
   | exact LeO.none _
   | refine LeO.ite ?_ ?_
   | refine LeO.bind ?_ (fun _ => ?_)
set_option maxHeartbeats 8000000 in
set_option maxRecDepth 100000 in
theorem numnahref09_number.calls (k : Nat) (A0 : Option Addr) (c0 : Nat) (l0 : List ByteArray) (a1 : ByteArray) (r : Int) (w : World) (hr0 : Kd.C Kd.string w A0 l0.length l0) (hc0 : l0.length ≤ c0) (h : numnahref09_number.f k l0 a1 = some r) :
  Calls Tryd.prog 66 #[.slice A0 l0.length c0, .string a1] w fun e w' => e = .returned (.int .i64 r) ∧ Drawn0 w w' := by
 have HR0 := Aside0.mk hr0
 have HC0 := Aside0.mk hc0
 clear hr0 hc0
 have H : (numnahref09_number.l0 k l0 a1 0) = some r := h
 clear h
 have H' := Aside0.mk H
 clear H
 go_enter Tryd.func66, Tryd.ntmps66
 go_wp2
 go_loopg [5] k (fun kq v5 w' => ∃ (x5_1 : Int), v5 = .int .i64 x5_1 ∧ Aside0 (numnahref09_number.l0 kq l0 a1 x5_1 = some r) ∧ Aside0 (kq ≤ k) ∧ Drawn0 w w')
 case atStart => exact ⟨(0), (by first | rfl | (simp; done) | (simp [*]; done)), H', ⟨Nat.le_refl _⟩, by repeat (first | exact Drawn0.refl _ | apply Drawn0.step)⟩
 case round =>
  clear H'
  try clear p2
  obtain ⟨x5_1, rfl, HA, HK1, ⟨m1, rfl⟩⟩ := hrel
  cases gk with
  | zero => exact absurd HA.out (by simp [numnahref09_number.l0])
  | succ k1 =>
   have H := HA.out
   clear HA
   simp only [numnahref09_number.l0] at H
   by_cases c3 : x5_1 < (l0.length : Int)
   ·rw [if_pos c3] at H
    have c3b0 : decide (x5_1 < (l0.length : Int)) = true := decide_eq_true c3
    clear c3
    by_cases c4 : 0 ≤ x5_1
    ·rw [if_pos c4] at H
     have c4b0 : decide (0 ≤ x5_1) = true := decide_eq_true c4
     clear c4
     by_cases c5 : (rdOf ByteArray.empty l0 x5_1).toList = a1.toList
     ·rw [if_pos c5] at H
      have c5b0 : ((rdOf ByteArray.empty l0 x5_1).toList == a1.toList) = true := beq_iff_eq.mpr c5
      have c5b1 : ((rdOf ByteArray.empty l0 x5_1).toList != a1.toList) = false := bne_eq_false_iff_eq.mpr c5
      clear c5
      obtain rfl := Option.some.inj H
      have p279 : 0 ≤ (x5_1 : Int) := of_decide_eq_true (by first | (with_reducible assumption) | assumption)
      have q279 : x5_1 < (l0.length : Int) := of_decide_eq_true (by first | (with_reducible assumption) | assumption)
      obtain ⟨ad279, e279, hx279_0⟩ := Kd.at_string HR0.out x5_1 p279 q279
      cases e279
      replace p279 := eq_true p279
      replace q279 := eq_true q279
      go_wp2
      go_ret
      exact ⟨by first | rfl | (simp; done) | (simp [*]; done), by repeat (first | exact Drawn0.refl _ | apply Drawn0.step)⟩
     ·rw [if_neg c5] at H
      have c5b0 : ((rdOf ByteArray.empty l0 x5_1).toList == a1.toList) = false := beq_eq_false_iff_ne.mpr c5
      have c5b1 : ((rdOf ByteArray.empty l0 x5_1).toList != a1.toList) = true := bne_iff_ne.mpr c5
      have H' := Aside0.mk H
      clear H
      have p279 : 0 ≤ (x5_1 : Int) := of_decide_eq_true (by first | (with_reducible assumption) | assumption)
      have q279 : x5_1 < (l0.length : Int) := of_decide_eq_true (by first | (with_reducible assumption) | assumption)
      obtain ⟨ad279, e279, hx279_0⟩ := Kd.at_string HR0.out x5_1 p279 q279
      cases e279
      replace p279 := eq_true p279
      replace q279 := eq_true q279
      go_wp2
      go_roundg k1
      case measure => have := HK1.out; omega
      case rel => exact ⟨(wrap64 (x5_1 + 1)), (by first | rfl | (simp; done) | (simp [*]; done)), H', ⟨by have := HK1.out; omega⟩, by repeat (first | exact Drawn0.refl _ | apply Drawn0.step)⟩
    ·rw [if_neg c4] at H
     exact absurd H (by simp)
   ·rw [if_neg c3] at H
    have c3b0 : decide (x5_1 < (l0.length : Int)) = false := decide_eq_false c3
    clear c3
    obtain rfl := Option.some.inj H
    go_wp2
    go_ret
    exact ⟨by first | rfl | (simp; done) | (simp [*]; done), by repeat (first | exact Drawn0.refl _ | apply Drawn0.step)⟩

/-! ### numnahref09_Learning: function 28 -/
mutual
def numnahref09_Learning.l0 : Nat → ByteArray → List (S63) → List ByteArray → Int → Option ((List (S63)))
 | 0, _, _, _, _ => none
 | k + 1, x0, x3, x4, x5 => if x5 < (x0.size : Int) then (numnahref09_Learning.l1 k x0 x3 x4 x5 0 0) else (some x3)
def numnahref09_Learning.l1 : Nat → ByteArray → List (S63) → List ByteArray → Int → Int → Int → Option ((List (S63)))
 | 0, _, _, _, _, _, _ => none
 | k + 1, x0, x3, x4, x5, x6, x7 => if x6 = 0 then (numnahref09_Learning.j2 k x0 x3 x4 x5 x6 true) else (if x7 > 0 then (numnahref09_Learning.j2 k x0 x3 x4 x5 x6 (decide ((wrap64 (x5 + x6)) < (x0.size : Int)))) else (numnahref09_Learning.j2 k x0 x3 x4 x5 x6 false))
def numnahref09_Learning.j2 : Nat → ByteArray → List (S63) → List ByteArray → Int → Int → Bool → Option ((List (S63)))
 | 0, _, _, _, _, _, _ => none
 | k + 1, x0, x3, x4, x5, x6, x27 => if x27 = true then (if 0 ≤ x5 then (if x5 ≤ (wrap64 (x5 + (wrap64 (x6 + 1)))) then (if (wrap64 (x5 + (wrap64 (x6 + 1)))) ≤ (x0.size : Int) then ((numnahref09_number.f k x4 (x0.extract (x5 : Int).toNat ((wrap64 (x5 + (wrap64 (x6 + 1)))) : Int).toNat)).bind fun t280 => (if t280 = 0 then (if x5 ≤ (wrap64 ((wrap64 (x5 + (wrap64 (x6 + 1)))) - 1)) then (if (wrap64 ((wrap64 (x5 + (wrap64 (x6 + 1)))) - 1)) ≤ (x0.size : Int) then ((numnahref09_number.f k x4 (x0.extract (x5 : Int).toNat ((wrap64 ((wrap64 (x5 + (wrap64 (x6 + 1)))) - 1)) : Int).toNat)).bind fun t281 => (if x3.length < 8796093022208 then (if x4.length < 8796093022208 then (numnahref09_Learning.l0 k x0 (x3 ++ [(⟨t281, wrap64 (x6 + 1)⟩ : S63)]) (x4 ++ [x0.extract (x5 : Int).toNat ((wrap64 (x5 + (wrap64 (x6 + 1)))) : Int).toNat]) (wrap64 (x5 + (wrap64 (x6 + 1))))) else (none)) else (none))) else (none)) else (none)) else (numnahref09_Learning.l1 k x0 x3 x4 x5 (wrap64 (x6 + 1)) t280))) else (none)) else (none)) else (none)) else (if 0 ≤ x5 then (if x5 ≤ (wrap64 ((wrap64 (x5 + x6)) - 1)) then (if (wrap64 ((wrap64 (x5 + x6)) - 1)) ≤ (x0.size : Int) then ((numnahref09_number.f k x4 (x0.extract (x5 : Int).toNat ((wrap64 ((wrap64 (x5 + x6)) - 1)) : Int).toNat)).bind fun t288 => (if x3.length < 8796093022208 then (if x5 ≤ (wrap64 (x5 + x6)) then (if (wrap64 (x5 + x6)) ≤ (x0.size : Int) then (if x4.length < 8796093022208 then (numnahref09_Learning.l0 k x0 (x3 ++ [(⟨t288, x6⟩ : S63)]) (x4 ++ [x0.extract (x5 : Int).toNat ((wrap64 (x5 + x6)) : Int).toNat]) (wrap64 (x5 + x6))) else (none)) else (none)) else (none)) else (none))) else (none)) else (none)) else (none))
end
def numnahref09_Learning.f (k : Nat) (a0 : ByteArray) : Option ((List (S63))) := numnahref09_Learning.l0 k a0 ([] : List (S63)) ([] : List ByteArray) 0
theorem numnahref09_Learning.mono_l : ∀ k, (∀ y0 y1 y2 y3, LeO (numnahref09_Learning.l0 k y0 y1 y2 y3) (numnahref09_Learning.l0 (k + 1) y0 y1 y2 y3)) ∧ (∀ y0 y1 y2 y3 y4 y5, LeO (numnahref09_Learning.l1 k y0 y1 y2 y3 y4 y5) (numnahref09_Learning.l1 (k + 1) y0 y1 y2 y3 y4 y5)) ∧ (∀ y0 y1 y2 y3 y4 y5, LeO (numnahref09_Learning.j2 k y0 y1 y2 y3 y4 y5) (numnahref09_Learning.j2 (k + 1) y0 y1 y2 y3 y4 y5))
 | 0 => ⟨fun _ _ _ _ r h => by simp [numnahref09_Learning.l0] at h, fun _ _ _ _ _ _ r h => by simp [numnahref09_Learning.l1] at h, fun _ _ _ _ _ _ r h => by simp [numnahref09_Learning.j2] at h⟩
 | k + 1 => by
  obtain ⟨ih0, ih1, ih2⟩ := numnahref09_Learning.mono_l k
  refine ⟨?_, ?_, ?_⟩
  ·intro y0 y1 y2 y3
   unfold numnahref09_Learning.l0
   repeat' first
   | (with_reducible exact ih0 _ _ _ _)
   | (with_reducible exact ih1 _ _ _ _ _ _)
   | (with_reducible exact ih2 _ _ _ _ _ _)
   | (with_reducible exact numnahref09_number.mono _ _ _)
   | (with_reducible exact LeO.refl _)
   | (with_reducible exact LeO.none _)
   | (with_reducible refine LeO.ite ?_ ?_)
   | (with_reducible refine LeO.bind ?_ (fun _ => ?_))
   | exact ih0 _ _ _ _
   | exact ih1 _ _ _ _ _ _
   | exact ih2 _ _ _ _ _ _
   | exact numnahref09_number.mono _ _ _
   | exact LeO.none _
   | refine LeO.ite ?_ ?_
   | refine LeO.bind ?_ (fun _ => ?_)
  ·intro y0 y1 y2 y3 y4 y5
   unfold numnahref09_Learning.l1
   repeat' first
   | (with_reducible exact ih0 _ _ _ _)
   | (with_reducible exact ih1 _ _ _ _ _ _)
   | (with_reducible exact ih2 _ _ _ _ _ _)
   | (with_reducible exact numnahref09_number.mono _ _ _)
   | (with_reducible exact LeO.refl _)
   | (with_reducible exact LeO.none _)
   | (with_reducible refine LeO.ite ?_ ?_)
   | (with_reducible refine LeO.bind ?_ (fun _ => ?_))
   | exact ih0 _ _ _ _
   | exact ih1 _ _ _ _ _ _
   | exact ih2 _ _ _ _ _ _
   | exact numnahref09_number.mono _ _ _
   | exact LeO.none _
   | refine LeO.ite ?_ ?_
   | refine LeO.bind ?_ (fun _ => ?_)
  ·intro y0 y1 y2 y3 y4 y5
   unfold numnahref09_Learning.j2
   repeat' first
   | (with_reducible exact ih0 _ _ _ _)
   | (with_reducible exact ih1 _ _ _ _ _ _)
   | (with_reducible exact ih2 _ _ _ _ _ _)
   | (with_reducible exact numnahref09_number.mono _ _ _)
   | (with_reducible exact LeO.refl _)
   | (with_reducible exact LeO.none _)
   | (with_reducible refine LeO.ite ?_ ?_)
   | (with_reducible refine LeO.bind ?_ (fun _ => ?_))
   | exact ih0 _ _ _ _
   | exact ih1 _ _ _ _ _ _
   | exact ih2 _ _ _ _ _ _
   | exact numnahref09_number.mono _ _ _
   | exact LeO.none _
   | refine LeO.ite ?_ ?_
   | refine LeO.bind ?_ (fun _ => ?_)
theorem numnahref09_Learning.mono : ∀ a0 k, LeO (numnahref09_Learning.f k a0) (numnahref09_Learning.f (k + 1) a0) := by
 intro a0 k
 obtain ⟨ih0, ih1, ih2⟩ := numnahref09_Learning.mono_l k
 unfold numnahref09_Learning.f
 repeat' first
   | (with_reducible exact ih0 _ _ _ _)
   | (with_reducible exact ih1 _ _ _ _ _ _)
   | (with_reducible exact ih2 _ _ _ _ _ _)
   | (with_reducible exact numnahref09_number.mono _ _ _)
   | (with_reducible exact LeO.refl _)
   | (with_reducible exact LeO.none _)
   | (with_reducible refine LeO.ite ?_ ?_)
   | (with_reducible refine LeO.bind ?_ (fun _ => ?_))
   | exact ih0 _ _ _ _
   | exact ih1 _ _ _ _ _ _
   | exact ih2 _ _ _ _ _ _
   | exact numnahref09_number.mono _ _ _
   | exact LeO.none _
   | refine LeO.ite ?_ ?_
   | refine LeO.bind ?_ (fun _ => ?_)
set_option maxHeartbeats 8000000 in
set_option maxRecDepth 100000 in
theorem numnahref09_Learning.calls (k : Nat) (a0 : ByteArray) (r : List (S63)) (w : World) (h : numnahref09_Learning.f k a0 = some r) :
  Calls Tryd.prog 28 #[.string a0] w fun e w' => ∃ v0_ : Value, e = .returned (v0_) ∧ Kd.R k63 63 w' w.heap.size (fun _ => True) v0_ r ∧ Below w.heap.size w w' := by
 have hu63 := Tryd.underlying63
 have HB := Aside0.mk (Below.refl w.heap.size w)
 have H : (numnahref09_Learning.l0 k a0 ([] : List (S63)) ([] : List ByteArray) 0) = some r := h
 clear h
 have H' := Aside0.mk H
 clear H
 go_enter Tryd.func28, Tryd.ntmps28
 go_wp2
 go_loopg [3, 4, 5] k (fun kq v3 v4 v5 w' => ∃ (x3_1 : List (S63)) (x4_1 : List ByteArray) (x5_1 : Int), v5 = .int .i64 x5_1 ∧ Aside0 (numnahref09_Learning.l0 kq a0 x3_1 x4_1 x5_1 = some r) ∧ Aside0 (kq ≤ k) ∧ Aside0 (Kd.R k63 63 w' w.heap.size (fun _ => True) v3 x3_1) ∧ Aside0 (Kd.R Kd.string 9 w' w.heap.size (fun _ => True) v4 x4_1) ∧ Aside0 (Below w.heap.size w w'))
 case atStart => exact ⟨(([] : List (S63))), (([] : List ByteArray)), (0), (by first | rfl | (simp; done) | (simp [*]; done)), H', ⟨Nat.le_refl _⟩, ⟨by first | exact Kd.R_nil _ _ _ _ _ | exact Kd.N_nil _ _ _ _ _ | exact Kd.V_nil _ _ _ _ _ | exact Kd.Q_nil _ _ _ _ _ | exact Kd.S_nil _ _ _ _ _⟩, ⟨by first | exact Kd.R_nil _ _ _ _ _ | exact Kd.N_nil _ _ _ _ _ | exact Kd.V_nil _ _ _ _ _ | exact Kd.Q_nil _ _ _ _ _ | exact Kd.S_nil _ _ _ _ _⟩, ⟨by repeat (first | (with_reducible first | exact HB.out | apply below_alloc | apply pw_below_drewN | apply below_drew1) | exact HB.out)⟩⟩
 case round =>
  clear H'
  obtain ⟨x3_1, x4_1, x5_1, rfl, HA, HK1, HO_3, HO_4, HB⟩ := hrel
  cases gk with
  | zero => exact absurd HA.out (by simp [numnahref09_Learning.l0])
  | succ k1 =>
   have H := HA.out
   clear HA
   simp only [numnahref09_Learning.l0] at H
   by_cases c2 : x5_1 < (a0.size : Int)
   ·rw [if_pos c2] at H
    have c2b0 : decide (x5_1 < (a0.size : Int)) = true := decide_eq_true c2
    clear c2
    have H' := Aside0.mk H
    clear H
    go_wp2
    go_loopg [6, 7] k1 (fun kq v6 v7 w' => ∃ (x6_2 : Int) (x7_2 : Int), v6 = .int .i64 x6_2 ∧ v7 = .int .i64 x7_2 ∧ Aside0 (numnahref09_Learning.l1 kq a0 x3_1 x4_1 x5_1 x6_2 x7_2 = some r) ∧ Aside0 (kq ≤ k1) ∧ Aside0 (Kd.R k63 63 w' w.heap.size (fun _ => True) u3 x3_1) ∧ Aside0 (Kd.R Kd.string 9 w' w.heap.size (fun _ => True) u4 x4_1) ∧ Aside0 (Below w.heap.size w w'))
    case atStart => exact ⟨(0), (0), (by first | rfl | (simp; done) | (simp [*]; done)), (by first | rfl | (simp; done) | (simp [*]; done)), H', ⟨Nat.le_refl _⟩, ⟨by (with_reducible repeat (first | apply Kd.R_alloc | apply Kd.R_drewN | apply Kd.R_drew)); exact HO_3.out⟩, ⟨by (with_reducible repeat (first | apply Kd.R_alloc | apply Kd.R_drewN | apply Kd.R_drew)); exact HO_4.out⟩, ⟨by repeat (first | (with_reducible first | exact HB.out | apply below_alloc | apply pw_below_drewN | apply below_drew1) | exact HB.out)⟩⟩
    case round =>
     clear H'
     try clear c2
     try clear c2b0
     try clear p2
     obtain ⟨x6_2, x7_2, rfl, rfl, HA, HK2, HO_3, HO_4, HB⟩ := hrel
     cases gk with
     | zero => exact absurd HA.out (by simp [numnahref09_Learning.l1])
     | succ k2 =>
      have H := HA.out
      clear HA
      simp only [numnahref09_Learning.l1] at H
      have HC3 := Aside0.mk H
      clear H
      go_upto_region 6 with (fail)
      go_cut [27] (fun v27 wc => ∃ (kq : Nat) (x27_2 : Bool), v27 = .bool x27_2 ∧ Aside0 (numnahref09_Learning.j2 kq a0 x3_1 x4_1 x5_1 x6_2 x27_2 = some r) ∧ Aside0 (kq ≤ k2) ∧ Aside0 (Kd.R k63 63 wc w.heap.size (fun _ => True) u3 x3_1) ∧ Aside0 (Kd.R Kd.string 9 wc w.heap.size (fun _ => True) u4 x4_1) ∧ Aside0 (Below w.heap.size w wc))
      case first =>
       have H := HC3.out
       clear HC3
       by_cases c4 : x6_2 = 0
       ·rw [if_pos c4] at H
        have c4b0 : (x6_2 == 0) = true := beq_iff_eq.mpr c4
        have c4b1 : (x6_2 != 0) = false := bne_eq_false_iff_eq.mpr c4
        clear c4
        (first | rw [c4b0] | (simp only [i64_w, i32_w]; rw [c4b0]) | skip)
        have H' := Aside0.mk H
        clear H
        go_wp2
        go_meet
        case rel => exact ⟨_, (true), (by first | rfl | (simp; done) | (simp [*]; done)), H', ⟨by have := HK1.out; have := HK2.out; first | omega | exact Nat.le_refl _⟩, ⟨by (with_reducible repeat (first | apply Kd.R_alloc | apply Kd.R_drewN | apply Kd.R_drew)); exact HO_3.out⟩, ⟨by (with_reducible repeat (first | apply Kd.R_alloc | apply Kd.R_drewN | apply Kd.R_drew)); exact HO_4.out⟩, ⟨by repeat (first | (with_reducible first | exact HB.out | apply below_alloc | apply pw_below_drewN | apply below_drew1) | exact HB.out)⟩⟩
       ·rw [if_neg c4] at H
        have c4b0 : (x6_2 == 0) = false := beq_eq_false_iff_ne.mpr c4
        have c4b1 : (x6_2 != 0) = true := bne_iff_ne.mpr c4
        (first | rw [c4b0] | (simp only [i64_w, i32_w]; rw [c4b0]) | skip)
        by_cases c5 : x7_2 > 0
        ·rw [if_pos c5] at H
         have c5b0 : decide (0 < x7_2) = true := decide_eq_true c5
         clear c5
         have H' := Aside0.mk H
         clear H
         go_wp2
         go_meet
         case rel => exact ⟨_, (decide ((wrap64 (x5_1 + x6_2)) < (a0.size : Int))), (by first | rfl | (simp; done) | (simp [*]; done)), H', ⟨by have := HK1.out; have := HK2.out; first | omega | exact Nat.le_refl _⟩, ⟨by (with_reducible repeat (first | apply Kd.R_alloc | apply Kd.R_drewN | apply Kd.R_drew)); exact HO_3.out⟩, ⟨by (with_reducible repeat (first | apply Kd.R_alloc | apply Kd.R_drewN | apply Kd.R_drew)); exact HO_4.out⟩, ⟨by repeat (first | (with_reducible first | exact HB.out | apply below_alloc | apply pw_below_drewN | apply below_drew1) | exact HB.out)⟩⟩
        ·rw [if_neg c5] at H
         have c5b0 : decide (0 < x7_2) = false := decide_eq_false c5
         clear c5
         have H' := Aside0.mk H
         clear H
         go_wp2
         go_meet
         case rel => exact ⟨_, (false), (by first | rfl | (simp; done) | (simp [*]; done)), H', ⟨by have := HK1.out; have := HK2.out; first | omega | exact Nat.le_refl _⟩, ⟨by (with_reducible repeat (first | apply Kd.R_alloc | apply Kd.R_drewN | apply Kd.R_drew)); exact HO_3.out⟩, ⟨by (with_reducible repeat (first | apply Kd.R_alloc | apply Kd.R_drewN | apply Kd.R_drew)); exact HO_4.out⟩, ⟨by repeat (first | (with_reducible first | exact HB.out | apply below_alloc | apply pw_below_drewN | apply below_drew1) | exact HB.out)⟩⟩
      case rest =>
       clear HC3
       try clear c2
       try clear c2b0
       try clear p2
       try clear c4
       try clear c4b0
       try clear c4b1
       try clear c5
       try clear c5b0
       try clear p2
       obtain ⟨kq, x27_2, rfl, HA, HJ2, HO_3, HO_4, HB⟩ := hcut
       cases kq with
       | zero => exact absurd HA.out (by simp [numnahref09_Learning.j2])
       | succ kj2 =>
        have H := HA.out
        clear HA
        simp only [numnahref09_Learning.j2] at H
        by_cases c6 : x27_2 = true
        ·subst c6
         have H1 : (if 0 ≤ x5_1 then (if x5_1 ≤ (wrap64 (x5_1 + (wrap64 (x6_2 + 1)))) then (if (wrap64 (x5_1 + (wrap64 (x6_2 + 1)))) ≤ (a0.size : Int) then ((numnahref09_number.f kj2 x4_1 (a0.extract (x5_1 : Int).toNat ((wrap64 (x5_1 + (wrap64 (x6_2 + 1)))) : Int).toNat)).bind fun t280 => (if t280 = 0 then (if x5_1 ≤ (wrap64 ((wrap64 (x5_1 + (wrap64 (x6_2 + 1)))) - 1)) then (if (wrap64 ((wrap64 (x5_1 + (wrap64 (x6_2 + 1)))) - 1)) ≤ (a0.size : Int) then ((numnahref09_number.f kj2 x4_1 (a0.extract (x5_1 : Int).toNat ((wrap64 ((wrap64 (x5_1 + (wrap64 (x6_2 + 1)))) - 1)) : Int).toNat)).bind fun t281 => (if x3_1.length < 8796093022208 then (if x4_1.length < 8796093022208 then (numnahref09_Learning.l0 kj2 a0 (x3_1 ++ [(⟨t281, wrap64 (x6_2 + 1)⟩ : S63)]) (x4_1 ++ [a0.extract (x5_1 : Int).toNat ((wrap64 (x5_1 + (wrap64 (x6_2 + 1)))) : Int).toNat]) (wrap64 (x5_1 + (wrap64 (x6_2 + 1))))) else (none)) else (none))) else (none)) else (none)) else (numnahref09_Learning.l1 kj2 a0 x3_1 x4_1 x5_1 (wrap64 (x6_2 + 1)) t280))) else (none)) else (none)) else (none)) = some r := by rw [if_pos rfl] at H; exact H
         clear H
         have H := H1
         clear H1
         by_cases c7 : 0 ≤ x5_1
         ·rw [if_pos c7] at H
          have c7b0 := eq_true c7
          have c7b1 : decide (0 ≤ x5_1) = true := decide_eq_true c7
          clear c7
          by_cases c8 : x5_1 ≤ (wrap64 (x5_1 + (wrap64 (x6_2 + 1))))
          ·rw [if_pos c8] at H
           have c8b0 := eq_true c8
           have c8b1 : decide (x5_1 ≤ (wrap64 (x5_1 + (wrap64 (x6_2 + 1))))) = true := decide_eq_true c8
           by_cases c9 : (wrap64 (x5_1 + (wrap64 (x6_2 + 1)))) ≤ (a0.size : Int)
           ·rw [if_pos c9] at H
            have c9b0 := eq_true c9
            have c9b1 : decide ((wrap64 (x5_1 + (wrap64 (x6_2 + 1)))) ≤ (a0.size : Int)) = true := decide_eq_true c9
            replace H := Option.bind_eq_some_iff.mp H
            obtain ⟨t280, A100, H⟩ := H
            replace H : (if t280 = 0 then (if x5_1 ≤ (wrap64 ((wrap64 (x5_1 + (wrap64 (x6_2 + 1)))) - 1)) then (if (wrap64 ((wrap64 (x5_1 + (wrap64 (x6_2 + 1)))) - 1)) ≤ (a0.size : Int) then ((numnahref09_number.f kj2 x4_1 (a0.extract (x5_1 : Int).toNat ((wrap64 ((wrap64 (x5_1 + (wrap64 (x6_2 + 1)))) - 1)) : Int).toNat)).bind fun t281 => (if x3_1.length < 8796093022208 then (if x4_1.length < 8796093022208 then (numnahref09_Learning.l0 kj2 a0 (x3_1 ++ [(⟨t281, wrap64 (x6_2 + 1)⟩ : S63)]) (x4_1 ++ [a0.extract (x5_1 : Int).toNat ((wrap64 (x5_1 + (wrap64 (x6_2 + 1)))) : Int).toNat]) (wrap64 (x5_1 + (wrap64 (x6_2 + 1))))) else (none)) else (none))) else (none)) else (none)) else (numnahref09_Learning.l1 kj2 a0 x3_1 x4_1 x5_1 (wrap64 (x6_2 + 1)) t280)) = some r := H
            have A10 := Aside0.mk A100
            clear A100
            by_cases c11 : t280 = 0
            ·rw [if_pos c11] at H
             have c11b0 : (t280 == 0) = true := beq_iff_eq.mpr c11
             have c11b1 : (t280 != 0) = false := bne_eq_false_iff_eq.mpr c11
             clear c11
             have c12b0 := eq_true (of_decide_eq_true (by first | (with_reducible assumption) | assumption) : 0 ≤ x5_1)
             by_cases c13 : x5_1 ≤ (wrap64 ((wrap64 (x5_1 + (wrap64 (x6_2 + 1)))) - 1))
             ·rw [if_pos c13] at H
              have c13b0 := eq_true c13
              have c13b1 : decide (x5_1 ≤ (wrap64 ((wrap64 (x5_1 + (wrap64 (x6_2 + 1)))) - 1))) = true := decide_eq_true c13
              by_cases c14 : (wrap64 ((wrap64 (x5_1 + (wrap64 (x6_2 + 1)))) - 1)) ≤ (a0.size : Int)
              ·rw [if_pos c14] at H
               have c14b0 := eq_true c14
               have c14b1 : decide ((wrap64 ((wrap64 (x5_1 + (wrap64 (x6_2 + 1)))) - 1)) ≤ (a0.size : Int)) = true := decide_eq_true c14
               replace H := Option.bind_eq_some_iff.mp H
               obtain ⟨t281, A150, H⟩ := H
               replace H : (if x3_1.length < 8796093022208 then (if x4_1.length < 8796093022208 then (numnahref09_Learning.l0 kj2 a0 (x3_1 ++ [(⟨t281, wrap64 (x6_2 + 1)⟩ : S63)]) (x4_1 ++ [a0.extract (x5_1 : Int).toNat ((wrap64 (x5_1 + (wrap64 (x6_2 + 1)))) : Int).toNat]) (wrap64 (x5_1 + (wrap64 (x6_2 + 1))))) else (none)) else (none)) = some r := H
               have A15 := Aside0.mk A150
               clear A150
               by_cases c16 : x3_1.length < 8796093022208
               ·rw [if_pos c16] at H
                have LMc16 := Aside0.mk c16
                clear c16
                obtain ⟨y282, hy282⟩ : ∃ y_ : List (S63), y_ = (x3_1 ++ [(⟨t281, wrap64 (x6_2 + 1)⟩ : S63)]) := ⟨_, rfl⟩
                replace H : (if x4_1.length < 8796093022208 then (numnahref09_Learning.l0 kj2 a0 y282 (x4_1 ++ [a0.extract (x5_1 : Int).toNat ((wrap64 (x5_1 + (wrap64 (x6_2 + 1)))) : Int).toNat]) (wrap64 (x5_1 + (wrap64 (x6_2 + 1))))) else (none)) = some r := by first | (rw [hy282]; with_reducible exact H) | (have H2_ := (Option.bind_some _ _).symm.trans H; rw [hy282]; with_reducible exact H2_) | (have H2_ := (Option.bind_some _ _).symm.trans H; with_reducible exact H2_) | with_reducible exact H | (rw [hy282]; exact H) | exact H
                have Ny282 := Aside0.mk hy282
                clear hy282
                have c17b0 := eq_true (of_decide_eq_true (by first | (with_reducible assumption) | assumption) : 0 ≤ x5_1)
                have c18b0 := eq_true (of_decide_eq_true (by first | (with_reducible assumption) | assumption) : x5_1 ≤ (wrap64 (x5_1 + (wrap64 (x6_2 + 1)))))
                have c19b0 := eq_true (of_decide_eq_true (by first | (with_reducible assumption) | assumption) : (wrap64 (x5_1 + (wrap64 (x6_2 + 1)))) ≤ (a0.size : Int))
                by_cases c20 : x4_1.length < 8796093022208
                ·rw [if_pos c20] at H
                 have LMc20 := Aside0.mk c20
                 clear c20
                 obtain ⟨y285, hy285⟩ : ∃ y_ : List ByteArray, y_ = (x4_1 ++ [a0.extract (x5_1 : Int).toNat ((wrap64 (x5_1 + (wrap64 (x6_2 + 1)))) : Int).toNat]) := ⟨_, rfl⟩
                 replace H : (numnahref09_Learning.l0 kj2 a0 y282 y285 (wrap64 (x5_1 + (wrap64 (x6_2 + 1))))) = some r := by first | (rw [hy285]; with_reducible exact H) | (have H2_ := (Option.bind_some _ _).symm.trans H; rw [hy285]; with_reducible exact H2_) | (have H2_ := (Option.bind_some _ _).symm.trans H; with_reducible exact H2_) | with_reducible exact H | (rw [hy285]; exact H) | exact H
                 have Ny285 := Aside0.mk hy285
                 clear hy285
                 have H' := Aside0.mk H
                 clear H
                 obtain ⟨Ao21, co21, eo21⟩ := Kd.R_slice HO_4.out
                 subst eo21
                 go_wp2_with (first | ((with_reducible refine gate_callee (f := 66) rfl ?_); refine goesL_ (some 37) rfl rfl Tryd.func66 (by kernel_rfl) rfl #[.slice Ao21 x4_1.length co21, .string (a0.extract (x5_1 : Int).toNat ((wrap64 (x5_1 + (wrap64 (x6_2 + 1)))) : Int).toNat)] rfl (by (try simp only [List.map_toArray, List.map_cons, List.map_nil]); first | done | rfl | (simp only [List.length_drop, List.length_take]; rfl)) ?_; (with_reducible refine (numnahref09_number.calls kj2 _ _ x4_1 (a0.extract (x5_1 : Int).toNat ((wrap64 (x5_1 + (wrap64 (x6_2 + 1)))) : Int).toNat) t280 _ ?side1 ?side2 A10.out).mono ?_); (case side1 => repeat (first | exact (Kd.R_reads' HO_4.out).2.2 | (with_reducible refine Kd.C_alloc ?_ _) | (with_reducible refine Kd.C_drewN ?_ _) | (with_reducible refine Kd.C_drew ?_))); (case side2 => exact (Kd.R_reads' HO_4.out).2.1); rintro e w' ⟨rfl, ⟨nd, rfl⟩⟩; refine ⟨_, rfl, ?_⟩) | ((with_reducible refine gate_callee (f := 66) rfl ?_); refine goesL_ (some 49) rfl rfl Tryd.func66 (by kernel_rfl) rfl #[.slice Ao21 x4_1.length co21, .string (a0.extract (x5_1 : Int).toNat ((wrap64 ((wrap64 (x5_1 + (wrap64 (x6_2 + 1)))) - 1)) : Int).toNat)] rfl (by (try simp only [List.map_toArray, List.map_cons, List.map_nil]); first | done | rfl | (simp only [List.length_drop, List.length_take]; rfl)) ?_; (with_reducible refine (numnahref09_number.calls kj2 _ _ x4_1 (a0.extract (x5_1 : Int).toNat ((wrap64 ((wrap64 (x5_1 + (wrap64 (x6_2 + 1)))) - 1)) : Int).toNat) t281 _ ?side1 ?side2 A15.out).mono ?_); (case side1 => repeat (first | exact (Kd.R_reads' HO_4.out).2.2 | (with_reducible refine Kd.C_alloc ?_ _) | (with_reducible refine Kd.C_drewN ?_ _) | (with_reducible refine Kd.C_drew ?_))); (case side2 => exact (Kd.R_reads' HO_4.out).2.1); rintro e w' ⟨rfl, ⟨nd, rfl⟩⟩; refine ⟨_, rfl, ?_⟩) | ((with_reducible refine gate_builtin (b := .append) (xs := #[.tmp 50, .tmp 54]) rfl ?_); (try (refine gate_guard (by rfl) ?_; dsimp only)); at_builtin; refine Kd.R_append k63 (w0 := w) w.heap.size rfl (.tmp 50) (.tmp 54) 23 63 (.agg #[(.int .i64 0), (.int .i64 0)]) 16 rfl Tryd.underlying23 info63 rfl (by decide) (by omega) u3 x3_1 (⟨t281, wrap64 (x6_2 + 1)⟩ : S63) [.int .i64 t281, .int .i64 (wrap64 (x6_2 + 1))] (fun _ => True) (fun _ => False) rfl rfl ?aP (fun _ hk => hk.elim) ?aF ?aO ?aB ?aS ?aL ?_; (case aP => exact k63_mkM _ _ _ (⟨t281, wrap64 (x6_2 + 1)⟩ : S63)); (case aB => exact (by repeat (first | (with_reducible first | exact HB.out | apply below_alloc | apply pw_below_drewN | apply below_drew1) | exact HB.out))); (case aF => exact (fun _ _ => trivial)); (case aO => exact (by (with_reducible repeat (first | apply Kd.R_alloc | apply Kd.R_drewN | apply Kd.R_drew)); exact HO_3.out)); (case aS => exact (below_size (by repeat (first | (with_reducible first | exact HB.out | apply below_alloc | apply pw_below_drewN | apply below_drew1) | exact HB.out)))); (case aL => have := LMc16.out; omega); intro v283 w22 ho hb hg hat; rw [← Ny282.out] at ho; have n0_ := Aside0.mk (Kd.R_over' (by (with_reducible repeat (first | apply Kd.R_alloc | apply Kd.R_drewN | apply Kd.R_drew)); exact HO_4.out) (Kd.R_typed (by (with_reducible repeat (first | apply Kd.R_alloc | apply Kd.R_drewN | apply Kd.R_drew)); exact HO_3.out)) (by decide) hg); have n1_ := Aside0.mk (hb); have n2_ := Aside0.mk (ho); clear HO_4; clear HB; clear HO_3; have HO_4 := n0_; have HB := n1_; have HO284 := n2_; clear n0_ n1_ n2_; clear ho hb hg hat) | ((with_reducible refine gate_builtin (b := .append) (xs := #[.tmp 56, .tmp 63]) rfl ?_); (try (refine gate_guard (by rfl) ?_; dsimp only)); at_builtin; refine Kd.R_append Kd.string (w0 := w) w.heap.size rfl (.tmp 56) (.tmp 63) 87 9 (.string ⟨#[]⟩) 16 rfl Tryd.underlying87 info9 rfl (by decide) (by omega) (.slice Ao21 x4_1.length co21) x4_1 (a0.extract (x5_1 : Int).toNat ((wrap64 (x5_1 + (wrap64 (x6_2 + 1)))) : Int).toNat) [.string (a0.extract (x5_1 : Int).toNat ((wrap64 (x5_1 + (wrap64 (x6_2 + 1)))) : Int).toNat)] (fun _ => True) (fun _ => False) rfl rfl ?aP (fun _ hk => hk.elim) ?aF ?aO ?aB ?aS ?aL ?_; (case aP => exact rfl); (case aB => exact (by repeat (first | (with_reducible first | exact HB.out | apply below_alloc | apply pw_below_drewN | apply below_drew1) | exact HB.out))); (case aF => exact (fun _ _ => trivial)); (case aO => exact (by (with_reducible repeat (first | apply Kd.R_alloc | apply Kd.R_drewN | apply Kd.R_drew)); exact HO_4.out)); (case aS => exact (below_size (by repeat (first | (with_reducible first | exact HB.out | apply below_alloc | apply pw_below_drewN | apply below_drew1) | exact HB.out)))); (case aL => have := LMc20.out; omega); intro v286 w23 ho hb hg hat; rw [← Ny285.out] at ho; have n0_ := Aside0.mk (Kd.R_over' (by (with_reducible repeat (first | apply Kd.R_alloc | apply Kd.R_drewN | apply Kd.R_drew)); exact HO284.out) (Kd.R_typed (by (with_reducible repeat (first | apply Kd.R_alloc | apply Kd.R_drewN | apply Kd.R_drew)); exact HO_4.out)) (by decide) hg); have n1_ := Aside0.mk (hb); have n2_ := Aside0.mk (ho); clear HO284; clear HB; clear HO_4; have HO284 := n0_; have HB := n1_; have HO287 := n2_; clear n0_ n1_ n2_; clear ho hb hg hat))
                 go_roundg kj2
                 case measure => have := HK1.out; have := HK2.out; have := HJ2.out; omega
                 case rel => exact ⟨(y282), (y285), (wrap64 (x5_1 + (wrap64 (x6_2 + 1)))), (by first | rfl | (simp; done) | (simp [*]; done)), H', ⟨by have := HK1.out; have := HK2.out; have := HJ2.out; omega⟩, ⟨by (with_reducible repeat (first | apply Kd.R_alloc | apply Kd.R_drewN | apply Kd.R_drew)); exact HO284.out⟩, ⟨by (with_reducible repeat (first | apply Kd.R_alloc | apply Kd.R_drewN | apply Kd.R_drew)); exact HO287.out⟩, ⟨by repeat (first | (with_reducible first | exact HB.out | apply below_alloc | apply pw_below_drewN | apply below_drew1) | exact HB.out)⟩⟩
                ·rw [if_neg c20] at H
                 exact absurd H (by simp)
               ·rw [if_neg c16] at H
                exact absurd H (by simp)
              ·rw [if_neg c14] at H
               exact absurd H (by simp)
             ·rw [if_neg c13] at H
              exact absurd H (by simp)
            ·rw [if_neg c11] at H
             have c11b0 : (t280 == 0) = false := beq_eq_false_iff_ne.mpr c11
             have c11b1 : (t280 != 0) = true := bne_iff_ne.mpr c11
             have H' := Aside0.mk H
             clear H
             obtain ⟨Ao24, co24, eo24⟩ := Kd.R_slice HO_4.out
             subst eo24
             go_wp2_with (first | ((with_reducible refine gate_callee (f := 66) rfl ?_); refine goesL_ (some 37) rfl rfl Tryd.func66 (by kernel_rfl) rfl #[.slice Ao24 x4_1.length co24, .string (a0.extract (x5_1 : Int).toNat ((wrap64 (x5_1 + (wrap64 (x6_2 + 1)))) : Int).toNat)] rfl (by (try simp only [List.map_toArray, List.map_cons, List.map_nil]); first | done | rfl | (simp only [List.length_drop, List.length_take]; rfl)) ?_; (with_reducible refine (numnahref09_number.calls kj2 _ _ x4_1 (a0.extract (x5_1 : Int).toNat ((wrap64 (x5_1 + (wrap64 (x6_2 + 1)))) : Int).toNat) t280 _ ?side1 ?side2 A10.out).mono ?_); (case side1 => repeat (first | exact (Kd.R_reads' HO_4.out).2.2 | (with_reducible refine Kd.C_alloc ?_ _) | (with_reducible refine Kd.C_drewN ?_ _) | (with_reducible refine Kd.C_drew ?_))); (case side2 => exact (Kd.R_reads' HO_4.out).2.1); rintro e w' ⟨rfl, ⟨nd, rfl⟩⟩; refine ⟨_, rfl, ?_⟩))
             go_roundg kj2
             case measure => have := HK1.out; have := HK2.out; have := HJ2.out; omega
             case rel => exact ⟨(wrap64 (x6_2 + 1)), (t280), (by first | rfl | (simp; done) | (simp [*]; done)), (by first | rfl | (simp; done) | (simp [*]; done)), H', ⟨by have := HK1.out; have := HK2.out; have := HJ2.out; omega⟩, ⟨by (with_reducible repeat (first | apply Kd.R_alloc | apply Kd.R_drewN | apply Kd.R_drew)); exact HO_3.out⟩, ⟨by (with_reducible repeat (first | apply Kd.R_alloc | apply Kd.R_drewN | apply Kd.R_drew)); exact HO_4.out⟩, ⟨by repeat (first | (with_reducible first | exact HB.out | apply below_alloc | apply pw_below_drewN | apply below_drew1) | exact HB.out)⟩⟩
           ·rw [if_neg c9] at H
            exact absurd H (by simp)
          ·rw [if_neg c8] at H
           exact absurd H (by simp)
         ·rw [if_neg c7] at H
          exact absurd H (by simp)
        ·replace c6 := Bool.eq_false_iff.mpr c6
         subst c6
         have H1 : (if 0 ≤ x5_1 then (if x5_1 ≤ (wrap64 ((wrap64 (x5_1 + x6_2)) - 1)) then (if (wrap64 ((wrap64 (x5_1 + x6_2)) - 1)) ≤ (a0.size : Int) then ((numnahref09_number.f kj2 x4_1 (a0.extract (x5_1 : Int).toNat ((wrap64 ((wrap64 (x5_1 + x6_2)) - 1)) : Int).toNat)).bind fun t288 => (if x3_1.length < 8796093022208 then (if x5_1 ≤ (wrap64 (x5_1 + x6_2)) then (if (wrap64 (x5_1 + x6_2)) ≤ (a0.size : Int) then (if x4_1.length < 8796093022208 then (numnahref09_Learning.l0 kj2 a0 (x3_1 ++ [(⟨t288, x6_2⟩ : S63)]) (x4_1 ++ [a0.extract (x5_1 : Int).toNat ((wrap64 (x5_1 + x6_2)) : Int).toNat]) (wrap64 (x5_1 + x6_2))) else (none)) else (none)) else (none)) else (none))) else (none)) else (none)) else (none)) = some r := by rw [if_neg (show ¬ (false = true) by decide)] at H; exact H
         clear H
         have H := H1
         clear H1
         by_cases c25 : 0 ≤ x5_1
         ·rw [if_pos c25] at H
          have c25b0 := eq_true c25
          have c25b1 : decide (0 ≤ x5_1) = true := decide_eq_true c25
          clear c25
          by_cases c26 : x5_1 ≤ (wrap64 ((wrap64 (x5_1 + x6_2)) - 1))
          ·rw [if_pos c26] at H
           have c26b0 := eq_true c26
           have c26b1 : decide (x5_1 ≤ (wrap64 ((wrap64 (x5_1 + x6_2)) - 1))) = true := decide_eq_true c26
           by_cases c27 : (wrap64 ((wrap64 (x5_1 + x6_2)) - 1)) ≤ (a0.size : Int)
           ·rw [if_pos c27] at H
            have c27b0 := eq_true c27
            have c27b1 : decide ((wrap64 ((wrap64 (x5_1 + x6_2)) - 1)) ≤ (a0.size : Int)) = true := decide_eq_true c27
            replace H := Option.bind_eq_some_iff.mp H
            obtain ⟨t288, A280, H⟩ := H
            replace H : (if x3_1.length < 8796093022208 then (if x5_1 ≤ (wrap64 (x5_1 + x6_2)) then (if (wrap64 (x5_1 + x6_2)) ≤ (a0.size : Int) then (if x4_1.length < 8796093022208 then (numnahref09_Learning.l0 kj2 a0 (x3_1 ++ [(⟨t288, x6_2⟩ : S63)]) (x4_1 ++ [a0.extract (x5_1 : Int).toNat ((wrap64 (x5_1 + x6_2)) : Int).toNat]) (wrap64 (x5_1 + x6_2))) else (none)) else (none)) else (none)) else (none)) = some r := H
            have A28 := Aside0.mk A280
            clear A280
            by_cases c29 : x3_1.length < 8796093022208
            ·rw [if_pos c29] at H
             have LMc29 := Aside0.mk c29
             clear c29
             obtain ⟨y289, hy289⟩ : ∃ y_ : List (S63), y_ = (x3_1 ++ [(⟨t288, x6_2⟩ : S63)]) := ⟨_, rfl⟩
             replace H : (if x5_1 ≤ (wrap64 (x5_1 + x6_2)) then (if (wrap64 (x5_1 + x6_2)) ≤ (a0.size : Int) then (if x4_1.length < 8796093022208 then (numnahref09_Learning.l0 kj2 a0 y289 (x4_1 ++ [a0.extract (x5_1 : Int).toNat ((wrap64 (x5_1 + x6_2)) : Int).toNat]) (wrap64 (x5_1 + x6_2))) else (none)) else (none)) else (none)) = some r := by first | (rw [hy289]; with_reducible exact H) | (have H2_ := (Option.bind_some _ _).symm.trans H; rw [hy289]; with_reducible exact H2_) | (have H2_ := (Option.bind_some _ _).symm.trans H; with_reducible exact H2_) | with_reducible exact H | (rw [hy289]; exact H) | exact H
             have Ny289 := Aside0.mk hy289
             clear hy289
             have c30b0 := eq_true (of_decide_eq_true (by first | (with_reducible assumption) | assumption) : 0 ≤ x5_1)
             by_cases c31 : x5_1 ≤ (wrap64 (x5_1 + x6_2))
             ·rw [if_pos c31] at H
              have c31b0 := eq_true c31
              have c31b1 : decide (x5_1 ≤ (wrap64 (x5_1 + x6_2))) = true := decide_eq_true c31
              by_cases c32 : (wrap64 (x5_1 + x6_2)) ≤ (a0.size : Int)
              ·rw [if_pos c32] at H
               have c32b0 := eq_true c32
               have c32b1 : decide ((wrap64 (x5_1 + x6_2)) ≤ (a0.size : Int)) = true := decide_eq_true c32
               by_cases c33 : x4_1.length < 8796093022208
               ·rw [if_pos c33] at H
                have LMc33 := Aside0.mk c33
                clear c33
                obtain ⟨y292, hy292⟩ : ∃ y_ : List ByteArray, y_ = (x4_1 ++ [a0.extract (x5_1 : Int).toNat ((wrap64 (x5_1 + x6_2)) : Int).toNat]) := ⟨_, rfl⟩
                replace H : (numnahref09_Learning.l0 kj2 a0 y289 y292 (wrap64 (x5_1 + x6_2))) = some r := by first | (rw [hy292]; with_reducible exact H) | (have H2_ := (Option.bind_some _ _).symm.trans H; rw [hy292]; with_reducible exact H2_) | (have H2_ := (Option.bind_some _ _).symm.trans H; with_reducible exact H2_) | with_reducible exact H | (rw [hy292]; exact H) | exact H
                have Ny292 := Aside0.mk hy292
                clear hy292
                have H' := Aside0.mk H
                clear H
                obtain ⟨Ao34, co34, eo34⟩ := Kd.R_slice HO_4.out
                subst eo34
                go_wp2_with (first | ((with_reducible refine gate_callee (f := 66) rfl ?_); refine goesL_ (some 49) rfl rfl Tryd.func66 (by kernel_rfl) rfl #[.slice Ao34 x4_1.length co34, .string (a0.extract (x5_1 : Int).toNat ((wrap64 ((wrap64 (x5_1 + x6_2)) - 1)) : Int).toNat)] rfl (by (try simp only [List.map_toArray, List.map_cons, List.map_nil]); first | done | rfl | (simp only [List.length_drop, List.length_take]; rfl)) ?_; (with_reducible refine (numnahref09_number.calls kj2 _ _ x4_1 (a0.extract (x5_1 : Int).toNat ((wrap64 ((wrap64 (x5_1 + x6_2)) - 1)) : Int).toNat) t288 _ ?side1 ?side2 A28.out).mono ?_); (case side1 => repeat (first | exact (Kd.R_reads' HO_4.out).2.2 | (with_reducible refine Kd.C_alloc ?_ _) | (with_reducible refine Kd.C_drewN ?_ _) | (with_reducible refine Kd.C_drew ?_))); (case side2 => exact (Kd.R_reads' HO_4.out).2.1); rintro e w' ⟨rfl, ⟨nd, rfl⟩⟩; refine ⟨_, rfl, ?_⟩) | ((with_reducible refine gate_builtin (b := .append) (xs := #[.tmp 50, .tmp 54]) rfl ?_); (try (refine gate_guard (by rfl) ?_; dsimp only)); at_builtin; refine Kd.R_append k63 (w0 := w) w.heap.size rfl (.tmp 50) (.tmp 54) 23 63 (.agg #[(.int .i64 0), (.int .i64 0)]) 16 rfl Tryd.underlying23 info63 rfl (by decide) (by omega) u3 x3_1 (⟨t288, x6_2⟩ : S63) [.int .i64 t288, .int .i64 x6_2] (fun _ => True) (fun _ => False) rfl rfl ?aP (fun _ hk => hk.elim) ?aF ?aO ?aB ?aS ?aL ?_; (case aP => exact k63_mkM _ _ _ (⟨t288, x6_2⟩ : S63)); (case aB => exact (by repeat (first | (with_reducible first | exact HB.out | apply below_alloc | apply pw_below_drewN | apply below_drew1) | exact HB.out))); (case aF => exact (fun _ _ => trivial)); (case aO => exact (by (with_reducible repeat (first | apply Kd.R_alloc | apply Kd.R_drewN | apply Kd.R_drew)); exact HO_3.out)); (case aS => exact (below_size (by repeat (first | (with_reducible first | exact HB.out | apply below_alloc | apply pw_below_drewN | apply below_drew1) | exact HB.out)))); (case aL => have := LMc29.out; omega); intro v290 w35 ho hb hg hat; rw [← Ny289.out] at ho; have n0_ := Aside0.mk (Kd.R_over' (by (with_reducible repeat (first | apply Kd.R_alloc | apply Kd.R_drewN | apply Kd.R_drew)); exact HO_4.out) (Kd.R_typed (by (with_reducible repeat (first | apply Kd.R_alloc | apply Kd.R_drewN | apply Kd.R_drew)); exact HO_3.out)) (by decide) hg); have n1_ := Aside0.mk (hb); have n2_ := Aside0.mk (ho); clear HO_4; clear HB; clear HO_3; have HO_4 := n0_; have HB := n1_; have HO291 := n2_; clear n0_ n1_ n2_; clear ho hb hg hat) | ((with_reducible refine gate_builtin (b := .append) (xs := #[.tmp 56, .tmp 63]) rfl ?_); (try (refine gate_guard (by rfl) ?_; dsimp only)); at_builtin; refine Kd.R_append Kd.string (w0 := w) w.heap.size rfl (.tmp 56) (.tmp 63) 87 9 (.string ⟨#[]⟩) 16 rfl Tryd.underlying87 info9 rfl (by decide) (by omega) (.slice Ao34 x4_1.length co34) x4_1 (a0.extract (x5_1 : Int).toNat ((wrap64 (x5_1 + x6_2)) : Int).toNat) [.string (a0.extract (x5_1 : Int).toNat ((wrap64 (x5_1 + x6_2)) : Int).toNat)] (fun _ => True) (fun _ => False) rfl rfl ?aP (fun _ hk => hk.elim) ?aF ?aO ?aB ?aS ?aL ?_; (case aP => exact rfl); (case aB => exact (by repeat (first | (with_reducible first | exact HB.out | apply below_alloc | apply pw_below_drewN | apply below_drew1) | exact HB.out))); (case aF => exact (fun _ _ => trivial)); (case aO => exact (by (with_reducible repeat (first | apply Kd.R_alloc | apply Kd.R_drewN | apply Kd.R_drew)); exact HO_4.out)); (case aS => exact (below_size (by repeat (first | (with_reducible first | exact HB.out | apply below_alloc | apply pw_below_drewN | apply below_drew1) | exact HB.out)))); (case aL => have := LMc33.out; omega); intro v293 w36 ho hb hg hat; rw [← Ny292.out] at ho; have n0_ := Aside0.mk (Kd.R_over' (by (with_reducible repeat (first | apply Kd.R_alloc | apply Kd.R_drewN | apply Kd.R_drew)); exact HO291.out) (Kd.R_typed (by (with_reducible repeat (first | apply Kd.R_alloc | apply Kd.R_drewN | apply Kd.R_drew)); exact HO_4.out)) (by decide) hg); have n1_ := Aside0.mk (hb); have n2_ := Aside0.mk (ho); clear HO291; clear HB; clear HO_4; have HO291 := n0_; have HB := n1_; have HO294 := n2_; clear n0_ n1_ n2_; clear ho hb hg hat))
                go_roundg kj2
                case measure => have := HK1.out; have := HK2.out; have := HJ2.out; omega
                case rel => exact ⟨(y289), (y292), (wrap64 (x5_1 + x6_2)), (by first | rfl | (simp; done) | (simp [*]; done)), H', ⟨by have := HK1.out; have := HK2.out; have := HJ2.out; omega⟩, ⟨by (with_reducible repeat (first | apply Kd.R_alloc | apply Kd.R_drewN | apply Kd.R_drew)); exact HO291.out⟩, ⟨by (with_reducible repeat (first | apply Kd.R_alloc | apply Kd.R_drewN | apply Kd.R_drew)); exact HO294.out⟩, ⟨by repeat (first | (with_reducible first | exact HB.out | apply below_alloc | apply pw_below_drewN | apply below_drew1) | exact HB.out)⟩⟩
               ·rw [if_neg c33] at H
                exact absurd H (by simp)
              ·rw [if_neg c32] at H
               exact absurd H (by simp)
             ·rw [if_neg c31] at H
              exact absurd H (by simp)
            ·rw [if_neg c29] at H
             exact absurd H (by simp)
           ·rw [if_neg c27] at H
            exact absurd H (by simp)
          ·rw [if_neg c26] at H
           exact absurd H (by simp)
         ·rw [if_neg c25] at H
          exact absurd H (by simp)
   ·rw [if_neg c2] at H
    have c2b0 : decide (x5_1 < (a0.size : Int)) = false := decide_eq_false c2
    clear c2
    obtain rfl := Option.some.inj H
    go_wp2
    go_ret
    exact ⟨_, by first | rfl | (simp [errW_none, errW_some] <;> rfl) | (simp [*, errW_none, errW_some] <;> rfl), by (with_reducible repeat (first | apply Kd.R_alloc | apply Kd.R_drewN | apply Kd.R_drew)); exact HO_3.out, by repeat (first | (with_reducible first | exact HB.out | apply below_alloc | apply pw_below_drewN | apply below_drew1) | exact HB.out)⟩

end Go.Proofs.YtpeeflkodpnbpaaDoor.Pr
-- indented by one
