-- Laid by wip/tools/inj.py of this project, which drives the kit's printer. Lean checks it.
import Derived.Test.YtaafeallcaiooaaGreatPr0
import Derived.Test.YtaafeallcaiooaaGreatPrA1
namespace Go.Proofs.YtaafeallcaiooaaGreat.Pr
open Go.RowKit Go.Proofs.YtaafeallcaiooaaGreatW.PrintWords Go.Proofs.YtaafeallcaiooaaGreatW.PrintLast Go.Proofs.YtaafeallcaiooaaGreatW.PrintMore
attribute [local go_sem] max2_int min2_int max_two min_two max_three min_three max_four min_four   -- for this text's walks alone
set_option linter.unusedVariables false
set_option linter.unusedSimpArgs false

/-! ### numnahlaw08_laws: function 28 -/
def numnahlaw08_laws.l0 : Nat → List (S94) → List (S94) → Int → Option ((List (S94)))
 | 0, _, _, _ => none
 | k + 1, x0, x3, x4 => if x4 < (x0.length : Int) then (if x4 ≤ 6 then (if 0 ≤ x4 then (if 0 ≤ (mn (((rd_T94 x0 x4).f0).size : Int) 80) then (if (mn (((rd_T94 x0 x4).f0).size : Int) 80) ≤ (((rd_T94 x0 x4).f0).size : Int) then (if 0 ≤ (mn (((rd_T94 x0 x4).f1).size : Int) 80) then (if (mn (((rd_T94 x0 x4).f1).size : Int) 80) ≤ (((rd_T94 x0 x4).f1).size : Int) then (if x3.length < 4398046511104 then (numnahlaw08_laws.l0 k x0 (x3 ++ [(⟨((rd_T94 x0 x4).f0).extract 0 ((mn (((rd_T94 x0 x4).f0).size : Int) 80) : Int).toNat, ((rd_T94 x0 x4).f1).extract 0 ((mn (((rd_T94 x0 x4).f1).size : Int) 80) : Int).toNat⟩ : S94)]) (wrap64 (x4 + 1))) else (none)) else (none)) else (none)) else (none)) else (none)) else (none)) else (some x3)) else (some x3)
def numnahlaw08_laws.f (k : Nat) (l0 : List (S94)) : Option ((List (S94))) := numnahlaw08_laws.l0 k l0 ([] : List (S94)) 0
theorem numnahlaw08_laws.mono_l : ∀ k, (∀ y0 y1 y2, LeO (numnahlaw08_laws.l0 k y0 y1 y2) (numnahlaw08_laws.l0 (k + 1) y0 y1 y2))
 | 0 => fun _ _ _ r h => by simp [numnahlaw08_laws.l0] at h
 | k + 1 => by
  have ih0 := numnahlaw08_laws.mono_l k
  ·intro y0 y1 y2
   unfold numnahlaw08_laws.l0
   repeat' first
   | (with_reducible exact ih0 _ _ _)
   | (with_reducible exact LeO.refl _)
   | (with_reducible exact LeO.none _)
   | (with_reducible refine LeO.ite ?_ ?_)
   | (with_reducible refine LeO.bind ?_ (fun _ => ?_))
   | exact ih0 _ _ _
   | exact LeO.none _
   | refine LeO.ite ?_ ?_
   | refine LeO.bind ?_ (fun _ => ?_)
theorem numnahlaw08_laws.mono : ∀ a0 k, LeO (numnahlaw08_laws.f k a0) (numnahlaw08_laws.f (k + 1) a0) := by
 intro a0 k
 have ih0 := numnahlaw08_laws.mono_l k
 unfold numnahlaw08_laws.f
 repeat' first
   | (with_reducible exact ih0 _ _ _)
   | (with_reducible exact LeO.refl _)
   | (with_reducible exact LeO.none _)
   | (with_reducible refine LeO.ite ?_ ?_)
   | (with_reducible refine LeO.bind ?_ (fun _ => ?_))
   | exact ih0 _ _ _
   | exact LeO.none _
   | refine LeO.ite ?_ ?_
   | refine LeO.bind ?_ (fun _ => ?_)
/-! ### numnahlaw08_few: function 29 -/
def numnahlaw08_few.l0 : Nat → List ByteArray → List ByteArray → Int → Option (List ByteArray)
 | 0, _, _, _ => none
 | k + 1, x0, x3, x4 => if x4 < (x0.length : Int) then (if x4 ≤ 20 then (if 0 ≤ x4 then ((numnahlaw08_short.f (rdOf ByteArray.empty x0 x4)).bind fun t212 => (if x3.length < 8796093022208 then (numnahlaw08_few.l0 k x0 (x3 ++ [t212]) (wrap64 (x4 + 1))) else (none))) else (none)) else (some x3)) else (some x3)
def numnahlaw08_few.f (k : Nat) (l0 : List ByteArray) : Option (List ByteArray) := numnahlaw08_few.l0 k l0 ([] : List ByteArray) 0
theorem numnahlaw08_few.mono_l : ∀ k, (∀ y0 y1 y2, LeO (numnahlaw08_few.l0 k y0 y1 y2) (numnahlaw08_few.l0 (k + 1) y0 y1 y2))
 | 0 => fun _ _ _ r h => by simp [numnahlaw08_few.l0] at h
 | k + 1 => by
  have ih0 := numnahlaw08_few.mono_l k
  ·intro y0 y1 y2
   unfold numnahlaw08_few.l0
   repeat' first
   | (with_reducible exact ih0 _ _ _)
   | (with_reducible exact LeO.refl _)
   | (with_reducible exact LeO.none _)
   | (with_reducible refine LeO.ite ?_ ?_)
   | (with_reducible refine LeO.bind ?_ (fun _ => ?_))
   | exact ih0 _ _ _
   | exact LeO.none _
   | refine LeO.ite ?_ ?_
   | refine LeO.bind ?_ (fun _ => ?_)
theorem numnahlaw08_few.mono : ∀ a0 k, LeO (numnahlaw08_few.f k a0) (numnahlaw08_few.f (k + 1) a0) := by
 intro a0 k
 have ih0 := numnahlaw08_few.mono_l k
 unfold numnahlaw08_few.f
 repeat' first
   | (with_reducible exact ih0 _ _ _)
   | (with_reducible exact LeO.refl _)
   | (with_reducible exact LeO.none _)
   | (with_reducible refine LeO.ite ?_ ?_)
   | (with_reducible refine LeO.bind ?_ (fun _ => ?_))
   | exact ih0 _ _ _
   | exact LeO.none _
   | refine LeO.ite ?_ ?_
   | refine LeO.bind ?_ (fun _ => ?_)
/-! ### numnahref08_occurs: function 80 -/
def numnahref08_occurs.l0 : Nat → Int → ByteArray → Int → Option (Bool)
 | 0, _, _, _ => none
 | k + 1, x0, x1, x5 => if x5 < (x1.size : Int) then (if 0 ≤ x5 then (if (bt x1 x5) = x0 then (some true) else (numnahref08_occurs.l0 k x0 x1 (wrap64 (x5 + 1)))) else (none)) else (some false)
def numnahref08_occurs.f (k : Nat) (a0 : Int) (a1 : ByteArray) : Option (Bool) := numnahref08_occurs.l0 k a0 a1 0
theorem numnahref08_occurs.mono_l : ∀ k, (∀ y0 y1 y2, LeO (numnahref08_occurs.l0 k y0 y1 y2) (numnahref08_occurs.l0 (k + 1) y0 y1 y2))
 | 0 => fun _ _ _ r h => by simp [numnahref08_occurs.l0] at h
 | k + 1 => by
  have ih0 := numnahref08_occurs.mono_l k
  ·intro y0 y1 y2
   unfold numnahref08_occurs.l0
   repeat' first
   | (with_reducible exact ih0 _ _ _)
   | (with_reducible exact LeO.refl _)
   | (with_reducible exact LeO.none _)
   | (with_reducible refine LeO.ite ?_ ?_)
   | (with_reducible refine LeO.bind ?_ (fun _ => ?_))
   | exact ih0 _ _ _
   | exact LeO.none _
   | refine LeO.ite ?_ ?_
   | refine LeO.bind ?_ (fun _ => ?_)
theorem numnahref08_occurs.mono : ∀ a0 a1 k, LeO (numnahref08_occurs.f k a0 a1) (numnahref08_occurs.f (k + 1) a0 a1) := by
 intro a0 a1 k
 have ih0 := numnahref08_occurs.mono_l k
 unfold numnahref08_occurs.f
 repeat' first
   | (with_reducible exact ih0 _ _ _)
   | (with_reducible exact LeO.refl _)
   | (with_reducible exact LeO.none _)
   | (with_reducible refine LeO.ite ?_ ?_)
   | (with_reducible refine LeO.bind ?_ (fun _ => ?_))
   | exact ih0 _ _ _
   | exact LeO.none _
   | refine LeO.ite ?_ ?_
   | refine LeO.bind ?_ (fun _ => ?_)
set_option maxHeartbeats 8000000 in
set_option maxRecDepth 100000 in
theorem numnahref08_occurs.calls (k : Nat) (a0 : Int) (a1 : ByteArray) (r : Bool) (w : World) (h : numnahref08_occurs.f k a0 a1 = some r) :
  Calls Tryz.prog 80 #[.int .u8 a0, .string a1] w fun e w' => e = .returned (.bool r) ∧ Drawn0 w w' := by
 have H : (numnahref08_occurs.l0 k a0 a1 0) = some r := h
 clear h
 have H' := Aside0.mk H
 clear H
 go_enter Tryz.func80, Tryz.ntmps80
 go_wp2
 go_loopg [5] k (fun kq v5 w' => ∃ (x5_1 : Int), v5 = .int .i64 x5_1 ∧ Aside0 (numnahref08_occurs.l0 kq a0 a1 x5_1 = some r) ∧ Aside0 (kq ≤ k) ∧ Drawn0 w w')
 case atStart => exact ⟨(0), tS_, H', ⟨Nat.le_refl _⟩, by repeat (first | exact Drawn0.refl _ | apply Drawn0.step)⟩
 case round =>
  clear H'
  try clear p2
  obtain ⟨x5_1, rfl, HA, HK1, ⟨m1, rfl⟩⟩ := hrel
  cases gk with
  | zero => exact absurd HA.out (by simp [numnahref08_occurs.l0])
  | succ k1 =>
   have H := HA.out
   clear HA
   simp only [numnahref08_occurs.l0] at H
   by_cases c3 : x5_1 < (a1.size : Int)
   ·rw [if_pos c3] at H
    have c3b0 : decide (x5_1 < (a1.size : Int)) = true := decide_eq_true c3
    clear c3
    by_cases c4 : 0 ≤ x5_1
    ·rw [if_pos c4] at H
     have c4b0 : decide (0 ≤ x5_1) = true := decide_eq_true c4
     clear c4
     by_cases c6 : (bt a1 x5_1) = a0
     ·rw [if_pos c6] at H
      have c6b0 : ((bt a1 x5_1) == a0) = true := beq_iff_eq.mpr c6
      have c6b1 : ((bt a1 x5_1) != a0) = false := bne_eq_false_iff_eq.mpr c6
      clear c6
      obtain rfl := Option.some.inj H
      have p5 : 0 ≤ (x5_1 : Int) := of_decide_eq_true tA_
      have q5 : x5_1 < (a1.size : Int) := of_decide_eq_true tA_
      have hx5 := bt_at a1 x5_1
      replace p5 := eq_true p5
      replace q5 := eq_true q5
      go_wp2
      go_ret
      exact ⟨by first | rfl | (simp; done) | (simp [*]; done), by repeat (first | exact Drawn0.refl _ | apply Drawn0.step)⟩
     ·rw [if_neg c6] at H
      have c6b0 : ((bt a1 x5_1) == a0) = false := beq_eq_false_iff_ne.mpr c6
      have c6b1 : ((bt a1 x5_1) != a0) = true := bne_iff_ne.mpr c6
      have H' := Aside0.mk H
      clear H
      have p5 : 0 ≤ (x5_1 : Int) := of_decide_eq_true tA_
      have q5 : x5_1 < (a1.size : Int) := of_decide_eq_true tA_
      have hx5 := bt_at a1 x5_1
      replace p5 := eq_true p5
      replace q5 := eq_true q5
      go_wp2
      go_roundg k1
      case measure => have := HK1.out; omega
      case rel => exact ⟨(wrap64 (x5_1 + 1)), tS_, H', ⟨by have := HK1.out; omega⟩, by repeat (first | exact Drawn0.refl _ | apply Drawn0.step)⟩
    ·rw [if_neg c4] at H
     exact absurd H (by simp)
   ·rw [if_neg c3] at H
    have c3b0 : decide (x5_1 < (a1.size : Int)) = false := decide_eq_false c3
    clear c3
    obtain rfl := Option.some.inj H
    go_wp2
    go_ret
    exact ⟨by first | rfl | (simp; done) | (simp [*]; done), by repeat (first | exact Drawn0.refl _ | apply Drawn0.step)⟩

end Go.Proofs.YtaafeallcaiooaaGreat.Pr
-- indented by one
