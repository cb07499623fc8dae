import Derived.Test.YtaafeallcaiooaaGreatPr0
import Derived.Test.YtaafeallcaiooaaGreatPrA4
-- Laid by wip/tools/inj.py of this project, which drives the kit's printer. Lean checks it.
namespace Go.Proofs.YtaafeallcaiooaaGreat.Pr
open Go.RowKit Go.Proofs.YtaafeallcaiooaaGreatW.PrintWords Go.Proofs.YtaafeallcaiooaaGreatW.PrintLast Go.Proofs.YtaafeallcaiooaaGreatW.PrintMore
attribute [local go_sem] max2_int min2_int max_two min_two max_three min_three max_four min_four   -- for this text's walks alone
set_option linter.unusedVariables false
set_option linter.unusedSimpArgs false

/-! ### numnahlaw08_mod: function 55 -/
def numnahlaw08_mod.f (a0 : Int) (a1 : Int) : Option (Int) := if (IntKind.u64.wrap (a1)) = 0 then (none) else (some (wrap64 (Int.tmod (IntKind.u64.wrap (a0)) (IntKind.u64.wrap (a1)))))
set_option maxHeartbeats 8000000 in
set_option maxRecDepth 100000 in
theorem numnahlaw08_mod.calls (a0 : Int) (a1 : Int) (r : Int) (w : World) (h : numnahlaw08_mod.f a0 a1 = some r) :
  Calls Tryz.prog 55 #[.int .i64 a0, .int .i64 a1] w fun e w' => e = .returned (.int .i64 r) ∧ Drawn0 w w' := by
 have H : (if (IntKind.u64.wrap (a1)) = 0 then (none) else (some (wrap64 (Int.tmod (IntKind.u64.wrap (a0)) (IntKind.u64.wrap (a1)))))) = some r := h
 clear h
 by_cases c3 : (IntKind.u64.wrap (a1)) = 0
 ·rw [if_pos c3] at H
  exact absurd H (by simp)
 ·rw [if_neg c3] at H
  have c3b0 : ((IntKind.u64.wrap (a1)) == 0) = false := beq_eq_false_iff_ne.mpr c3
  have c3b1 : ((IntKind.u64.wrap (a1)) != 0) = true := bne_iff_ne.mpr c3
  obtain rfl := Option.some.inj H
  go_enter Tryz.func55, Tryz.ntmps55
  go_wp2
  go_ret
  exact ⟨by first | rfl | (simp; done) | (simp [*]; done), by repeat (first | exact Drawn0.refl _ | apply Drawn0.step)⟩

/-! ### numnahref08_rank: function 148 -/
def numnahref08_rank.l0 : Nat → ByteArray → Int → Int → Option (Int)
 | 0, _, _, _ => none
 | k + 1, x0, x1, x5 => if 0 ≤ x5 then (if x5 < (x0.size : Int) then (if (bt x0 x5) = x1 then (some x5) else (numnahref08_rank.l0 k x0 x1 (wrap64 (x5 + 1)))) else (none)) else (none)
def numnahref08_rank.f (k : Nat) (a0 : ByteArray) (a1 : Int) : Option (Int) := numnahref08_rank.l0 k a0 a1 0
theorem numnahref08_rank.mono_l : ∀ k, (∀ y0 y1 y2, LeO (numnahref08_rank.l0 k y0 y1 y2) (numnahref08_rank.l0 (k + 1) y0 y1 y2))
 | 0 => fun _ _ _ r h => by simp [numnahref08_rank.l0] at h
 | k + 1 => by
  have ih0 := numnahref08_rank.mono_l k
  ·intro y0 y1 y2
   unfold numnahref08_rank.l0
   repeat' first
   | (with_reducible exact ih0 _ _ _)
   | (with_reducible exact LeO.refl _)
   | (with_reducible exact LeO.none _)
   | (with_reducible refine LeO.ite ?_ ?_)
   | (with_reducible refine LeO.bind ?_ (fun _ => ?_))
   | exact ih0 _ _ _
   | exact LeO.none _
   | refine LeO.ite ?_ ?_
   | refine LeO.bind ?_ (fun _ => ?_)
theorem numnahref08_rank.mono : ∀ a0 a1 k, LeO (numnahref08_rank.f k a0 a1) (numnahref08_rank.f (k + 1) a0 a1) := by
 intro a0 a1 k
 have ih0 := numnahref08_rank.mono_l k
 unfold numnahref08_rank.f
 repeat' first
   | (with_reducible exact ih0 _ _ _)
   | (with_reducible exact LeO.refl _)
   | (with_reducible exact LeO.none _)
   | (with_reducible refine LeO.ite ?_ ?_)
   | (with_reducible refine LeO.bind ?_ (fun _ => ?_))
   | exact ih0 _ _ _
   | exact LeO.none _
   | refine LeO.ite ?_ ?_
   | refine LeO.bind ?_ (fun _ => ?_)
end Go.Proofs.YtaafeallcaiooaaGreat.Pr
-- indented by one
-- Laid by wip/tools/inj.py of this project, which drives the kit's printer. Lean checks it.
namespace Go.Proofs.YtaafeallcaiooaaGreat.Pr
open Go.RowKit Go.Proofs.YtaafeallcaiooaaGreatW.PrintWords Go.Proofs.YtaafeallcaiooaaGreatW.PrintLast Go.Proofs.YtaafeallcaiooaaGreatW.PrintMore
attribute [local go_sem] max2_int min2_int max_two min_two max_three min_three max_four min_four   -- for this text's walks alone
set_option linter.unusedVariables false
set_option linter.unusedSimpArgs false

/-! ### numnahref08_Precedence: function 39 -/
def numnahref08_Precedence.l0 : Nat → ByteArray → Int → Option (Bool)
 | 0, _, _ => none
 | k + 1, x0, x3 => if x3 ≤ 102 then ((numnahref08_occurs.f k x3 x0).bind fun t411 => (if t411 = true then (numnahref08_Precedence.l0 k x0 ((x3 + 1) % 256)) else (some false))) else (some ((x0.size : Int) == 6))
def numnahref08_Precedence.f (k : Nat) (a0 : ByteArray) : Option (Bool) := numnahref08_Precedence.l0 k a0 97
theorem numnahref08_Precedence.mono_l : ∀ k, (∀ y0 y1, LeO (numnahref08_Precedence.l0 k y0 y1) (numnahref08_Precedence.l0 (k + 1) y0 y1))
 | 0 => fun _ _ r h => by simp [numnahref08_Precedence.l0] at h
 | k + 1 => by
  have ih0 := numnahref08_Precedence.mono_l k
  ·intro y0 y1
   unfold numnahref08_Precedence.l0
   repeat' first
   | (with_reducible exact ih0 _ _)
   | (with_reducible exact numnahref08_occurs.mono _ _ _)
   | (with_reducible exact LeO.refl _)
   | (with_reducible exact LeO.none _)
   | (with_reducible refine LeO.ite ?_ ?_)
   | (with_reducible refine LeO.bind ?_ (fun _ => ?_))
   | exact ih0 _ _
   | exact numnahref08_occurs.mono _ _ _
   | exact LeO.none _
   | refine LeO.ite ?_ ?_
   | refine LeO.bind ?_ (fun _ => ?_)
theorem numnahref08_Precedence.mono : ∀ a0 k, LeO (numnahref08_Precedence.f k a0) (numnahref08_Precedence.f (k + 1) a0) := by
 intro a0 k
 have ih0 := numnahref08_Precedence.mono_l k
 unfold numnahref08_Precedence.f
 repeat' first
   | (with_reducible exact ih0 _ _)
   | (with_reducible exact numnahref08_occurs.mono _ _ _)
   | (with_reducible exact LeO.refl _)
   | (with_reducible exact LeO.none _)
   | (with_reducible refine LeO.ite ?_ ?_)
   | (with_reducible refine LeO.bind ?_ (fun _ => ?_))
   | exact ih0 _ _
   | exact numnahref08_occurs.mono _ _ _
   | exact LeO.none _
   | refine LeO.ite ?_ ?_
   | refine LeO.bind ?_ (fun _ => ?_)
set_option maxHeartbeats 8000000 in
set_option maxRecDepth 100000 in
theorem numnahref08_Precedence.calls (k : Nat) (a0 : ByteArray) (r : Bool) (w : World) (h : numnahref08_Precedence.f k a0 = some r) :
  Calls Tryz.prog 39 #[.string a0] w fun e w' => e = .returned (.bool r) ∧ Drawn0 w w' := by
 have H : (numnahref08_Precedence.l0 k a0 97) = some r := h
 clear h
 have H' := Aside0.mk H
 clear H
 go_enter Tryz.func39, Tryz.ntmps39
 go_wp2
 go_loopg [3] k (fun kq v3 w' => ∃ (x3_1 : Int), v3 = .int .u8 x3_1 ∧ Aside0 (numnahref08_Precedence.l0 kq a0 x3_1 = some r) ∧ Aside0 (kq ≤ k) ∧ Drawn0 w w')
 case atStart => exact ⟨(97), tS_, H', ⟨Nat.le_refl _⟩, by repeat (first | exact Drawn0.refl _ | apply Drawn0.step)⟩
 case round =>
  clear H'
  obtain ⟨x3_1, rfl, HA, HK1, ⟨m1, rfl⟩⟩ := hrel
  cases gk with
  | zero => exact absurd HA.out (by simp [numnahref08_Precedence.l0])
  | succ k1 =>
   have H := HA.out
   clear HA
   simp only [numnahref08_Precedence.l0] at H
   by_cases c2 : x3_1 ≤ 102
   ·rw [if_pos c2] at H
    have c2b0 : decide (x3_1 ≤ 102) = true := decide_eq_true c2
    clear c2
    replace H := Option.bind_eq_some_iff.mp H
    obtain ⟨t411, A30, H⟩ := H
    replace H : (if t411 = true then (numnahref08_Precedence.l0 k1 a0 ((x3_1 + 1) % 256)) else (some false)) = some r := H
    have A3 := Aside0.mk A30
    clear A30
    by_cases c4 : t411 = true
    ·subst c4
     have H1 : (numnahref08_Precedence.l0 k1 a0 ((x3_1 + 1) % 256)) = some r := by rw [if_pos rfl] at H; exact H
     clear H
     have H := H1
     clear H1
     have H' := Aside0.mk H
     clear H
     go_wp2_with (first | ((with_reducible refine gate_callee (f := 80) rfl ?_); refine goesL_ (some 10) rfl rfl Tryz.func80 (by kernel_rfl) rfl #[.int .u8 x3_1, .string a0] rfl tM_ ?_; (with_reducible refine (numnahref08_occurs.calls k1 x3_1 a0 true _ A3.out).mono ?_); rintro e w' ⟨rfl, ⟨nd, rfl⟩⟩; refine ⟨_, rfl, ?_⟩))
     go_roundg k1
     case measure => have := HK1.out; omega
     case rel => exact ⟨((x3_1 + 1) % 256), tS_, H', ⟨by have := HK1.out; omega⟩, by repeat (first | exact Drawn0.refl _ | apply Drawn0.step)⟩
    ·replace c4 := Bool.eq_false_iff.mpr c4
     subst c4
     have H1 : (some false) = some r := by rw [if_neg (show ¬ (false = true) by decide)] at H; exact H
     clear H
     have H := H1
     clear H1
     obtain rfl := Option.some.inj H
     go_wp2_with (first | ((with_reducible refine gate_callee (f := 80) rfl ?_); refine goesL_ (some 10) rfl rfl Tryz.func80 (by kernel_rfl) rfl #[.int .u8 x3_1, .string a0] rfl tM_ ?_; (with_reducible refine (numnahref08_occurs.calls k1 x3_1 a0 false _ A3.out).mono ?_); rintro e w' ⟨rfl, ⟨nd, rfl⟩⟩; refine ⟨_, rfl, ?_⟩))
     go_ret
     exact ⟨by first | rfl | (simp; done) | (simp [*]; done), by repeat (first | exact Drawn0.refl _ | apply Drawn0.step)⟩
   ·rw [if_neg c2] at H
    have c2b0 : decide (x3_1 ≤ 102) = false := decide_eq_false c2
    clear c2
    obtain rfl := Option.some.inj H
    go_wp2
    go_ret
    exact ⟨by first | rfl | (simp; done) | (simp [*]; done), by repeat (first | exact Drawn0.refl _ | apply Drawn0.step)⟩

/-! ### numnahlaw08_order: function 42 -/
def numnahlaw08_order.l0 : Nat → Int → ByteArray → Int → Option (ByteArray)
 | 0, _, _, _ => none
 | k + 1, x0, x3, x4 => if x4 < 6 then ((numnahlaw08_mod.f x0 (wrap64 (x4 + 1))).bind fun t428 => ((numnahlaw08_mod.f x0 720).bind fun t429 => (if (wrap64 (x4 + 1)) = 0 then (none) else (if 0 ≤ t428 then (if t428 ≤ (x3.size : Int) then (if 0 ≤ x4 then (if x4 ≤ (wrap64 (x4 + 1)) then (if (wrap64 (x4 + 1)) ≤ 6 then (if (x3.extract 0 (t428 : Int).toNat).size + ((⟨#[97, 98, 99, 100, 101, 102]⟩ : ByteArray).extract (x4 : Int).toNat ((wrap64 (x4 + 1)) : Int).toNat).size ≤ 9223372036854775807 then (if ((x3.extract 0 (t428 : Int).toNat) ++ ((⟨#[97, 98, 99, 100, 101, 102]⟩ : ByteArray).extract (x4 : Int).toNat ((wrap64 (x4 + 1)) : Int).toNat)).size + (x3.extract (t428 : Int).toNat x3.size).size ≤ 9223372036854775807 then (numnahlaw08_order.l0 k (wrap64 (Int.tdiv t429 (wrap64 (x4 + 1)))) (((x3.extract 0 (t428 : Int).toNat) ++ ((⟨#[97, 98, 99, 100, 101, 102]⟩ : ByteArray).extract (x4 : Int).toNat ((wrap64 (x4 + 1)) : Int).toNat)) ++ (x3.extract (t428 : Int).toNat x3.size)) (wrap64 (x4 + 1))) else (none)) else (none)) else (none)) else (none)) else (none)) else (none)) else (none))))) else (some x3)
def numnahlaw08_order.f (k : Nat) (a0 : Int) : Option (ByteArray) := numnahlaw08_order.l0 k a0 (⟨#[]⟩ : ByteArray) 0
theorem numnahlaw08_order.mono_l : ∀ k, (∀ y0 y1 y2, LeO (numnahlaw08_order.l0 k y0 y1 y2) (numnahlaw08_order.l0 (k + 1) y0 y1 y2))
 | 0 => fun _ _ _ r h => by simp [numnahlaw08_order.l0] at h
 | k + 1 => by
  have ih0 := numnahlaw08_order.mono_l k
  ·intro y0 y1 y2
   unfold numnahlaw08_order.l0
   repeat' first
   | (with_reducible exact ih0 _ _ _)
   | (with_reducible exact LeO.refl _)
   | (with_reducible exact LeO.none _)
   | (with_reducible refine LeO.ite ?_ ?_)
   | (with_reducible refine LeO.bind ?_ (fun _ => ?_))
   | exact ih0 _ _ _
   | exact LeO.none _
   | refine LeO.ite ?_ ?_
   | refine LeO.bind ?_ (fun _ => ?_)
theorem numnahlaw08_order.mono : ∀ a0 k, LeO (numnahlaw08_order.f k a0) (numnahlaw08_order.f (k + 1) a0) := by
 intro a0 k
 have ih0 := numnahlaw08_order.mono_l k
 unfold numnahlaw08_order.f
 repeat' first
   | (with_reducible exact ih0 _ _ _)
   | (with_reducible exact LeO.refl _)
   | (with_reducible exact LeO.none _)
   | (with_reducible refine LeO.ite ?_ ?_)
   | (with_reducible refine LeO.bind ?_ (fun _ => ?_))
   | exact ih0 _ _ _
   | exact LeO.none _
   | refine LeO.ite ?_ ?_
   | refine LeO.bind ?_ (fun _ => ?_)
set_option maxHeartbeats 8000000 in
set_option maxRecDepth 100000 in
theorem numnahlaw08_order.calls (k : Nat) (a0 : Int) (r : ByteArray) (w : World) (h : numnahlaw08_order.f k a0 = some r) :
  Calls Tryz.prog 42 #[.int .i64 a0] w fun e w' => e = .returned (.string r) ∧ Drawn0 w w' := by
 have H : (numnahlaw08_order.l0 k a0 (⟨#[]⟩ : ByteArray) 0) = some r := h
 clear h
 have H' := Aside0.mk H
 clear H
 go_enter Tryz.func42, Tryz.ntmps42
 go_wp2
 repeat (go_quiet (fail); try go_wp2)
 go_loopg [0, 3, 4] k (fun kq v0 v3 v4 w' => ∃ (x0_1 : Int) (x3_1 : ByteArray) (x4_1 : Int), v0 = .int .i64 x0_1 ∧ v3 = .string x3_1 ∧ v4 = .int .i64 x4_1 ∧ Aside0 (numnahlaw08_order.l0 kq x0_1 x3_1 x4_1 = some r) ∧ Aside0 (kq ≤ k) ∧ Drawn0 w w')
 case atStart => exact ⟨(a0), ((⟨#[]⟩ : ByteArray)), (0), tS_, tS_, tS_, H', ⟨Nat.le_refl _⟩, by repeat (first | exact Drawn0.refl _ | apply Drawn0.step)⟩
 case round =>
  clear H'
  obtain ⟨x0_1, x3_1, x4_1, rfl, rfl, rfl, HA, HK1, ⟨m1, rfl⟩⟩ := hrel
  cases gk with
  | zero => exact absurd HA.out (by simp [numnahlaw08_order.l0])
  | succ k1 =>
   have H := HA.out
   clear HA
   simp only [numnahlaw08_order.l0] at H
   by_cases c2 : x4_1 < 6
   ·rw [if_pos c2] at H
    have c2b0 : decide (x4_1 < 6) = true := decide_eq_true c2
    clear c2
    replace H := Option.bind_eq_some_iff.mp H
    obtain ⟨t428, A30, H⟩ := H
    replace H : ((numnahlaw08_mod.f x0_1 720).bind fun t429 => (if (wrap64 (x4_1 + 1)) = 0 then (none) else (if 0 ≤ t428 then (if t428 ≤ (x3_1.size : Int) then (if 0 ≤ x4_1 then (if x4_1 ≤ (wrap64 (x4_1 + 1)) then (if (wrap64 (x4_1 + 1)) ≤ 6 then (if (x3_1.extract 0 (t428 : Int).toNat).size + ((⟨#[97, 98, 99, 100, 101, 102]⟩ : ByteArray).extract (x4_1 : Int).toNat ((wrap64 (x4_1 + 1)) : Int).toNat).size ≤ 9223372036854775807 then (if ((x3_1.extract 0 (t428 : Int).toNat) ++ ((⟨#[97, 98, 99, 100, 101, 102]⟩ : ByteArray).extract (x4_1 : Int).toNat ((wrap64 (x4_1 + 1)) : Int).toNat)).size + (x3_1.extract (t428 : Int).toNat x3_1.size).size ≤ 9223372036854775807 then (numnahlaw08_order.l0 k1 (wrap64 (Int.tdiv t429 (wrap64 (x4_1 + 1)))) (((x3_1.extract 0 (t428 : Int).toNat) ++ ((⟨#[97, 98, 99, 100, 101, 102]⟩ : ByteArray).extract (x4_1 : Int).toNat ((wrap64 (x4_1 + 1)) : Int).toNat)) ++ (x3_1.extract (t428 : Int).toNat x3_1.size)) (wrap64 (x4_1 + 1))) else (none)) else (none)) else (none)) else (none)) else (none)) else (none)) else (none)))) = some r := H
    have A3 := Aside0.mk A30
    clear A30
    replace H := Option.bind_eq_some_iff.mp H
    obtain ⟨t429, A40, H⟩ := H
    replace H : (if (wrap64 (x4_1 + 1)) = 0 then (none) else (if 0 ≤ t428 then (if t428 ≤ (x3_1.size : Int) then (if 0 ≤ x4_1 then (if x4_1 ≤ (wrap64 (x4_1 + 1)) then (if (wrap64 (x4_1 + 1)) ≤ 6 then (if (x3_1.extract 0 (t428 : Int).toNat).size + ((⟨#[97, 98, 99, 100, 101, 102]⟩ : ByteArray).extract (x4_1 : Int).toNat ((wrap64 (x4_1 + 1)) : Int).toNat).size ≤ 9223372036854775807 then (if ((x3_1.extract 0 (t428 : Int).toNat) ++ ((⟨#[97, 98, 99, 100, 101, 102]⟩ : ByteArray).extract (x4_1 : Int).toNat ((wrap64 (x4_1 + 1)) : Int).toNat)).size + (x3_1.extract (t428 : Int).toNat x3_1.size).size ≤ 9223372036854775807 then (numnahlaw08_order.l0 k1 (wrap64 (Int.tdiv t429 (wrap64 (x4_1 + 1)))) (((x3_1.extract 0 (t428 : Int).toNat) ++ ((⟨#[97, 98, 99, 100, 101, 102]⟩ : ByteArray).extract (x4_1 : Int).toNat ((wrap64 (x4_1 + 1)) : Int).toNat)) ++ (x3_1.extract (t428 : Int).toNat x3_1.size)) (wrap64 (x4_1 + 1))) else (none)) else (none)) else (none)) else (none)) else (none)) else (none)) else (none))) = some r := H
    have A4 := Aside0.mk A40
    clear A40
    by_cases c5 : (wrap64 (x4_1 + 1)) = 0
    ·rw [if_pos c5] at H
     exact absurd H (by simp)
    ·rw [if_neg c5] at H
     have c5b0 : ((wrap64 (x4_1 + 1)) == 0) = false := beq_eq_false_iff_ne.mpr c5
     have c5b1 : ((wrap64 (x4_1 + 1)) != 0) = true := bne_iff_ne.mpr c5
     by_cases c6 : 0 ≤ t428
     ·rw [if_pos c6] at H
      have c6b0 := eq_true c6
      have c6b1 : decide (0 ≤ t428) = true := decide_eq_true c6
      clear c6
      by_cases c7 : t428 ≤ (x3_1.size : Int)
      ·rw [if_pos c7] at H
       have c7b0 := eq_true c7
       have c7b1 : decide (t428 ≤ (x3_1.size : Int)) = true := decide_eq_true c7
       clear c7
       by_cases c8 : 0 ≤ x4_1
       ·rw [if_pos c8] at H
        have c8b0 := eq_true c8
        have c8b1 : decide (0 ≤ x4_1) = true := decide_eq_true c8
        clear c8
        by_cases c9 : x4_1 ≤ (wrap64 (x4_1 + 1))
        ·rw [if_pos c9] at H
         have c9b0 := eq_true c9
         have c9b1 : decide (x4_1 ≤ (wrap64 (x4_1 + 1))) = true := decide_eq_true c9
         by_cases c10 : (wrap64 (x4_1 + 1)) ≤ 6
         ·rw [if_pos c10] at H
          have c10b0 := eq_true c10
          have c10b1 : decide ((wrap64 (x4_1 + 1)) ≤ 6) = true := decide_eq_true c10
          by_cases c11 : (x3_1.extract 0 (t428 : Int).toNat).size + ((⟨#[97, 98, 99, 100, 101, 102]⟩ : ByteArray).extract (x4_1 : Int).toNat ((wrap64 (x4_1 + 1)) : Int).toNat).size ≤ 9223372036854775807
          ·rw [if_pos c11] at H
           have c11b0 := eq_true c11
           have c11b1 : decide ((x3_1.extract 0 (t428 : Int).toNat).size + ((⟨#[97, 98, 99, 100, 101, 102]⟩ : ByteArray).extract (x4_1 : Int).toNat ((wrap64 (x4_1 + 1)) : Int).toNat).size ≤ 9223372036854775807) = true := decide_eq_true c11
           try have c11b2 : (9223372036854775807 < (x3_1.extract 0 (t428 : Int).toNat).size + ((⟨#[97, 98, 99, 100, 101, 102]⟩ : ByteArray).extract (x4_1 : Int).toNat ((wrap64 (x4_1 + 1)) : Int).toNat).size) = False := eq_false (Nat.not_lt.2 c11)
           have c12b0 := eq_true (of_decide_eq_true tA_ : 0 ≤ t428)
           have c13b0 := eq_true (of_decide_eq_true tA_ : t428 ≤ (x3_1.size : Int))
           by_cases c14 : ((x3_1.extract 0 (t428 : Int).toNat) ++ ((⟨#[97, 98, 99, 100, 101, 102]⟩ : ByteArray).extract (x4_1 : Int).toNat ((wrap64 (x4_1 + 1)) : Int).toNat)).size + (x3_1.extract (t428 : Int).toNat x3_1.size).size ≤ 9223372036854775807
           ·rw [if_pos c14] at H
            have c14b0 := eq_true c14
            have c14b1 : decide (((x3_1.extract 0 (t428 : Int).toNat) ++ ((⟨#[97, 98, 99, 100, 101, 102]⟩ : ByteArray).extract (x4_1 : Int).toNat ((wrap64 (x4_1 + 1)) : Int).toNat)).size + (x3_1.extract (t428 : Int).toNat x3_1.size).size ≤ 9223372036854775807) = true := decide_eq_true c14
            try have c14b2 : (9223372036854775807 < ((x3_1.extract 0 (t428 : Int).toNat) ++ ((⟨#[97, 98, 99, 100, 101, 102]⟩ : ByteArray).extract (x4_1 : Int).toNat ((wrap64 (x4_1 + 1)) : Int).toNat)).size + (x3_1.extract (t428 : Int).toNat x3_1.size).size) = False := eq_false (Nat.not_lt.2 c14)
            have H' := Aside0.mk H
            clear H
            go_wp2_with (first | (go_at_call 55; (with_reducible refine (numnahlaw08_mod.calls x0_1 (wrap64 (x4_1 + 1)) t428 _ A3.out).mono ?_); rintro e w' ⟨rfl, ⟨nd, rfl⟩⟩; (try first | exact ⟨rfl, _, World.drewN_drewN _ _ _⟩ | exact ⟨rfl, _, Eq.trans (World.drewN_drewN _ _ _) (congrArg (World.drewN _) (Nat.add_assoc _ _ _))⟩)) | (go_at_call 55; (with_reducible refine (numnahlaw08_mod.calls x0_1 720 t429 _ A4.out).mono ?_); rintro e w' ⟨rfl, ⟨nd, rfl⟩⟩; (try first | exact ⟨rfl, _, World.drewN_drewN _ _ _⟩ | exact ⟨rfl, _, Eq.trans (World.drewN_drewN _ _ _) (congrArg (World.drewN _) (Nat.add_assoc _ _ _))⟩)))
            repeat (go_quiet (first | (go_at_call 55; (with_reducible refine (numnahlaw08_mod.calls x0_1 (wrap64 (x4_1 + 1)) t428 _ A3.out).mono ?_); rintro e w' ⟨rfl, ⟨nd, rfl⟩⟩; (try first | exact ⟨rfl, _, World.drewN_drewN _ _ _⟩ | exact ⟨rfl, _, Eq.trans (World.drewN_drewN _ _ _) (congrArg (World.drewN _) (Nat.add_assoc _ _ _))⟩)) | (go_at_call 55; (with_reducible refine (numnahlaw08_mod.calls x0_1 720 t429 _ A4.out).mono ?_); rintro e w' ⟨rfl, ⟨nd, rfl⟩⟩; (try first | exact ⟨rfl, _, World.drewN_drewN _ _ _⟩ | exact ⟨rfl, _, Eq.trans (World.drewN_drewN _ _ _) (congrArg (World.drewN _) (Nat.add_assoc _ _ _))⟩))); try go_wp2_with (first | (go_at_call 55; (with_reducible refine (numnahlaw08_mod.calls x0_1 (wrap64 (x4_1 + 1)) t428 _ A3.out).mono ?_); rintro e w' ⟨rfl, ⟨nd, rfl⟩⟩; (try first | exact ⟨rfl, _, World.drewN_drewN _ _ _⟩ | exact ⟨rfl, _, Eq.trans (World.drewN_drewN _ _ _) (congrArg (World.drewN _) (Nat.add_assoc _ _ _))⟩)) | (go_at_call 55; (with_reducible refine (numnahlaw08_mod.calls x0_1 720 t429 _ A4.out).mono ?_); rintro e w' ⟨rfl, ⟨nd, rfl⟩⟩; (try first | exact ⟨rfl, _, World.drewN_drewN _ _ _⟩ | exact ⟨rfl, _, Eq.trans (World.drewN_drewN _ _ _) (congrArg (World.drewN _) (Nat.add_assoc _ _ _))⟩))))
            go_roundg k1
            case measure => have := HK1.out; omega
            case rel => exact ⟨(wrap64 (Int.tdiv t429 (wrap64 (x4_1 + 1)))), (((x3_1.extract 0 (t428 : Int).toNat) ++ ((⟨#[97, 98, 99, 100, 101, 102]⟩ : ByteArray).extract (x4_1 : Int).toNat ((wrap64 (x4_1 + 1)) : Int).toNat)) ++ (x3_1.extract (t428 : Int).toNat x3_1.size)), (wrap64 (x4_1 + 1)), tS_, tS_, tS_, H', ⟨by have := HK1.out; omega⟩, by repeat (first | exact Drawn0.refl _ | apply Drawn0.step)⟩
           ·rw [if_neg c14] at H
            exact absurd H (by simp)
          ·rw [if_neg c11] at H
           exact absurd H (by simp)
         ·rw [if_neg c10] at H
          exact absurd H (by simp)
        ·rw [if_neg c9] at H
         exact absurd H (by simp)
       ·rw [if_neg c8] at H
        exact absurd H (by simp)
      ·rw [if_neg c7] at H
       exact absurd H (by simp)
     ·rw [if_neg c6] at H
      exact absurd H (by simp)
   ·rw [if_neg c2] at H
    have c2b0 : decide (x4_1 < 6) = false := decide_eq_false c2
    clear c2
    obtain rfl := Option.some.inj H
    go_wp2
    repeat (go_quiet (fail); try go_wp2)
    go_ret
    exact ⟨by first | rfl | (simp; done) | (simp [*]; done), by repeat (first | exact Drawn0.refl _ | apply Drawn0.step)⟩

end Go.Proofs.YtaafeallcaiooaaGreat.Pr
-- indented by one
