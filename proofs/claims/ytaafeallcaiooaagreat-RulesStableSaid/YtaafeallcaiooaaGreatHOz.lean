/- order makes a precedence of any number. -/
import Derived.Test.YtaafeallcaiooaaGreatPr0
import Derived.Test.YtaafeallcaiooaaGreatPrA1
import Derived.Test.YtaafeallcaiooaaGreatHEv
import Derived.Test.YtaafeallcaiooaaGreatHOr
import Derived.Test.YtaafeallcaiooaaGreatHGs
-- Laid by wip/tools/inj.py of this project, which drives the kit's printer. Lean checks it.
namespace Go.Proofs.YtaafeallcaiooaaGreat.Pr
open Go.RowKit Go.Proofs.YtaafeallcaiooaaGreatW.PrintWords Go.Proofs.YtaafeallcaiooaaGreatW.PrintLast Go.Proofs.YtaafeallcaiooaaGreatW.PrintMore
attribute [local go_sem] max2_int min2_int max_two min_two max_three min_three max_four min_four   -- for this text's walks alone
set_option linter.unusedVariables false
set_option linter.unusedSimpArgs false

/-! ### numnahlaw08_laws: function 28 -/
def numnahlaw08_laws.l0 : Nat → List (S94) → List (S94) → Int → Option ((List (S94)))
  | 0, _, _, _ => none
  | k + 1, x0, x3, x4 => if x4 < (x0.length : Int) then (if x4 ≤ 6 then (if 0 ≤ x4 then (if 0 ≤ (mn (((rd_T94 x0 x4).f0).size : Int) 80) then (if (mn (((rd_T94 x0 x4).f0).size : Int) 80) ≤ (((rd_T94 x0 x4).f0).size : Int) then (if 0 ≤ (mn (((rd_T94 x0 x4).f1).size : Int) 80) then (if (mn (((rd_T94 x0 x4).f1).size : Int) 80) ≤ (((rd_T94 x0 x4).f1).size : Int) then (if x3.length < 4398046511104 then (numnahlaw08_laws.l0 k x0 (x3 ++ [(⟨((rd_T94 x0 x4).f0).extract 0 ((mn (((rd_T94 x0 x4).f0).size : Int) 80) : Int).toNat, ((rd_T94 x0 x4).f1).extract 0 ((mn (((rd_T94 x0 x4).f1).size : Int) 80) : Int).toNat⟩ : S94)]) (wrap64 (x4 + 1))) else (none)) else (none)) else (none)) else (none)) else (none)) else (none)) else (some x3)) else (some x3)
def numnahlaw08_laws.f (k : Nat) (l0 : List (S94)) : Option ((List (S94))) := numnahlaw08_laws.l0 k l0 ([] : List (S94)) 0
theorem numnahlaw08_laws.mono_l : ∀ k, (∀ y0 y1 y2, LeO (numnahlaw08_laws.l0 k y0 y1 y2) (numnahlaw08_laws.l0 (k + 1) y0 y1 y2))
  | 0 => fun _ _ _ r h => by simp [numnahlaw08_laws.l0] at h
  | k + 1 => by
    have ih0 := numnahlaw08_laws.mono_l k
    · intro y0 y1 y2
      unfold numnahlaw08_laws.l0
      repeat' first
      | (with_reducible exact ih0 _ _ _)
      | (with_reducible exact LeO.refl _)
      | (with_reducible exact LeO.none _)
      | (with_reducible refine LeO.ite ?_ ?_)
      | (with_reducible refine LeO.bind ?_ (fun _ => ?_))
      | exact ih0 _ _ _
      | exact LeO.none _
      | refine LeO.ite ?_ ?_
      | refine LeO.bind ?_ (fun _ => ?_)
theorem numnahlaw08_laws.mono : ∀ a0 k, LeO (numnahlaw08_laws.f k a0) (numnahlaw08_laws.f (k + 1) a0) := by
  intro a0 k
  have ih0 := numnahlaw08_laws.mono_l k
  unfold numnahlaw08_laws.f
  repeat' first
      | (with_reducible exact ih0 _ _ _)
      | (with_reducible exact LeO.refl _)
      | (with_reducible exact LeO.none _)
      | (with_reducible refine LeO.ite ?_ ?_)
      | (with_reducible refine LeO.bind ?_ (fun _ => ?_))
      | exact ih0 _ _ _
      | exact LeO.none _
      | refine LeO.ite ?_ ?_
      | refine LeO.bind ?_ (fun _ => ?_)
/-! ### numnahlaw08_few: function 29 -/
def numnahlaw08_few.l0 : Nat → List ByteArray → List ByteArray → Int → Option (List ByteArray)
  | 0, _, _, _ => none
  | k + 1, x0, x3, x4 => if x4 < (x0.length : Int) then (if x4 ≤ 20 then (if 0 ≤ x4 then ((numnahlaw08_short.f (rdOf ByteArray.empty x0 x4)).bind fun t212 => (if x3.length < 8796093022208 then (numnahlaw08_few.l0 k x0 (x3 ++ [t212]) (wrap64 (x4 + 1))) else (none))) else (none)) else (some x3)) else (some x3)
def numnahlaw08_few.f (k : Nat) (l0 : List ByteArray) : Option (List ByteArray) := numnahlaw08_few.l0 k l0 ([] : List ByteArray) 0
theorem numnahlaw08_few.mono_l : ∀ k, (∀ y0 y1 y2, LeO (numnahlaw08_few.l0 k y0 y1 y2) (numnahlaw08_few.l0 (k + 1) y0 y1 y2))
  | 0 => fun _ _ _ r h => by simp [numnahlaw08_few.l0] at h
  | k + 1 => by
    have ih0 := numnahlaw08_few.mono_l k
    · intro y0 y1 y2
      unfold numnahlaw08_few.l0
      repeat' first
      | (with_reducible exact ih0 _ _ _)
      | (with_reducible exact LeO.refl _)
      | (with_reducible exact LeO.none _)
      | (with_reducible refine LeO.ite ?_ ?_)
      | (with_reducible refine LeO.bind ?_ (fun _ => ?_))
      | exact ih0 _ _ _
      | exact LeO.none _
      | refine LeO.ite ?_ ?_
      | refine LeO.bind ?_ (fun _ => ?_)
theorem numnahlaw08_few.mono : ∀ a0 k, LeO (numnahlaw08_few.f k a0) (numnahlaw08_few.f (k + 1) a0) := by
  intro a0 k
  have ih0 := numnahlaw08_few.mono_l k
  unfold numnahlaw08_few.f
  repeat' first
      | (with_reducible exact ih0 _ _ _)
      | (with_reducible exact LeO.refl _)
      | (with_reducible exact LeO.none _)
      | (with_reducible refine LeO.ite ?_ ?_)
      | (with_reducible refine LeO.bind ?_ (fun _ => ?_))
      | exact ih0 _ _ _
      | exact LeO.none _
      | refine LeO.ite ?_ ?_
      | refine LeO.bind ?_ (fun _ => ?_)
/-! ### numnahref08_occurs: function 80 -/
def numnahref08_occurs.l0 : Nat → Int → ByteArray → Int → Option (Bool)
  | 0, _, _, _ => none
  | k + 1, x0, x1, x5 => if x5 < (x1.size : Int) then (if 0 ≤ x5 then (if (bt x1 x5) = x0 then (some true) else (numnahref08_occurs.l0 k x0 x1 (wrap64 (x5 + 1)))) else (none)) else (some false)
def numnahref08_occurs.f (k : Nat) (a0 : Int) (a1 : ByteArray) : Option (Bool) := numnahref08_occurs.l0 k a0 a1 0
theorem numnahref08_occurs.mono_l : ∀ k, (∀ y0 y1 y2, LeO (numnahref08_occurs.l0 k y0 y1 y2) (numnahref08_occurs.l0 (k + 1) y0 y1 y2))
  | 0 => fun _ _ _ r h => by simp [numnahref08_occurs.l0] at h
  | k + 1 => by
    have ih0 := numnahref08_occurs.mono_l k
    · intro y0 y1 y2
      unfold numnahref08_occurs.l0
      repeat' first
      | (with_reducible exact ih0 _ _ _)
      | (with_reducible exact LeO.refl _)
      | (with_reducible exact LeO.none _)
      | (with_reducible refine LeO.ite ?_ ?_)
      | (with_reducible refine LeO.bind ?_ (fun _ => ?_))
      | exact ih0 _ _ _
      | exact LeO.none _
      | refine LeO.ite ?_ ?_
      | refine LeO.bind ?_ (fun _ => ?_)
theorem numnahref08_occurs.mono : ∀ a0 a1 k, LeO (numnahref08_occurs.f k a0 a1) (numnahref08_occurs.f (k + 1) a0 a1) := by
  intro a0 a1 k
  have ih0 := numnahref08_occurs.mono_l k
  unfold numnahref08_occurs.f
  repeat' first
      | (with_reducible exact ih0 _ _ _)
      | (with_reducible exact LeO.refl _)
      | (with_reducible exact LeO.none _)
      | (with_reducible refine LeO.ite ?_ ?_)
      | (with_reducible refine LeO.bind ?_ (fun _ => ?_))
      | exact ih0 _ _ _
      | exact LeO.none _
      | refine LeO.ite ?_ ?_
      | refine LeO.bind ?_ (fun _ => ?_)
end Go.Proofs.YtaafeallcaiooaaGreat.Pr
-- Laid by wip/tools/inj.py of this project, which drives the kit's printer. Lean checks it.
namespace Go.Proofs.YtaafeallcaiooaaGreat.Pr
open Go.RowKit Go.Proofs.YtaafeallcaiooaaGreatW.PrintWords Go.Proofs.YtaafeallcaiooaaGreatW.PrintLast Go.Proofs.YtaafeallcaiooaaGreatW.PrintMore
attribute [local go_sem] max2_int min2_int max_two min_two max_three min_three max_four min_four   -- for this text's walks alone
set_option linter.unusedVariables false
set_option linter.unusedSimpArgs false

/-! ### numnahlaw08_mod: function 55 -/
def numnahlaw08_mod.f (a0 : Int) (a1 : Int) : Option (Int) := if (IntKind.u64.wrap (a1)) = 0 then (none) else (some (wrap64 (Int.tmod (IntKind.u64.wrap (a0)) (IntKind.u64.wrap (a1)))))
set_option maxHeartbeats 8000000 in
set_option maxRecDepth 100000 in
theorem numnahlaw08_mod.calls (a0 : Int) (a1 : Int) (r : Int) (w : World) (h : numnahlaw08_mod.f a0 a1 = some r) :
    Calls Tryz.prog 55 #[.int .i64 a0, .int .i64 a1] w fun e w' => e = .returned (.int .i64 r) ∧ Drawn0 w w' := by
  have H : (if (IntKind.u64.wrap (a1)) = 0 then (none) else (some (wrap64 (Int.tmod (IntKind.u64.wrap (a0)) (IntKind.u64.wrap (a1)))))) = some r := h
  clear h
  by_cases c3 : (IntKind.u64.wrap (a1)) = 0
  · rw [if_pos c3] at H
    exact absurd H (by simp)
  · rw [if_neg c3] at H
    have c3b0 : ((IntKind.u64.wrap (a1)) == 0) = false := beq_eq_false_iff_ne.mpr c3
    have c3b1 : ((IntKind.u64.wrap (a1)) != 0) = true := bne_iff_ne.mpr c3
    obtain rfl := Option.some.inj H
    go_enter Tryz.func55, Tryz.ntmps55
    go_wp2
    go_ret
    exact ⟨by first | rfl | (simp; done) | (simp [*]; done), by repeat (first | exact Drawn0.refl _ | apply Drawn0.step)⟩

/-! ### numnahref08_rank: function 148 -/
def numnahref08_rank.l0 : Nat → ByteArray → Int → Int → Option (Int)
  | 0, _, _, _ => none
  | k + 1, x0, x1, x5 => if 0 ≤ x5 then (if x5 < (x0.size : Int) then (if (bt x0 x5) = x1 then (some x5) else (numnahref08_rank.l0 k x0 x1 (wrap64 (x5 + 1)))) else (none)) else (none)
def numnahref08_rank.f (k : Nat) (a0 : ByteArray) (a1 : Int) : Option (Int) := numnahref08_rank.l0 k a0 a1 0
theorem numnahref08_rank.mono_l : ∀ k, (∀ y0 y1 y2, LeO (numnahref08_rank.l0 k y0 y1 y2) (numnahref08_rank.l0 (k + 1) y0 y1 y2))
  | 0 => fun _ _ _ r h => by simp [numnahref08_rank.l0] at h
  | k + 1 => by
    have ih0 := numnahref08_rank.mono_l k
    · intro y0 y1 y2
      unfold numnahref08_rank.l0
      repeat' first
      | (with_reducible exact ih0 _ _ _)
      | (with_reducible exact LeO.refl _)
      | (with_reducible exact LeO.none _)
      | (with_reducible refine LeO.ite ?_ ?_)
      | (with_reducible refine LeO.bind ?_ (fun _ => ?_))
      | exact ih0 _ _ _
      | exact LeO.none _
      | refine LeO.ite ?_ ?_
      | refine LeO.bind ?_ (fun _ => ?_)
theorem numnahref08_rank.mono : ∀ a0 a1 k, LeO (numnahref08_rank.f k a0 a1) (numnahref08_rank.f (k + 1) a0 a1) := by
  intro a0 a1 k
  have ih0 := numnahref08_rank.mono_l k
  unfold numnahref08_rank.f
  repeat' first
      | (with_reducible exact ih0 _ _ _)
      | (with_reducible exact LeO.refl _)
      | (with_reducible exact LeO.none _)
      | (with_reducible refine LeO.ite ?_ ?_)
      | (with_reducible refine LeO.bind ?_ (fun _ => ?_))
      | exact ih0 _ _ _
      | exact LeO.none _
      | refine LeO.ite ?_ ?_
      | refine LeO.bind ?_ (fun _ => ?_)
end Go.Proofs.YtaafeallcaiooaaGreat.Pr
-- Laid by wip/tools/inj.py of this project, which drives the kit's printer. Lean checks it.
namespace Go.Proofs.YtaafeallcaiooaaGreat.Pr
open Go.RowKit Go.Proofs.YtaafeallcaiooaaGreatW.PrintWords Go.Proofs.YtaafeallcaiooaaGreatW.PrintLast Go.Proofs.YtaafeallcaiooaaGreatW.PrintMore
attribute [local go_sem] max2_int min2_int max_two min_two max_three min_three max_four min_four   -- for this text's walks alone
set_option linter.unusedVariables false
set_option linter.unusedSimpArgs false

/-! ### numnahref08_Precedence: function 39 -/
def numnahref08_Precedence.l0 : Nat → ByteArray → Int → Option (Bool)
  | 0, _, _ => none
  | k + 1, x0, x3 => if x3 ≤ 102 then ((numnahref08_occurs.f k x3 x0).bind fun t411 => (if t411 = true then (numnahref08_Precedence.l0 k x0 ((x3 + 1) % 256)) else (some false))) else (some ((x0.size : Int) == 6))
def numnahref08_Precedence.f (k : Nat) (a0 : ByteArray) : Option (Bool) := numnahref08_Precedence.l0 k a0 97
theorem numnahref08_Precedence.mono_l : ∀ k, (∀ y0 y1, LeO (numnahref08_Precedence.l0 k y0 y1) (numnahref08_Precedence.l0 (k + 1) y0 y1))
  | 0 => fun _ _ r h => by simp [numnahref08_Precedence.l0] at h
  | k + 1 => by
    have ih0 := numnahref08_Precedence.mono_l k
    · intro y0 y1
      unfold numnahref08_Precedence.l0
      repeat' first
      | (with_reducible exact ih0 _ _)
      | (with_reducible exact numnahref08_occurs.mono _ _ _)
      | (with_reducible exact LeO.refl _)
      | (with_reducible exact LeO.none _)
      | (with_reducible refine LeO.ite ?_ ?_)
      | (with_reducible refine LeO.bind ?_ (fun _ => ?_))
      | exact ih0 _ _
      | exact numnahref08_occurs.mono _ _ _
      | exact LeO.none _
      | refine LeO.ite ?_ ?_
      | refine LeO.bind ?_ (fun _ => ?_)
theorem numnahref08_Precedence.mono : ∀ a0 k, LeO (numnahref08_Precedence.f k a0) (numnahref08_Precedence.f (k + 1) a0) := by
  intro a0 k
  have ih0 := numnahref08_Precedence.mono_l k
  unfold numnahref08_Precedence.f
  repeat' first
      | (with_reducible exact ih0 _ _)
      | (with_reducible exact numnahref08_occurs.mono _ _ _)
      | (with_reducible exact LeO.refl _)
      | (with_reducible exact LeO.none _)
      | (with_reducible refine LeO.ite ?_ ?_)
      | (with_reducible refine LeO.bind ?_ (fun _ => ?_))
      | exact ih0 _ _
      | exact numnahref08_occurs.mono _ _ _
      | exact LeO.none _
      | refine LeO.ite ?_ ?_
      | refine LeO.bind ?_ (fun _ => ?_)
/-! ### numnahlaw08_order: function 42 -/
def numnahlaw08_order.l0 : Nat → Int → ByteArray → Int → Option (ByteArray)
  | 0, _, _, _ => none
  | k + 1, x0, x3, x4 => if x4 < 6 then ((numnahlaw08_mod.f x0 (wrap64 (x4 + 1))).bind fun t428 => ((numnahlaw08_mod.f x0 720).bind fun t429 => (if (wrap64 (x4 + 1)) = 0 then (none) else (if 0 ≤ t428 then (if t428 ≤ (x3.size : Int) then (if 0 ≤ x4 then (if x4 ≤ (wrap64 (x4 + 1)) then (if (wrap64 (x4 + 1)) ≤ 6 then (if (x3.extract 0 (t428 : Int).toNat).size + ((⟨#[97, 98, 99, 100, 101, 102]⟩ : ByteArray).extract (x4 : Int).toNat ((wrap64 (x4 + 1)) : Int).toNat).size ≤ 9223372036854775807 then (if ((x3.extract 0 (t428 : Int).toNat) ++ ((⟨#[97, 98, 99, 100, 101, 102]⟩ : ByteArray).extract (x4 : Int).toNat ((wrap64 (x4 + 1)) : Int).toNat)).size + (x3.extract (t428 : Int).toNat x3.size).size ≤ 9223372036854775807 then (numnahlaw08_order.l0 k (wrap64 (Int.tdiv t429 (wrap64 (x4 + 1)))) (((x3.extract 0 (t428 : Int).toNat) ++ ((⟨#[97, 98, 99, 100, 101, 102]⟩ : ByteArray).extract (x4 : Int).toNat ((wrap64 (x4 + 1)) : Int).toNat)) ++ (x3.extract (t428 : Int).toNat x3.size)) (wrap64 (x4 + 1))) else (none)) else (none)) else (none)) else (none)) else (none)) else (none)) else (none))))) else (some x3)
def numnahlaw08_order.f (k : Nat) (a0 : Int) : Option (ByteArray) := numnahlaw08_order.l0 k a0 (⟨#[]⟩ : ByteArray) 0
theorem numnahlaw08_order.mono_l : ∀ k, (∀ y0 y1 y2, LeO (numnahlaw08_order.l0 k y0 y1 y2) (numnahlaw08_order.l0 (k + 1) y0 y1 y2))
  | 0 => fun _ _ _ r h => by simp [numnahlaw08_order.l0] at h
  | k + 1 => by
    have ih0 := numnahlaw08_order.mono_l k
    · intro y0 y1 y2
      unfold numnahlaw08_order.l0
      repeat' first
      | (with_reducible exact ih0 _ _ _)
      | (with_reducible exact LeO.refl _)
      | (with_reducible exact LeO.none _)
      | (with_reducible refine LeO.ite ?_ ?_)
      | (with_reducible refine LeO.bind ?_ (fun _ => ?_))
      | exact ih0 _ _ _
      | exact LeO.none _
      | refine LeO.ite ?_ ?_
      | refine LeO.bind ?_ (fun _ => ?_)
theorem numnahlaw08_order.mono : ∀ a0 k, LeO (numnahlaw08_order.f k a0) (numnahlaw08_order.f (k + 1) a0) := by
  intro a0 k
  have ih0 := numnahlaw08_order.mono_l k
  unfold numnahlaw08_order.f
  repeat' first
      | (with_reducible exact ih0 _ _ _)
      | (with_reducible exact LeO.refl _)
      | (with_reducible exact LeO.none _)
      | (with_reducible refine LeO.ite ?_ ?_)
      | (with_reducible refine LeO.bind ?_ (fun _ => ?_))
      | exact ih0 _ _ _
      | exact LeO.none _
      | refine LeO.ite ?_ ?_
      | refine LeO.bind ?_ (fun _ => ?_)
set_option maxHeartbeats 8000000 in
set_option maxRecDepth 100000 in
theorem numnahlaw08_order.calls (k : Nat) (a0 : Int) (r : ByteArray) (w : World) (h : numnahlaw08_order.f k a0 = some r) :
    Calls Tryz.prog 42 #[.int .i64 a0] w fun e w' => e = .returned (.string r) ∧ Drawn0 w w' := by
  have H : (numnahlaw08_order.l0 k a0 (⟨#[]⟩ : ByteArray) 0) = some r := h
  clear h
  have H' := Aside0.mk H
  clear H
  go_enter Tryz.func42, Tryz.ntmps42
  go_wp2
  repeat (go_quiet (fail); try go_wp2)
  go_loopg [0, 3, 4] k (fun kq v0 v3 v4 w' => ∃ (x0_1 : Int) (x3_1 : ByteArray) (x4_1 : Int), v0 = .int .i64 x0_1 ∧ v3 = .string x3_1 ∧ v4 = .int .i64 x4_1 ∧ Aside0 (numnahlaw08_order.l0 kq x0_1 x3_1 x4_1 = some r) ∧ Aside0 (kq ≤ k) ∧ Drawn0 w w')
  case atStart => exact ⟨(a0), ((⟨#[]⟩ : ByteArray)), (0), (by first | rfl | (simp; done) | (simp [*]; done)), (by first | rfl | (simp; done) | (simp [*]; done)), (by first | rfl | (simp; done) | (simp [*]; done)), H', ⟨Nat.le_refl _⟩, by repeat (first | exact Drawn0.refl _ | apply Drawn0.step)⟩
  case round =>
    clear H'
    obtain ⟨x0_1, x3_1, x4_1, rfl, rfl, rfl, HA, HK1, ⟨m1, rfl⟩⟩ := hrel
    cases gk with
    | zero => exact absurd HA.out (by simp [numnahlaw08_order.l0])
    | succ k1 =>
      have H := HA.out
      clear HA
      simp only [numnahlaw08_order.l0] at H
      by_cases c2 : x4_1 < 6
      · rw [if_pos c2] at H
        have c2b0 : decide (x4_1 < 6) = true := decide_eq_true c2
        clear c2
        replace H := Option.bind_eq_some_iff.mp H
        obtain ⟨t428, A30, H⟩ := H
        replace H : ((numnahlaw08_mod.f x0_1 720).bind fun t429 => (if (wrap64 (x4_1 + 1)) = 0 then (none) else (if 0 ≤ t428 then (if t428 ≤ (x3_1.size : Int) then (if 0 ≤ x4_1 then (if x4_1 ≤ (wrap64 (x4_1 + 1)) then (if (wrap64 (x4_1 + 1)) ≤ 6 then (if (x3_1.extract 0 (t428 : Int).toNat).size + ((⟨#[97, 98, 99, 100, 101, 102]⟩ : ByteArray).extract (x4_1 : Int).toNat ((wrap64 (x4_1 + 1)) : Int).toNat).size ≤ 9223372036854775807 then (if ((x3_1.extract 0 (t428 : Int).toNat) ++ ((⟨#[97, 98, 99, 100, 101, 102]⟩ : ByteArray).extract (x4_1 : Int).toNat ((wrap64 (x4_1 + 1)) : Int).toNat)).size + (x3_1.extract (t428 : Int).toNat x3_1.size).size ≤ 9223372036854775807 then (numnahlaw08_order.l0 k1 (wrap64 (Int.tdiv t429 (wrap64 (x4_1 + 1)))) (((x3_1.extract 0 (t428 : Int).toNat) ++ ((⟨#[97, 98, 99, 100, 101, 102]⟩ : ByteArray).extract (x4_1 : Int).toNat ((wrap64 (x4_1 + 1)) : Int).toNat)) ++ (x3_1.extract (t428 : Int).toNat x3_1.size)) (wrap64 (x4_1 + 1))) else (none)) else (none)) else (none)) else (none)) else (none)) else (none)) else (none)))) = some r := H
        have A3 := Aside0.mk A30
        clear A30
        replace H := Option.bind_eq_some_iff.mp H
        obtain ⟨t429, A40, H⟩ := H
        replace H : (if (wrap64 (x4_1 + 1)) = 0 then (none) else (if 0 ≤ t428 then (if t428 ≤ (x3_1.size : Int) then (if 0 ≤ x4_1 then (if x4_1 ≤ (wrap64 (x4_1 + 1)) then (if (wrap64 (x4_1 + 1)) ≤ 6 then (if (x3_1.extract 0 (t428 : Int).toNat).size + ((⟨#[97, 98, 99, 100, 101, 102]⟩ : ByteArray).extract (x4_1 : Int).toNat ((wrap64 (x4_1 + 1)) : Int).toNat).size ≤ 9223372036854775807 then (if ((x3_1.extract 0 (t428 : Int).toNat) ++ ((⟨#[97, 98, 99, 100, 101, 102]⟩ : ByteArray).extract (x4_1 : Int).toNat ((wrap64 (x4_1 + 1)) : Int).toNat)).size + (x3_1.extract (t428 : Int).toNat x3_1.size).size ≤ 9223372036854775807 then (numnahlaw08_order.l0 k1 (wrap64 (Int.tdiv t429 (wrap64 (x4_1 + 1)))) (((x3_1.extract 0 (t428 : Int).toNat) ++ ((⟨#[97, 98, 99, 100, 101, 102]⟩ : ByteArray).extract (x4_1 : Int).toNat ((wrap64 (x4_1 + 1)) : Int).toNat)) ++ (x3_1.extract (t428 : Int).toNat x3_1.size)) (wrap64 (x4_1 + 1))) else (none)) else (none)) else (none)) else (none)) else (none)) else (none)) else (none))) = some r := H
        have A4 := Aside0.mk A40
        clear A40
        by_cases c5 : (wrap64 (x4_1 + 1)) = 0
        · rw [if_pos c5] at H
          exact absurd H (by simp)
        · rw [if_neg c5] at H
          have c5b0 : ((wrap64 (x4_1 + 1)) == 0) = false := beq_eq_false_iff_ne.mpr c5
          have c5b1 : ((wrap64 (x4_1 + 1)) != 0) = true := bne_iff_ne.mpr c5
          by_cases c6 : 0 ≤ t428
          · rw [if_pos c6] at H
            have c6b0 := eq_true c6
            have c6b1 : decide (0 ≤ t428) = true := decide_eq_true c6
            clear c6
            by_cases c7 : t428 ≤ (x3_1.size : Int)
            · rw [if_pos c7] at H
              have c7b0 := eq_true c7
              have c7b1 : decide (t428 ≤ (x3_1.size : Int)) = true := decide_eq_true c7
              clear c7
              by_cases c8 : 0 ≤ x4_1
              · rw [if_pos c8] at H
                have c8b0 := eq_true c8
                have c8b1 : decide (0 ≤ x4_1) = true := decide_eq_true c8
                clear c8
                by_cases c9 : x4_1 ≤ (wrap64 (x4_1 + 1))
                · rw [if_pos c9] at H
                  have c9b0 := eq_true c9
                  have c9b1 : decide (x4_1 ≤ (wrap64 (x4_1 + 1))) = true := decide_eq_true c9
                  by_cases c10 : (wrap64 (x4_1 + 1)) ≤ 6
                  · rw [if_pos c10] at H
                    have c10b0 := eq_true c10
                    have c10b1 : decide ((wrap64 (x4_1 + 1)) ≤ 6) = true := decide_eq_true c10
                    by_cases c11 : (x3_1.extract 0 (t428 : Int).toNat).size + ((⟨#[97, 98, 99, 100, 101, 102]⟩ : ByteArray).extract (x4_1 : Int).toNat ((wrap64 (x4_1 + 1)) : Int).toNat).size ≤ 9223372036854775807
                    · rw [if_pos c11] at H
                      have c11b0 := eq_true c11
                      have c11b1 : decide ((x3_1.extract 0 (t428 : Int).toNat).size + ((⟨#[97, 98, 99, 100, 101, 102]⟩ : ByteArray).extract (x4_1 : Int).toNat ((wrap64 (x4_1 + 1)) : Int).toNat).size ≤ 9223372036854775807) = true := decide_eq_true c11
                      try have c11b2 : (9223372036854775807 < (x3_1.extract 0 (t428 : Int).toNat).size + ((⟨#[97, 98, 99, 100, 101, 102]⟩ : ByteArray).extract (x4_1 : Int).toNat ((wrap64 (x4_1 + 1)) : Int).toNat).size) = False := eq_false (Nat.not_lt.2 c11)
                      have c12b0 := eq_true (of_decide_eq_true (by first | (with_reducible assumption) | assumption) : 0 ≤ t428)
                      have c13b0 := eq_true (of_decide_eq_true (by first | (with_reducible assumption) | assumption) : t428 ≤ (x3_1.size : Int))
                      by_cases c14 : ((x3_1.extract 0 (t428 : Int).toNat) ++ ((⟨#[97, 98, 99, 100, 101, 102]⟩ : ByteArray).extract (x4_1 : Int).toNat ((wrap64 (x4_1 + 1)) : Int).toNat)).size + (x3_1.extract (t428 : Int).toNat x3_1.size).size ≤ 9223372036854775807
                      · rw [if_pos c14] at H
                        have c14b0 := eq_true c14
                        have c14b1 : decide (((x3_1.extract 0 (t428 : Int).toNat) ++ ((⟨#[97, 98, 99, 100, 101, 102]⟩ : ByteArray).extract (x4_1 : Int).toNat ((wrap64 (x4_1 + 1)) : Int).toNat)).size + (x3_1.extract (t428 : Int).toNat x3_1.size).size ≤ 9223372036854775807) = true := decide_eq_true c14
                        try have c14b2 : (9223372036854775807 < ((x3_1.extract 0 (t428 : Int).toNat) ++ ((⟨#[97, 98, 99, 100, 101, 102]⟩ : ByteArray).extract (x4_1 : Int).toNat ((wrap64 (x4_1 + 1)) : Int).toNat)).size + (x3_1.extract (t428 : Int).toNat x3_1.size).size) = False := eq_false (Nat.not_lt.2 c14)
                        have H' := Aside0.mk H
                        clear H
                        go_wp2_with (first | (go_at_call 55; (with_reducible refine (numnahlaw08_mod.calls x0_1 (wrap64 (x4_1 + 1)) t428 _ A3.out).mono ?_); rintro e w' ⟨rfl, ⟨nd, rfl⟩⟩; (try first | exact ⟨rfl, _, World.drewN_drewN _ _ _⟩ | exact ⟨rfl, _, Eq.trans (World.drewN_drewN _ _ _) (congrArg (World.drewN _) (Nat.add_assoc _ _ _))⟩)) | (go_at_call 55; (with_reducible refine (numnahlaw08_mod.calls x0_1 720 t429 _ A4.out).mono ?_); rintro e w' ⟨rfl, ⟨nd, rfl⟩⟩; (try first | exact ⟨rfl, _, World.drewN_drewN _ _ _⟩ | exact ⟨rfl, _, Eq.trans (World.drewN_drewN _ _ _) (congrArg (World.drewN _) (Nat.add_assoc _ _ _))⟩)))
                        repeat (go_quiet (first | (go_at_call 55; (with_reducible refine (numnahlaw08_mod.calls x0_1 (wrap64 (x4_1 + 1)) t428 _ A3.out).mono ?_); rintro e w' ⟨rfl, ⟨nd, rfl⟩⟩; (try first | exact ⟨rfl, _, World.drewN_drewN _ _ _⟩ | exact ⟨rfl, _, Eq.trans (World.drewN_drewN _ _ _) (congrArg (World.drewN _) (Nat.add_assoc _ _ _))⟩)) | (go_at_call 55; (with_reducible refine (numnahlaw08_mod.calls x0_1 720 t429 _ A4.out).mono ?_); rintro e w' ⟨rfl, ⟨nd, rfl⟩⟩; (try first | exact ⟨rfl, _, World.drewN_drewN _ _ _⟩ | exact ⟨rfl, _, Eq.trans (World.drewN_drewN _ _ _) (congrArg (World.drewN _) (Nat.add_assoc _ _ _))⟩))); try go_wp2_with (first | (go_at_call 55; (with_reducible refine (numnahlaw08_mod.calls x0_1 (wrap64 (x4_1 + 1)) t428 _ A3.out).mono ?_); rintro e w' ⟨rfl, ⟨nd, rfl⟩⟩; (try first | exact ⟨rfl, _, World.drewN_drewN _ _ _⟩ | exact ⟨rfl, _, Eq.trans (World.drewN_drewN _ _ _) (congrArg (World.drewN _) (Nat.add_assoc _ _ _))⟩)) | (go_at_call 55; (with_reducible refine (numnahlaw08_mod.calls x0_1 720 t429 _ A4.out).mono ?_); rintro e w' ⟨rfl, ⟨nd, rfl⟩⟩; (try first | exact ⟨rfl, _, World.drewN_drewN _ _ _⟩ | exact ⟨rfl, _, Eq.trans (World.drewN_drewN _ _ _) (congrArg (World.drewN _) (Nat.add_assoc _ _ _))⟩))))
                        go_roundg k1
                        case measure => have := HK1.out; omega
                        case rel => exact ⟨(wrap64 (Int.tdiv t429 (wrap64 (x4_1 + 1)))), (((x3_1.extract 0 (t428 : Int).toNat) ++ ((⟨#[97, 98, 99, 100, 101, 102]⟩ : ByteArray).extract (x4_1 : Int).toNat ((wrap64 (x4_1 + 1)) : Int).toNat)) ++ (x3_1.extract (t428 : Int).toNat x3_1.size)), (wrap64 (x4_1 + 1)), (by first | rfl | (simp; done) | (simp [*]; done)), (by first | rfl | (simp; done) | (simp [*]; done)), (by first | rfl | (simp; done) | (simp [*]; done)), H', ⟨by have := HK1.out; omega⟩, by repeat (first | exact Drawn0.refl _ | apply Drawn0.step)⟩
                      · rw [if_neg c14] at H
                        exact absurd H (by simp)
                    · rw [if_neg c11] at H
                      exact absurd H (by simp)
                  · rw [if_neg c10] at H
                    exact absurd H (by simp)
                · rw [if_neg c9] at H
                  exact absurd H (by simp)
              · rw [if_neg c8] at H
                exact absurd H (by simp)
            · rw [if_neg c7] at H
              exact absurd H (by simp)
          · rw [if_neg c6] at H
            exact absurd H (by simp)
      · rw [if_neg c2] at H
        have c2b0 : decide (x4_1 < 6) = false := decide_eq_false c2
        clear c2
        obtain rfl := Option.some.inj H
        go_wp2
        repeat (go_quiet (fail); try go_wp2)
        go_ret
        exact ⟨by first | rfl | (simp; done) | (simp [*]; done), by repeat (first | exact Drawn0.refl _ | apply Drawn0.step)⟩

end Go.Proofs.YtaafeallcaiooaaGreat.Pr
/- order: precedences made from numbers; their ranks differ. -/
namespace Go.Proofs.YtaafeallcaiooaaGreat.Pr
open Go.RowKit Go.Proofs.YtaafeallcaiooaaGreatW.PrintWords Go.Proofs.YtaafeallcaiooaaGreatW.PrintLast Go.Proofs.YtaafeallcaiooaaGreatW.PrintMore
set_option linter.unusedVariables false
set_option linter.unusedSimpArgs false
/-! ### ranks -/
theorem rkL_get {L : List UInt8} (hn : L.Nodup) : ∀ m, m ≤ L.length → ∀ k (h : k < L.length), k < m → getL (rkL (B8 L) m) (L[k].toNat : Int) = some (.int .i64 (k : Int))
  | 0, _, k, _, h => by omega
  | m + 1, hm, k, hk, h => by
    have hml : m < L.length := by omega
    rw [rkL, bAt_list L m hml, getL_put]
    by_cases e : k = m
    · subst e
      rw [if_pos rfl]
    · rw [if_neg (fun h2 => e ((List.getElem_inj hn).1 (UInt8.toNat_inj.1 (by omega))))]
      exact rkL_get hn m (by omega) k hk (by omega)
theorem rank_get {L : List UInt8} (hn : L.Nodup) (k : Nat) (h : k < L.length) : rankP (B8 L) (L[k].toNat : Int) = k := by
  unfold rankP
  rw [B8_size, rkL_get hn L.length (Nat.le_refl _) k h h]
theorem sym_mem {L : List UInt8} (h6 : L.length = 6) (hn : L.Nodup) (hc : ∀ x, x ∈ L → x ∈ c6) (s : Int) (hs : 97 ≤ s ∧ s ≤ 102) : ∃ k, ∃ h : k < L.length, (L[k].toNat : Int) = s := by
  have hx : ∃ x : UInt8, x ∈ c6 ∧ (x.toNat : Int) = s := by
    have : s = 97 ∨ s = 98 ∨ s = 99 ∨ s = 100 ∨ s = 101 ∨ s = 102 := by omega
    rcases this with rfl | rfl | rfl | rfl | rfl | rfl
    · exact ⟨97, by decide, rfl⟩
    · exact ⟨98, by decide, rfl⟩
    · exact ⟨99, by decide, rfl⟩
    · exact ⟨100, by decide, rfl⟩
    · exact ⟨101, by decide, rfl⟩
    · exact ⟨102, by decide, rfl⟩
  obtain ⟨x, hx, rfl⟩ := hx
  obtain ⟨k, hk, rfl⟩ := List.getElem_of_mem (full6 h6 hn hc x hx)
  exact ⟨k, hk, rfl⟩
theorem rank_inj {L : List UInt8} (h6 : L.length = 6) (hn : L.Nodup) (hc : ∀ x, x ∈ L → x ∈ c6) : RankInj (rankP (B8 L)) := by
  intro s s' hs hs' he
  obtain ⟨k, hk, rfl⟩ := sym_mem h6 hn hc s hs
  obtain ⟨j, hj, rfl⟩ := sym_mem h6 hn hc s' hs'
  rw [rank_get hn k hk, rank_get hn j hj] at he
  have : k = j := by omega
  subst this
  rfl
/-! ### order -/
/-- an order of the six symbols -/
def IsPrec (p : ByteArray) : Prop := ∃ L : List UInt8, p = B8 L ∧ L.length = 6 ∧ L.Nodup ∧ ∀ x, x ∈ L → x ∈ c6
theorem IsPrec.ok {p : ByteArray} (h : IsPrec p) : precOk p = true := by
  obtain ⟨L, rfl, h6, hn, hc⟩ := h
  exact prec_perm h6 hn hc
theorem IsPrec.inj {p : ByteArray} (h : IsPrec p) : RankInj (rankP p) := by
  obtain ⟨L, rfl, h6, hn, hc⟩ := h
  exact rank_inj h6 hn hc
theorem IsPrec.size {p : ByteArray} (h : IsPrec p) : p.size = 6 := by
  obtain ⟨L, rfl, h6, hn, hc⟩ := h
  rw [B8_size]; exact h6
def precB (p : ByteArray) : Bool := decide (p.data.toList.length = 6) && (decide p.data.toList.Nodup && p.data.toList.all fun x => decide (x ∈ c6))
theorem precB_is {p : ByteArray} (h : precB p = true) : IsPrec p := by
  unfold precB at h
  rw [Bool.and_eq_true, Bool.and_eq_true, decide_eq_true_iff, decide_eq_true_iff, List.all_eq_true] at h
  exact ⟨p.data.toList, (B8_of p).symm, h.1, h.2.1, fun x hx => of_decide_eq_true (h.2.2 x hx)⟩
def optOk : Option ByteArray → Bool
  | some p => precB p
  | none => false
def ordOk (x : Nat) : Bool := optOk (numnahlaw08_order.l0 10 (x : Int) ⟨#[97]⟩ 1)
theorem ord_all : (List.range 720).all ordOk = true := by kernel_rfl
theorem ord_mono : ∀ (n k : Nat) (x : Int) (o : ByteArray) (i : Int) (r : ByteArray), numnahlaw08_order.l0 k x o i = some r → numnahlaw08_order.l0 (k + n) x o i = some r
  | 0, k, x, o, i, r, h => h
  | n + 1, k, x, o, i, r, h => by
    have h1 := ord_mono n k x o i r h
    exact numnahlaw08_order.mono_l (k + n) x o i r h1
end Go.Proofs.YtaafeallcaiooaaGreat.Pr
namespace Go.Proofs.YtaafeallcaiooaaGreat.Pr
open Go.RowKit Go.Proofs.YtaafeallcaiooaaGreatW.PrintWords Go.Proofs.YtaafeallcaiooaaGreatW.PrintLast Go.Proofs.YtaafeallcaiooaaGreatW.PrintMore
set_option linter.unusedVariables false
set_option linter.unusedSimpArgs false
theorem u64_nn (a : Int) : 0 ≤ IntKind.u64.wrap a := by
  simp only [IntKind.wrap, IntKind.bits, IntKind.signed]
  exact Int.emod_nonneg _ (by decide)
theorem u64_1 : IntKind.u64.wrap 1 = 1 := by decide
theorem u64_720 : IntKind.u64.wrap 720 = 720 := by decide
theorem w64_0 : wrap64 0 = 0 := wr (by omega) (by omega)
theorem mod_1 (a0 : Int) : numnahlaw08_mod.f a0 1 = some 0 := by
  unfold numnahlaw08_mod.f
  rw [u64_1, if_neg (by decide), Int.tmod_one, w64_0]
theorem mod_720 (a0 : Int) : ∃ m : Nat, m < 720 ∧ numnahlaw08_mod.f a0 720 = some (m : Int) := by
  have hu0 := u64_nn a0
  unfold numnahlaw08_mod.f
  rw [u64_720]
  generalize IntKind.u64.wrap a0 = u at *
  refine ⟨(u % 720).toNat, by omega, ?_⟩
  rw [if_neg (by decide), Int.tmod_eq_emod_of_nonneg hu0, wr (by omega) (by omega)]
  congr 1
  omega
theorem order_1 (a0 : Int) (m : Nat) (hm : m < 720) (h2 : numnahlaw08_mod.f a0 720 = some (m : Int)) (k : Nat) : numnahlaw08_order.l0 (k + 1) a0 ⟨#[]⟩ 0 = numnahlaw08_order.l0 k (m : Int) ⟨#[97]⟩ 1 := by
  have hw : wrap64 (0 + 1) = 1 := wr (by omega) (by omega)
  have hd : wrap64 (Int.tdiv (m : Int) 1) = (m : Int) := by rw [Int.tdiv_one]; exact wr (by omega) (by omega)
  rw [numnahlaw08_order.l0, if_pos (by decide), hw, mod_1, h2, Option.bind_some, Option.bind_some, if_neg (by decide), if_pos (by decide), if_pos (by decide), if_pos (by decide), if_pos (by decide), if_pos (by decide), if_pos (by decide), if_pos (by decide), hd]
  rfl
theorem ord_some (o : Option ByteArray) (h : optOk o = true) : ∃ p, o = some p ∧ IsPrec p := by
  cases o with
  | none => cases h
  | some p => exact ⟨p, rfl, precB_is h⟩
theorem ordP (m : Nat) (hm : m < 720) : ∃ p, numnahlaw08_order.l0 10 (m : Int) ⟨#[97]⟩ 1 = some p ∧ IsPrec p := by
  have hk : ordOk m = true := List.all_eq_true.1 ord_all m (List.mem_range.2 hm)
  unfold ordOk at hk
  exact ord_some _ hk
theorem ord_ev {a0 : Int} {m : Nat} {p : ByteArray} (hs : ∀ k, numnahlaw08_order.l0 (k + 1) a0 ⟨#[]⟩ 0 = numnahlaw08_order.l0 k (m : Int) ⟨#[97]⟩ 1) (n : Nat) (hp : numnahlaw08_order.l0 n (m : Int) ⟨#[97]⟩ 1 = some p) : Evt (fun k => numnahlaw08_order.f k a0) p := by
  refine ⟨n + 1, fun k hk => ?_⟩
  have e := hs (k - 1)
  have e4 := ord_mono (k - 1 - n) n (m : Int) ⟨#[97]⟩ 1 p hp
  rw [show k - 1 + 1 = k by omega] at e
  rw [show n + (k - 1 - n) = k - 1 by omega] at e4
  exact e.trans e4
theorem orderE (a0 : Int) : ∃ p, Evt (fun k => numnahlaw08_order.f k a0) p ∧ IsPrec p := by
  obtain ⟨m, hm, h2⟩ := mod_720 a0
  obtain ⟨p, hp, hP⟩ := ordP m hm
  exact ⟨p, ord_ev (order_1 a0 m hm h2) 10 hp, hP⟩
end Go.Proofs.YtaafeallcaiooaaGreat.Pr
