import Derived.Test.YtaafeallcaiooaaGreatPr0
import Derived.Test.YtaafeallcaiooaaGreatPrA3
import Derived.Test.YtaafeallcaiooaaGreatPrA5
import Derived.Test.YtaafeallcaiooaaGreatPrD1
import Derived.Test.YtaafeallcaiooaaGreatPrD6
import Derived.Test.YtaafeallcaiooaaGreatHEn
import Derived.Test.YtaafeallcaiooaaGreatPrA1
import Derived.Test.YtaafeallcaiooaaGreatPrA2
import Derived.Test.YtaafeallcaiooaaGreatPrA4
import Derived.Test.YtaafeallcaiooaaGreatPrB1
namespace Go.Proofs.YtaafeallcaiooaaGreat.Pr
open Go.RowKit Go.Proofs.Zw Go.Proofs.Zl Go.Proofs.Zm
attribute [local go_sem] max2_int min2_int max_two min_two max_three min_three max_four min_four
set_option linter.unusedVariables false
set_option linter.unusedSimpArgs false
def numnahref08_Large.l0 : Nat → List ByteArray → Int → Option (Bool)
 | 0, _, _ => none
 | k + 1, x0, x3 => if x3 < (x0.length : Int) then (if 0 ≤ x3 then ((numnahref08_Size.f k (rdOf ByteArray.empty x0 x3)).bind fun t516 => (if t516 > 60 then (some true) else (numnahref08_Large.l0 k x0 (wrap64 (x3 + 1))))) else (none)) else (some false)
def numnahref08_Large.f (k : Nat) (l0 : List ByteArray) : Option (Bool) := numnahref08_Large.l0 k l0 0
set_option maxHeartbeats 8000000 in
set_option maxRecDepth 100000 in
theorem numnahref08_Large.calls (k : Nat) (A0 : Option Addr) (c0 : Nat) (l0 : List ByteArray) (r : Bool) (w : World) (hr0 : Kd.C Kd.string w A0 l0.length l0) (hc0 : l0.length ≤ c0) (h : numnahref08_Large.f k l0 = some r) :
  Calls Tryz.prog 52 #[.slice A0 l0.length c0] w fun e w' => e = .returned (.bool r) ∧ Drawn0 w w' := by
 have HR0 := Aside0.mk hr0
 have HC0 := Aside0.mk hc0
 clear hr0 hc0
 have H : (numnahref08_Large.l0 k l0 0) = some r := h
 clear h
 have H' := Aside0.mk H
 clear H
 go_enter Tryz.func52, Tryz.ntmps52
 go_wp2
 go_loopg [3] k (fun kq v3 w' => ∃ (x3_1 : Int), v3 = .int .i64 x3_1 ∧ Aside0 (numnahref08_Large.l0 kq l0 x3_1 = some r) ∧ Aside0 (kq ≤ k) ∧ Drawn0 w w')
 case atStart => exact ⟨(0), tS_, H', ⟨Nat.le_refl _⟩, tD_⟩
 case round =>
  clear H'
  obtain ⟨x3_1, rfl, HA, HK1, ⟨m1, rfl⟩⟩ := hrel
  cases gk with
  | zero => exact absurd HA.out (by simp [numnahref08_Large.l0])
  | succ k1 =>
   have H := HA.out
   clear HA
   simp only [numnahref08_Large.l0] at H
   by_cases c2 : x3_1 < (l0.length : Int)
   ·rw [if_pos c2] at H
    have c2b0 : decide (x3_1 < (l0.length : Int)) = true := decide_eq_true c2
    clear c2
    by_cases c3 : 0 ≤ x3_1
    ·rw [if_pos c3] at H
     have c3b0 : decide (0 ≤ x3_1) = true := decide_eq_true c3
     clear c3
     replace H := Option.bind_eq_some_iff.mp H
     obtain ⟨t516, A40, H⟩ := H
     replace H : (if t516 > 60 then (some true) else (numnahref08_Large.l0 k1 l0 (wrap64 (x3_1 + 1)))) = some r := H
     have A4 := Aside0.mk A40
     clear A40
     by_cases c5 : t516 > 60
     ·rw [if_pos c5] at H
      have c5b0 : decide (60 < t516) = true := decide_eq_true c5
      clear c5
      obtain rfl := Option.some.inj H
      have p515 : 0 ≤ (x3_1 : Int) := of_decide_eq_true tA_
      have q515 : x3_1 < (l0.length : Int) := of_decide_eq_true tA_
      obtain ⟨ad515, e515, hx515_0⟩ := Kd.at_string HR0.out x3_1 p515 q515
      cases e515
      replace p515 := eq_true p515
      replace q515 := eq_true q515
      go_wp2_with (first | ((with_reducible refine gate_callee (f := 26) rfl ?_); refine goesL_ (some 14) rfl rfl Tryz.func26 (by kernel_rfl) rfl #[.string (rdOf ByteArray.empty l0 x3_1)] rfl tM_ ?_; (with_reducible refine (numnahref08_Size.calls k1 (rdOf ByteArray.empty l0 x3_1) t516 _ A4.out).mono ?_); rintro e w' ⟨rfl, ⟨nd, rfl⟩⟩; refine ⟨_, rfl, ?_⟩))
      go_ret
      exact ⟨by first | rfl | (simp; done) | (simp [*]; done), tD_⟩
     ·rw [if_neg c5] at H
      have c5b0 : decide (60 < t516) = false := decide_eq_false c5
      clear c5
      have H' := Aside0.mk H
      clear H
      have p515 : 0 ≤ (x3_1 : Int) := of_decide_eq_true tA_
      have q515 : x3_1 < (l0.length : Int) := of_decide_eq_true tA_
      obtain ⟨ad515, e515, hx515_0⟩ := Kd.at_string HR0.out x3_1 p515 q515
      cases e515
      replace p515 := eq_true p515
      replace q515 := eq_true q515
      go_wp2_with (first | ((with_reducible refine gate_callee (f := 26) rfl ?_); refine goesL_ (some 14) rfl rfl Tryz.func26 (by kernel_rfl) rfl #[.string (rdOf ByteArray.empty l0 x3_1)] rfl tM_ ?_; (with_reducible refine (numnahref08_Size.calls k1 (rdOf ByteArray.empty l0 x3_1) t516 _ A4.out).mono ?_); rintro e w' ⟨rfl, ⟨nd, rfl⟩⟩; refine ⟨_, rfl, ?_⟩))
      go_roundg k1
      case measure => have := HK1.out; omega
      case rel => exact ⟨(wrap64 (x3_1 + 1)), tS_, H', ⟨by have := HK1.out; omega⟩, tD_⟩
    ·rw [if_neg c3] at H
     exact absurd H (by simp)
   ·rw [if_neg c2] at H
    have c2b0 : decide (x3_1 < (l0.length : Int)) = false := decide_eq_false c2
    clear c2
    obtain rfl := Option.some.inj H
    go_wp2
    go_ret
    exact ⟨by first | rfl | (simp; done) | (simp [*]; done), tD_⟩
end Go.Proofs.YtaafeallcaiooaaGreat.Pr
namespace Go.Proofs.YtaafeallcaiooaaGreat.Pr
open Go.RowKit Go.Proofs.Zw Go.Proofs.Zl Go.Proofs.Zm
attribute [local go_sem] max2_int min2_int max_two min_two max_three min_three max_four min_four
set_option linter.unusedVariables false
set_option linter.unusedSimpArgs false
noncomputable def numnahref08_Normal.l0 : Nat → List (S94) → ByteArray → Int → Int → Option (ByteArray × Int × Bool)
 | 0, _, _, _, _ => none
 | k + 1, x0, x1, x2, x9 => (numnahref08_Once.f k x0 x1).bind fun bt537 => (if bt537.2 = true then (if x9 = x2 then (some ((⟨#[]⟩ : ByteArray), 0, false)) else ((numnahref08_Size.f k bt537.1).bind fun t539 => (if t539 > 60 then (some ((⟨#[]⟩ : ByteArray), 0, false)) else (numnahref08_Normal.l0 k x0 bt537.1 x2 (wrap64 (x9 + 1)))))) else (some (x1, x9, true)))
noncomputable def numnahref08_Normal.f (k : Nat) (l0 : List (S94)) (a1 : ByteArray) (a2 : Int) : Option (ByteArray × Int × Bool) := numnahref08_Normal.l0 k l0 a1 a2 0
set_option maxHeartbeats 8000000 in
set_option maxRecDepth 100000 in
theorem numnahref08_Normal.calls (k : Nat) (A0 : Option Addr) (c0 : Nat) (l0 : List (S94)) (a1 : ByteArray) (a2 : Int) (r1 : ByteArray) (r2 : Int) (r3 : Bool) (w : World) (hr0 : Kd.C k94 w A0 l0.length l0) (hc0 : l0.length ≤ c0) (h : numnahref08_Normal.f k l0 a1 a2 = some (r1, r2, r3)) :
  Calls Tryz.prog 54 #[.slice A0 l0.length c0, .string a1, .int .i64 a2] w fun e w' => e = .returned (.tuple #[.string r1, .int .i64 r2, .bool r3]) ∧ Below w.heap.size w w' := by
 have HR0 := Aside0.mk hr0
 have HC0 := Aside0.mk hc0
 clear hr0 hc0
 have HB := Aside0.mk (Below.refl w.heap.size w)
 have H : (numnahref08_Normal.l0 k l0 a1 a2 0) = some (r1, r2, r3) := h
 clear h
 have H' := Aside0.mk H
 clear H
 go_enter Tryz.func54, Tryz.ntmps54
 go_wp2
 go_loopg [1, 9] k (fun kq v1 v9 w' => ∃ (x1_1 : ByteArray) (x9_1 : Int), v1 = .string x1_1 ∧ v9 = .int .i64 x9_1 ∧ Aside0 (numnahref08_Normal.l0 kq l0 x1_1 a2 x9_1 = some (r1, r2, r3)) ∧ Aside0 (kq ≤ k) ∧ Aside0 (Below w.heap.size w w'))
 case atStart => exact ⟨(a1), (0), tS_, tS_, H', ⟨Nat.le_refl _⟩, ⟨tB_ HB⟩⟩
 case round =>
  clear H'
  try clear p2
  obtain ⟨x1_1, x9_1, rfl, rfl, HA, HK1, HB⟩ := hrel
  cases gk with
  | zero => exact absurd HA.out (by simp [numnahref08_Normal.l0])
  | succ k1 =>
   have H := HA.out
   clear HA
   simp only [numnahref08_Normal.l0] at H
   replace H := Option.bind_eq_some_iff.mp H
   obtain ⟨⟨t537, t538⟩, A40, H⟩ := H
   replace H : (if t538 = true then (if x9_1 = a2 then (some ((⟨#[]⟩ : ByteArray), 0, false)) else ((numnahref08_Size.f k1 t537).bind fun t539 => (if t539 > 60 then (some ((⟨#[]⟩ : ByteArray), 0, false)) else (numnahref08_Normal.l0 k1 l0 t537 a2 (wrap64 (x9_1 + 1)))))) else (some (x1_1, x9_1, true))) = some (r1, r2, r3) := H
   have A4 := Aside0.mk A40
   clear A40
   by_cases c5 : t538 = true
   ·subst c5
    have H1 : (if x9_1 = a2 then (some ((⟨#[]⟩ : ByteArray), 0, false)) else ((numnahref08_Size.f k1 t537).bind fun t539 => (if t539 > 60 then (some ((⟨#[]⟩ : ByteArray), 0, false)) else (numnahref08_Normal.l0 k1 l0 t537 a2 (wrap64 (x9_1 + 1)))))) = some (r1, r2, r3) := by rw [if_pos rfl] at H; exact H
    clear H
    have H := H1
    clear H1
    by_cases c6 : x9_1 = a2
    ·rw [if_pos c6] at H
     have c6b0 : (x9_1 == a2) = true := beq_iff_eq.mpr c6
     have c6b1 : (x9_1 != a2) = false := bne_eq_false_iff_eq.mpr c6
     clear c6
     simp only [Option.some.injEq, Prod.mk.injEq] at H
     obtain ⟨rfl, rfl, rfl⟩ := H
     go_wp2_with (first | ((with_reducible refine gate_callee (f := 104) rfl ?_); refine goesL_ (some 17) rfl rfl Tryz.func104 (by kernel_rfl) rfl #[.slice A0 l0.length c0, .string x1_1] rfl tM_ ?_; (with_reducible refine (numnahref08_Once.calls k1 _ _ l0 x1_1 t537 true _ ?side1 ?side2 A4.out).mono ?_); (case side1 => repeat (first | exact (Kd.C_below HR0.out HB.out) | (with_reducible refine Kd.C_alloc ?_ _) | (with_reducible refine Kd.C_drewN ?_ _) | (with_reducible refine Kd.C_drew ?_))); (case side2 => exact HC0.out); rintro e w7 ⟨rfl, hb⟩; refine ⟨_, rfl, ?_⟩; have n0_ := Aside0.mk (below_step (tB_ HB) hb); clear HB; have HB := n0_; clear n0_; (try clear hb); (try clear hb2); (try clear hk); (try clear hi)))
     go_ret3
     exact ⟨tE_, tB_ HB⟩
    ·rw [if_neg c6] at H
     have c6b0 : (x9_1 == a2) = false := beq_eq_false_iff_ne.mpr c6
     have c6b1 : (x9_1 != a2) = true := bne_iff_ne.mpr c6
     replace H := Option.bind_eq_some_iff.mp H
     obtain ⟨t539, A80, H⟩ := H
     replace H : (if t539 > 60 then (some ((⟨#[]⟩ : ByteArray), 0, false)) else (numnahref08_Normal.l0 k1 l0 t537 a2 (wrap64 (x9_1 + 1)))) = some (r1, r2, r3) := H
     have A8 := Aside0.mk A80
     clear A80
     by_cases c9 : t539 > 60
     ·rw [if_pos c9] at H
      have c9b0 : decide (60 < t539) = true := decide_eq_true c9
      clear c9
      simp only [Option.some.injEq, Prod.mk.injEq] at H
      obtain ⟨rfl, rfl, rfl⟩ := H
      go_wp2_with (first | ((with_reducible refine gate_callee (f := 104) rfl ?_); refine goesL_ (some 17) rfl rfl Tryz.func104 (by kernel_rfl) rfl #[.slice A0 l0.length c0, .string x1_1] rfl tM_ ?_; (with_reducible refine (numnahref08_Once.calls k1 _ _ l0 x1_1 t537 true _ ?side1 ?side2 A4.out).mono ?_); (case side1 => repeat (first | exact (Kd.C_below HR0.out HB.out) | (with_reducible refine Kd.C_alloc ?_ _) | (with_reducible refine Kd.C_drewN ?_ _) | (with_reducible refine Kd.C_drew ?_))); (case side2 => exact HC0.out); rintro e w10 ⟨rfl, hb⟩; refine ⟨_, rfl, ?_⟩; have n0_ := Aside0.mk (below_step (tB_ HB) hb); clear HB; have HB := n0_; clear n0_; (try clear hb); (try clear hb2); (try clear hk); (try clear hi)) | (go_at_call 26; (with_reducible refine (numnahref08_Size.calls k1 t537 t539 _ A8.out).mono ?_); rintro e w' ⟨rfl, ⟨nd, rfl⟩⟩))
      go_ret3
      exact ⟨tE_, tB_ HB⟩
     ·rw [if_neg c9] at H
      have c9b0 : decide (60 < t539) = false := decide_eq_false c9
      clear c9
      have H' := Aside0.mk H
      clear H
      go_wp2_with (first | ((with_reducible refine gate_callee (f := 104) rfl ?_); refine goesL_ (some 17) rfl rfl Tryz.func104 (by kernel_rfl) rfl #[.slice A0 l0.length c0, .string x1_1] rfl tM_ ?_; (with_reducible refine (numnahref08_Once.calls k1 _ _ l0 x1_1 t537 true _ ?side1 ?side2 A4.out).mono ?_); (case side1 => repeat (first | exact (Kd.C_below HR0.out HB.out) | (with_reducible refine Kd.C_alloc ?_ _) | (with_reducible refine Kd.C_drewN ?_ _) | (with_reducible refine Kd.C_drew ?_))); (case side2 => exact HC0.out); rintro e w11 ⟨rfl, hb⟩; refine ⟨_, rfl, ?_⟩; have n0_ := Aside0.mk (below_step (tB_ HB) hb); clear HB; have HB := n0_; clear n0_; (try clear hb); (try clear hb2); (try clear hk); (try clear hi)) | (go_at_call 26; (with_reducible refine (numnahref08_Size.calls k1 t537 t539 _ A8.out).mono ?_); rintro e w' ⟨rfl, ⟨nd, rfl⟩⟩))
      go_roundg k1
      case measure => have := HK1.out; omega
      case rel => exact ⟨(t537), (wrap64 (x9_1 + 1)), tS_, tS_, H', ⟨by have := HK1.out; omega⟩, ⟨tB_ HB⟩⟩
   ·replace c5 := Bool.eq_false_iff.mpr c5
    subst c5
    have H1 : (some (x1_1, x9_1, true)) = some (r1, r2, r3) := by rw [if_neg (show ¬ (false = true) by decide)] at H; exact H
    clear H
    have H := H1
    clear H1
    simp only [Option.some.injEq, Prod.mk.injEq] at H
    obtain ⟨rfl, rfl, rfl⟩ := H
    go_wp2_with (first | ((with_reducible refine gate_callee (f := 104) rfl ?_); refine goesL_ (some 17) rfl rfl Tryz.func104 (by kernel_rfl) rfl #[.slice A0 l0.length c0, .string x1_1] rfl tM_ ?_; (with_reducible refine (numnahref08_Once.calls k1 _ _ l0 x1_1 t537 false _ ?side1 ?side2 A4.out).mono ?_); (case side1 => repeat (first | exact (Kd.C_below HR0.out HB.out) | (with_reducible refine Kd.C_alloc ?_ _) | (with_reducible refine Kd.C_drewN ?_ _) | (with_reducible refine Kd.C_drew ?_))); (case side2 => exact HC0.out); rintro e w12 ⟨rfl, hb⟩; refine ⟨_, rfl, ?_⟩; have n0_ := Aside0.mk (below_step (tB_ HB) hb); clear HB; have HB := n0_; clear n0_; (try clear hb); (try clear hb2); (try clear hk); (try clear hi)))
    go_ret3
    exact ⟨tE_, tB_ HB⟩
end Go.Proofs.YtaafeallcaiooaaGreat.Pr
namespace Go.Proofs.YtaafeallcaiooaaGreat.Pr
open Go.RowKit Go.Proofs.Zw Go.Proofs.Zl Go.Proofs.Zm
attribute [local go_sem] max2_int min2_int max_two min_two max_three min_three max_four min_four
set_option linter.unusedVariables false
set_option linter.unusedSimpArgs false
mutual
noncomputable def numnahlaw08_RulesNexts.j0 : Nat → Int → List (S94) → ByteArray → ByteArray → Int → Int → Option (Bool)
 | 0, _, _, _, _, _, _ => none
 | k + 1, x2, x7, x8, x11, x12, x13 => if x2 < 0 then (numnahlaw08_RulesNexts.j1 k x2 x7 x8 x11 x12 x13 true) else (numnahlaw08_RulesNexts.j1 k x2 x7 x8 x11 x12 x13 (decide (x2 > 200)))
noncomputable def numnahlaw08_RulesNexts.j1 : Nat → Int → List (S94) → ByteArray → ByteArray → Int → Int → Bool → Option (Bool)
 | 0, _, _, _, _, _, _, _ => none
 | k + 1, x2, x7, x8, x11, x12, x13, x111 => if x111 = true then (if x11.toList = ([] : List UInt8) then (if x12 = 0 then (if x13 = 2 then ((numnahlaw08_awake.f k).bind fun t560 => (some t560)) else (some false)) else (some false)) else (some false)) else ((numnahref08_Normal.f k x7 x8 x2).bind fun bt561 => (if bt561.2.2 = true then (if x11.toList = bt561.1.toList then (if x12 = bt561.2.1 then (if x13 = 0 then ((numnahlaw08_awake.f k).bind fun t564 => (some t564)) else (some false)) else (some false)) else (some false)) else (if x11.toList = ([] : List UInt8) then (if x12 = 0 then (if x13 = 5 then ((numnahlaw08_awake.f k).bind fun t565 => (some t565)) else (some false)) else (some false)) else (some false))))
end
noncomputable def numnahlaw08_RulesNexts.f (k : Nat) (l0 : List (S94)) (a1 : ByteArray) (a2 : Int) : Option (Bool) := (numnahlaw08_laws.f k l0).bind fun t540 => ((numnahlaw08_short.f a1).bind fun t543 => ((rules_Next.f t540 t543).bind fun bt544 => ((rules_Normal.f t540 t543 a2).bind fun bt548 => ((numnahref08_Rules.f k t540).bind fun t551 => (if t551 = true then ((numnahref08_Term.f k t543).bind fun t553 => (if t553 = true then ((numnahref08_Next.f k t540 t543).bind fun t555 => ((numnahref08_Large.f k t555).bind fun t558 => (if t558 = true then (if (bt544.1.length : Int) = 0 then (if bt544.2 = 5 then (numnahlaw08_RulesNexts.j0 k a2 t540 t543 bt548.1 bt548.2.1 bt548.2.2) else (some false)) else (some false)) else ((numnahlaw08_texts.f k bt544.1 t555).bind fun t559 => (if t559 = true then (if bt544.2 = 0 then (numnahlaw08_RulesNexts.j0 k a2 t540 t543 bt548.1 bt548.2.1 bt548.2.2) else (some false)) else (some false)))))) else (if (bt544.1.length : Int) = 0 then (if bt544.2 = 4 then (if bt548.1.toList = ([] : List UInt8) then (if bt548.2.1 = 0 then (if bt548.2.2 = 4 then ((numnahlaw08_awake.f k).bind fun t554 => (some t554)) else (some false)) else (some false)) else (some false)) else (some false)) else (some false)))) else (if (bt544.1.length : Int) = 0 then (if bt544.2 = 2 then (if bt548.1.toList = ([] : List UInt8) then (if bt548.2.1 = 0 then (if bt548.2.2 = 2 then ((numnahlaw08_awake.f k).bind fun t552 => (some t552)) else (some false)) else (some false)) else (some false)) else (some false)) else (some false)))))))
set_option maxHeartbeats 8000000 in
set_option maxRecDepth 100000 in
theorem numnahlaw08_RulesNexts.calls (k : Nat) (A0 : Option Addr) (c0 : Nat) (l0 : List (S94)) (a1 : ByteArray) (a2 : Int) (r : Bool) (w : World) (hr0 : Kd.C k94 w A0 l0.length l0) (hc0 : l0.length ≤ c0) (h : numnahlaw08_RulesNexts.f k l0 a1 a2 = some r) (ht : r = true := by rfl) :
  Calls Tryz.prog 12 #[.slice A0 l0.length c0, .string a1, .int .i64 a2] w fun e w' => e = .returned (.bool r) ∧ Below w.heap.size w w' := by
 have HT0_ := Aside0.mk ht
 clear ht
 have HR0 := Aside0.mk hr0
 have HC0 := Aside0.mk hc0
 clear hr0 hc0
 have HB := Aside0.mk (Below.refl w.heap.size w)
 have H : ((numnahlaw08_laws.f k l0).bind fun t540 => ((numnahlaw08_short.f a1).bind fun t543 => ((rules_Next.f t540 t543).bind fun bt544 => ((rules_Normal.f t540 t543 a2).bind fun bt548 => ((numnahref08_Rules.f k t540).bind fun t551 => (if t551 = true then ((numnahref08_Term.f k t543).bind fun t553 => (if t553 = true then ((numnahref08_Next.f k t540 t543).bind fun t555 => ((numnahref08_Large.f k t555).bind fun t558 => (if t558 = true then (if (bt544.1.length : Int) = 0 then (if bt544.2 = 5 then (numnahlaw08_RulesNexts.j0 k a2 t540 t543 bt548.1 bt548.2.1 bt548.2.2) else (some false)) else (some false)) else ((numnahlaw08_texts.f k bt544.1 t555).bind fun t559 => (if t559 = true then (if bt544.2 = 0 then (numnahlaw08_RulesNexts.j0 k a2 t540 t543 bt548.1 bt548.2.1 bt548.2.2) else (some false)) else (some false)))))) else (if (bt544.1.length : Int) = 0 then (if bt544.2 = 4 then (if bt548.1.toList = ([] : List UInt8) then (if bt548.2.1 = 0 then (if bt548.2.2 = 4 then ((numnahlaw08_awake.f k).bind fun t554 => (some t554)) else (some false)) else (some false)) else (some false)) else (some false)) else (some false)))) else (if (bt544.1.length : Int) = 0 then (if bt544.2 = 2 then (if bt548.1.toList = ([] : List UInt8) then (if bt548.2.1 = 0 then (if bt548.2.2 = 2 then ((numnahlaw08_awake.f k).bind fun t552 => (some t552)) else (some false)) else (some false)) else (some false)) else (some false)) else (some false)))))))) = some r := h
 clear h
 replace H := Option.bind_eq_some_iff.mp H
 obtain ⟨t540, A40, H⟩ := H
 replace H : ((numnahlaw08_short.f a1).bind fun t543 => ((rules_Next.f t540 t543).bind fun bt544 => ((rules_Normal.f t540 t543 a2).bind fun bt548 => ((numnahref08_Rules.f k t540).bind fun t551 => (if t551 = true then ((numnahref08_Term.f k t543).bind fun t553 => (if t553 = true then ((numnahref08_Next.f k t540 t543).bind fun t555 => ((numnahref08_Large.f k t555).bind fun t558 => (if t558 = true then (if (bt544.1.length : Int) = 0 then (if bt544.2 = 5 then (numnahlaw08_RulesNexts.j0 k a2 t540 t543 bt548.1 bt548.2.1 bt548.2.2) else (some false)) else (some false)) else ((numnahlaw08_texts.f k bt544.1 t555).bind fun t559 => (if t559 = true then (if bt544.2 = 0 then (numnahlaw08_RulesNexts.j0 k a2 t540 t543 bt548.1 bt548.2.1 bt548.2.2) else (some false)) else (some false)))))) else (if (bt544.1.length : Int) = 0 then (if bt544.2 = 4 then (if bt548.1.toList = ([] : List UInt8) then (if bt548.2.1 = 0 then (if bt548.2.2 = 4 then ((numnahlaw08_awake.f k).bind fun t554 => (some t554)) else (some false)) else (some false)) else (some false)) else (some false)) else (some false)))) else (if (bt544.1.length : Int) = 0 then (if bt544.2 = 2 then (if bt548.1.toList = ([] : List UInt8) then (if bt548.2.1 = 0 then (if bt548.2.2 = 2 then ((numnahlaw08_awake.f k).bind fun t552 => (some t552)) else (some false)) else (some false)) else (some false)) else (some false)) else (some false))))))) = some r := H
 have A4 := Aside0.mk A40
 clear A40
 replace H := Option.bind_eq_some_iff.mp H
 obtain ⟨t543, A50, H⟩ := H
 replace H : ((rules_Next.f t540 t543).bind fun bt544 => ((rules_Normal.f t540 t543 a2).bind fun bt548 => ((numnahref08_Rules.f k t540).bind fun t551 => (if t551 = true then ((numnahref08_Term.f k t543).bind fun t553 => (if t553 = true then ((numnahref08_Next.f k t540 t543).bind fun t555 => ((numnahref08_Large.f k t555).bind fun t558 => (if t558 = true then (if (bt544.1.length : Int) = 0 then (if bt544.2 = 5 then (numnahlaw08_RulesNexts.j0 k a2 t540 t543 bt548.1 bt548.2.1 bt548.2.2) else (some false)) else (some false)) else ((numnahlaw08_texts.f k bt544.1 t555).bind fun t559 => (if t559 = true then (if bt544.2 = 0 then (numnahlaw08_RulesNexts.j0 k a2 t540 t543 bt548.1 bt548.2.1 bt548.2.2) else (some false)) else (some false)))))) else (if (bt544.1.length : Int) = 0 then (if bt544.2 = 4 then (if bt548.1.toList = ([] : List UInt8) then (if bt548.2.1 = 0 then (if bt548.2.2 = 4 then ((numnahlaw08_awake.f k).bind fun t554 => (some t554)) else (some false)) else (some false)) else (some false)) else (some false)) else (some false)))) else (if (bt544.1.length : Int) = 0 then (if bt544.2 = 2 then (if bt548.1.toList = ([] : List UInt8) then (if bt548.2.1 = 0 then (if bt548.2.2 = 2 then ((numnahlaw08_awake.f k).bind fun t552 => (some t552)) else (some false)) else (some false)) else (some false)) else (some false)) else (some false)))))) = some r := H
 have A5 := Aside0.mk A50
 clear A50
 replace H := Option.bind_eq_some_iff.mp H
 obtain ⟨⟨t544, t545⟩, A60, H⟩ := H
 replace H : ((rules_Normal.f t540 t543 a2).bind fun bt548 => ((numnahref08_Rules.f k t540).bind fun t551 => (if t551 = true then ((numnahref08_Term.f k t543).bind fun t553 => (if t553 = true then ((numnahref08_Next.f k t540 t543).bind fun t555 => ((numnahref08_Large.f k t555).bind fun t558 => (if t558 = true then (if (t544.length : Int) = 0 then (if t545 = 5 then (numnahlaw08_RulesNexts.j0 k a2 t540 t543 bt548.1 bt548.2.1 bt548.2.2) else (some false)) else (some false)) else ((numnahlaw08_texts.f k t544 t555).bind fun t559 => (if t559 = true then (if t545 = 0 then (numnahlaw08_RulesNexts.j0 k a2 t540 t543 bt548.1 bt548.2.1 bt548.2.2) else (some false)) else (some false)))))) else (if (t544.length : Int) = 0 then (if t545 = 4 then (if bt548.1.toList = ([] : List UInt8) then (if bt548.2.1 = 0 then (if bt548.2.2 = 4 then ((numnahlaw08_awake.f k).bind fun t554 => (some t554)) else (some false)) else (some false)) else (some false)) else (some false)) else (some false)))) else (if (t544.length : Int) = 0 then (if t545 = 2 then (if bt548.1.toList = ([] : List UInt8) then (if bt548.2.1 = 0 then (if bt548.2.2 = 2 then ((numnahlaw08_awake.f k).bind fun t552 => (some t552)) else (some false)) else (some false)) else (some false)) else (some false)) else (some false))))) = some r := H
 have A6 := Aside0.mk A60
 clear A60
 replace H := Option.bind_eq_some_iff.mp H
 obtain ⟨⟨t548, t549, t550⟩, A70, H⟩ := H
 replace H : ((numnahref08_Rules.f k t540).bind fun t551 => (if t551 = true then ((numnahref08_Term.f k t543).bind fun t553 => (if t553 = true then ((numnahref08_Next.f k t540 t543).bind fun t555 => ((numnahref08_Large.f k t555).bind fun t558 => (if t558 = true then (if (t544.length : Int) = 0 then (if t545 = 5 then (numnahlaw08_RulesNexts.j0 k a2 t540 t543 t548 t549 t550) else (some false)) else (some false)) else ((numnahlaw08_texts.f k t544 t555).bind fun t559 => (if t559 = true then (if t545 = 0 then (numnahlaw08_RulesNexts.j0 k a2 t540 t543 t548 t549 t550) else (some false)) else (some false)))))) else (if (t544.length : Int) = 0 then (if t545 = 4 then (if t548.toList = ([] : List UInt8) then (if t549 = 0 then (if t550 = 4 then ((numnahlaw08_awake.f k).bind fun t554 => (some t554)) else (some false)) else (some false)) else (some false)) else (some false)) else (some false)))) else (if (t544.length : Int) = 0 then (if t545 = 2 then (if t548.toList = ([] : List UInt8) then (if t549 = 0 then (if t550 = 2 then ((numnahlaw08_awake.f k).bind fun t552 => (some t552)) else (some false)) else (some false)) else (some false)) else (some false)) else (some false)))) = some r := H
 have A7 := Aside0.mk A70
 clear A70
 replace H := Option.bind_eq_some_iff.mp H
 obtain ⟨t551, A80, H⟩ := H
 replace H : (if t551 = true then ((numnahref08_Term.f k t543).bind fun t553 => (if t553 = true then ((numnahref08_Next.f k t540 t543).bind fun t555 => ((numnahref08_Large.f k t555).bind fun t558 => (if t558 = true then (if (t544.length : Int) = 0 then (if t545 = 5 then (numnahlaw08_RulesNexts.j0 k a2 t540 t543 t548 t549 t550) else (some false)) else (some false)) else ((numnahlaw08_texts.f k t544 t555).bind fun t559 => (if t559 = true then (if t545 = 0 then (numnahlaw08_RulesNexts.j0 k a2 t540 t543 t548 t549 t550) else (some false)) else (some false)))))) else (if (t544.length : Int) = 0 then (if t545 = 4 then (if t548.toList = ([] : List UInt8) then (if t549 = 0 then (if t550 = 4 then ((numnahlaw08_awake.f k).bind fun t554 => (some t554)) else (some false)) else (some false)) else (some false)) else (some false)) else (some false)))) else (if (t544.length : Int) = 0 then (if t545 = 2 then (if t548.toList = ([] : List UInt8) then (if t549 = 0 then (if t550 = 2 then ((numnahlaw08_awake.f k).bind fun t552 => (some t552)) else (some false)) else (some false)) else (some false)) else (some false)) else (some false))) = some r := H
 have A8 := Aside0.mk A80
 clear A80
 by_cases c9 : t551 = true
 ·subst c9
  have H1 : ((numnahref08_Term.f k t543).bind fun t553 => (if t553 = true then ((numnahref08_Next.f k t540 t543).bind fun t555 => ((numnahref08_Large.f k t555).bind fun t558 => (if t558 = true then (if (t544.length : Int) = 0 then (if t545 = 5 then (numnahlaw08_RulesNexts.j0 k a2 t540 t543 t548 t549 t550) else (some false)) else (some false)) else ((numnahlaw08_texts.f k t544 t555).bind fun t559 => (if t559 = true then (if t545 = 0 then (numnahlaw08_RulesNexts.j0 k a2 t540 t543 t548 t549 t550) else (some false)) else (some false)))))) else (if (t544.length : Int) = 0 then (if t545 = 4 then (if t548.toList = ([] : List UInt8) then (if t549 = 0 then (if t550 = 4 then ((numnahlaw08_awake.f k).bind fun t554 => (some t554)) else (some false)) else (some false)) else (some false)) else (some false)) else (some false)))) = some r := by rw [if_pos rfl] at H; exact H
  clear H
  have H := H1
  clear H1
  replace H := Option.bind_eq_some_iff.mp H
  obtain ⟨t553, A100, H⟩ := H
  replace H : (if t553 = true then ((numnahref08_Next.f k t540 t543).bind fun t555 => ((numnahref08_Large.f k t555).bind fun t558 => (if t558 = true then (if (t544.length : Int) = 0 then (if t545 = 5 then (numnahlaw08_RulesNexts.j0 k a2 t540 t543 t548 t549 t550) else (some false)) else (some false)) else ((numnahlaw08_texts.f k t544 t555).bind fun t559 => (if t559 = true then (if t545 = 0 then (numnahlaw08_RulesNexts.j0 k a2 t540 t543 t548 t549 t550) else (some false)) else (some false)))))) else (if (t544.length : Int) = 0 then (if t545 = 4 then (if t548.toList = ([] : List UInt8) then (if t549 = 0 then (if t550 = 4 then ((numnahlaw08_awake.f k).bind fun t554 => (some t554)) else (some false)) else (some false)) else (some false)) else (some false)) else (some false))) = some r := H
  have A10 := Aside0.mk A100
  clear A100
  by_cases c11 : t553 = true
  ·subst c11
   have H1 : ((numnahref08_Next.f k t540 t543).bind fun t555 => ((numnahref08_Large.f k t555).bind fun t558 => (if t558 = true then (if (t544.length : Int) = 0 then (if t545 = 5 then (numnahlaw08_RulesNexts.j0 k a2 t540 t543 t548 t549 t550) else (some false)) else (some false)) else ((numnahlaw08_texts.f k t544 t555).bind fun t559 => (if t559 = true then (if t545 = 0 then (numnahlaw08_RulesNexts.j0 k a2 t540 t543 t548 t549 t550) else (some false)) else (some false)))))) = some r := by rw [if_pos rfl] at H; exact H
   clear H
   have H := H1
   clear H1
   replace H := Option.bind_eq_some_iff.mp H
   obtain ⟨t555, A120, H⟩ := H
   replace H : ((numnahref08_Large.f k t555).bind fun t558 => (if t558 = true then (if (t544.length : Int) = 0 then (if t545 = 5 then (numnahlaw08_RulesNexts.j0 k a2 t540 t543 t548 t549 t550) else (some false)) else (some false)) else ((numnahlaw08_texts.f k t544 t555).bind fun t559 => (if t559 = true then (if t545 = 0 then (numnahlaw08_RulesNexts.j0 k a2 t540 t543 t548 t549 t550) else (some false)) else (some false))))) = some r := H
   have A12 := Aside0.mk A120
   clear A120
   replace H := Option.bind_eq_some_iff.mp H
   obtain ⟨t558, A130, H⟩ := H
   replace H : (if t558 = true then (if (t544.length : Int) = 0 then (if t545 = 5 then (numnahlaw08_RulesNexts.j0 k a2 t540 t543 t548 t549 t550) else (some false)) else (some false)) else ((numnahlaw08_texts.f k t544 t555).bind fun t559 => (if t559 = true then (if t545 = 0 then (numnahlaw08_RulesNexts.j0 k a2 t540 t543 t548 t549 t550) else (some false)) else (some false)))) = some r := H
   have A13 := Aside0.mk A130
   clear A130
   have HC14 := Aside0.mk H
   clear H
   go_enter Tryz.func12, Tryz.ntmps12
   go_upto_if 90 with (first | ((with_reducible refine gate_callee (f := 28) rfl ?_); refine goesL_ (some 19) rfl rfl Tryz.func28 (by kernel_rfl) rfl #[.slice A0 l0.length c0] rfl tM_ ?_; (with_reducible refine (numnahlaw08_laws.calls k _ _ l0 t540 _ ?side1 ?side2 A4.out).mono ?_); (case side1 => repeat (first | exact HR0.out | (with_reducible refine Kd.C_alloc ?_ _) | (with_reducible refine Kd.C_drewN ?_ _) | (with_reducible refine Kd.C_drew ?_))); (case side2 => exact HC0.out); rintro e w15 ⟨v541, rfl, ho0, hb⟩; refine ⟨_, rfl, ?_⟩; have n0_ := Aside0.mk (Kd.R_lower ho0 (below_size (tB_ HB))); have n1_ := Aside0.mk (below_step (tB_ HB) hb); clear HB; have HO542 := n0_; have HB := n1_; clear n0_ n1_; (try clear hb); (try clear hb2); (try clear hk); (try clear hi); (try clear ho0)) | ((with_reducible refine gate_callee (f := 21) rfl ?_); refine goesL_ (some 21) rfl rfl Tryz.func21 (by kernel_rfl) rfl #[.string a1] rfl tM_ ?_; (with_reducible refine (numnahlaw08_short.calls a1 t543 _ A5.out).mono ?_); rintro e w16 ⟨rfl, hb⟩; refine ⟨_, rfl, ?_⟩; have n0_ := Aside0.mk (Kd.R_below (tR_ HO542) hb); have n1_ := Aside0.mk (below_step (tB_ HB) hb); clear HO542; clear HB; have HO542 := n0_; have HB := n1_; clear n0_ n1_; (try clear hb); (try clear hb2); (try clear hk); (try clear hi); obtain ⟨Ao17, co17, eo17⟩ := Kd.R_slice HO542.out; subst eo17) | ((with_reducible refine gate_callee (f := 49) rfl ?_); refine goesL_ (some 25) rfl rfl Tryz.func49 (by kernel_rfl) rfl #[.slice Ao17 t540.length co17, .string t543] rfl tM_ ?_; (with_reducible refine (rules_Next.calls _ _ t540 t543 t544 t545 _ ?side1 ?side2 A6.out).mono ?_); (case side1 => repeat (first | exact (Kd.R_reads' HO542.out).2.2 | (with_reducible refine Kd.C_alloc ?_ _) | (with_reducible refine Kd.C_drewN ?_ _) | (with_reducible refine Kd.C_drew ?_))); (case side2 => exact (Kd.R_reads' HO542.out).2.1); rintro e w18 ⟨v546, rfl, ho0, hb⟩; refine ⟨_, rfl, ?_⟩; have n0_ := Aside0.mk (Kd.R_below (tR_ HO542) hb); have n1_ := Aside0.mk (Kd.R_lower ho0 (below_size (tB_ HB))); have n2_ := Aside0.mk (below_step (tB_ HB) hb); clear HO542; clear HB; have HO542 := n0_; have HO547 := n1_; have HB := n2_; clear n0_ n1_ n2_; (try clear hb); (try clear hb2); (try clear hk); (try clear hi); (try clear ho0)) | ((with_reducible refine gate_callee (f := 50) rfl ?_); refine goesL_ (some 32) rfl rfl Tryz.func50 (by kernel_rfl) rfl #[.slice Ao17 t540.length co17, .string t543, .int .i64 a2] rfl tM_ ?_; (with_reducible refine (rules_Normal.calls _ _ t540 t543 a2 t548 t549 t550 _ ?side1 ?side2 A7.out).mono ?_); (case side1 => repeat (first | exact (Kd.R_reads' HO542.out).2.2 | (with_reducible refine Kd.C_alloc ?_ _) | (with_reducible refine Kd.C_drewN ?_ _) | (with_reducible refine Kd.C_drew ?_))); (case side2 => exact (Kd.R_reads' HO542.out).2.1); rintro e w19 ⟨rfl, hb⟩; refine ⟨_, rfl, ?_⟩; have n0_ := Aside0.mk (Kd.R_below (tR_ HO542) hb); have n1_ := Aside0.mk (Kd.R_below (tR_ HO547) hb); have n2_ := Aside0.mk (below_step (tB_ HB) hb); clear HO542; clear HO547; clear HB; have HO542 := n0_; have HO547 := n1_; have HB := n2_; clear n0_ n1_ n2_; (try clear hb); (try clear hb2); (try clear hk); (try clear hi)) | ((with_reducible refine gate_callee (f := 31) rfl ?_); refine goesL_ (some 37) rfl rfl Tryz.func31 (by kernel_rfl) rfl #[.slice Ao17 t540.length co17] rfl tM_ ?_; (with_reducible refine (numnahref08_Rules.calls k _ _ t540 true _ ?side1 ?side2 A8.out).mono ?_); (case side1 => repeat (first | exact (Kd.R_reads' HO542.out).2.2 | (with_reducible refine Kd.C_alloc ?_ _) | (with_reducible refine Kd.C_drewN ?_ _) | (with_reducible refine Kd.C_drew ?_))); (case side2 => exact (Kd.R_reads' HO542.out).2.1); rintro e w' ⟨rfl, ⟨nd, rfl⟩⟩; refine ⟨_, rfl, ?_⟩) | ((with_reducible refine gate_callee (f := 25) rfl ?_); refine goesL_ (some 62) rfl rfl Tryz.func25 (by kernel_rfl) rfl #[.string t543] rfl tM_ ?_; (with_reducible refine (numnahref08_Term.calls k t543 true _ A10.out).mono ?_); rintro e w' ⟨rfl, ⟨nd, rfl⟩⟩; refine ⟨_, rfl, ?_⟩) | ((with_reducible refine gate_callee (f := 51) rfl ?_); refine goesL_ (some 88) rfl rfl Tryz.func51 (by kernel_rfl) rfl #[.slice Ao17 t540.length co17, .string t543] rfl tM_ ?_; (with_reducible refine (numnahref08_Next.calls k _ _ t540 t543 t555 _ ?side1 ?side2 A12.out).mono ?_); (case side1 => repeat (first | exact (Kd.R_reads' HO542.out).2.2 | (with_reducible refine Kd.C_alloc ?_ _) | (with_reducible refine Kd.C_drewN ?_ _) | (with_reducible refine Kd.C_drew ?_))); (case side2 => exact (Kd.R_reads' HO542.out).2.1); rintro e w20 ⟨v556, rfl, ho0, hb⟩; refine ⟨_, rfl, ?_⟩; have n0_ := Aside0.mk (Kd.R_below (tR_ HO542) hb); have n1_ := Aside0.mk (Kd.R_elder' (tR_ HO547) (Kd.R_base ho0) hb); have n2_ := Aside0.mk (Kd.R_lower (Kd.R_new' ho0 (Kd.R_lt (tR_ HO547))) (below_size (tB_ HB))); have n3_ := Aside0.mk (below_step (tB_ HB) hb); clear HO542; clear HO547; clear HB; have HO542 := n0_; have HO547 := n1_; have HO557 := n2_; have HB := n3_; clear n0_ n1_ n2_ n3_; (try clear hb); (try clear hb2); (try clear hk); (try clear hi); (try clear ho0); obtain ⟨Ao21, co21, eo21⟩ := Kd.R_slice HO557.out; subst eo21) | ((with_reducible refine gate_callee (f := 52) rfl ?_); refine goesL_ (some 90) rfl rfl Tryz.func52 (by kernel_rfl) rfl #[.slice Ao21 t555.length co21] rfl tM_ ?_; (with_reducible refine (numnahref08_Large.calls k _ _ t555 t558 _ ?side1 ?side2 A13.out).mono ?_); (case side1 => repeat (first | exact (Kd.R_reads' HO557.out).2.2 | (with_reducible refine Kd.C_alloc ?_ _) | (with_reducible refine Kd.C_drewN ?_ _) | (with_reducible refine Kd.C_drew ?_))); (case side2 => exact (Kd.R_reads' HO557.out).2.1); rintro e w' ⟨rfl, ⟨nd, rfl⟩⟩; refine ⟨_, rfl, ?_⟩))
   (try simp only [Act.put, List.setIfInBounds_toArray, List.set_cons_zero, List.set_cons_succ])
   go_cut [] (fun wc => ∃ (kq : Nat), Aside0 (numnahlaw08_RulesNexts.j0 kq a2 t540 t543 t548 t549 t550 = some r) ∧ Aside0 (kq ≤ k) ∧ Aside0 (Kd.R k94 94 wc w.heap.size (fun _ => True) (.slice Ao17 t540.length co17) t540) ∧ Aside0 (Below w.heap.size w wc))
   case first =>
    have H := HC14.out
    clear HC14
    by_cases c22 : t558 = true
    ·subst c22
     have H1 : (if (t544.length : Int) = 0 then (if t545 = 5 then (numnahlaw08_RulesNexts.j0 k a2 t540 t543 t548 t549 t550) else (some false)) else (some false)) = some r := by rw [if_pos rfl] at H; exact H
     clear H
     have H := H1
     clear H1
     by_cases c23 : (t544.length : Int) = 0
     ·rw [if_pos c23] at H
      have c23b0 : ((t544.length : Int) == 0) = true := beq_iff_eq.mpr c23
      have c23b1 : ((t544.length : Int) != 0) = false := bne_eq_false_iff_eq.mpr c23
      clear c23
      (first | rw [c23b0] | (simp only [i64_w, i32_w]; rw [c23b0]) | skip)
      by_cases c24 : t545 = 5
      ·rw [if_pos c24] at H
       have c24b0 : (t545 == 5) = true := beq_iff_eq.mpr c24
       have c24b1 : (t545 != 5) = false := bne_eq_false_iff_eq.mpr c24
       clear c24
       have H' := Aside0.mk H
       clear H
       obtain ⟨Ao25, co25, eo25⟩ := Kd.R_slice HO547.out
       subst eo25
       go_wp2
       go_meet
       case rel => exact ⟨_, H', ⟨by first | omega | exact Nat.le_refl _⟩, ⟨by (with_reducible repeat (first | apply Kd.R_alloc | apply Kd.R_drewN | apply Kd.R_drew)); exact HO542.out⟩, ⟨tB_ HB⟩⟩
      ·rw [if_neg c24] at H
       exact absurd (H.trans (congrArg some HT0_.out)) (by simp)
     ·rw [if_neg c23] at H
      exact absurd (H.trans (congrArg some HT0_.out)) (by simp)
    ·replace c22 := Bool.eq_false_iff.mpr c22
     subst c22
     have H1 : ((numnahlaw08_texts.f k t544 t555).bind fun t559 => (if t559 = true then (if t545 = 0 then (numnahlaw08_RulesNexts.j0 k a2 t540 t543 t548 t549 t550) else (some false)) else (some false))) = some r := by rw [if_neg (show ¬ (false = true) by decide)] at H; exact H
     clear H
     have H := H1
     clear H1
     replace H := Option.bind_eq_some_iff.mp H
     obtain ⟨t559, A280, H⟩ := H
     replace H : (if t559 = true then (if t545 = 0 then (numnahlaw08_RulesNexts.j0 k a2 t540 t543 t548 t549 t550) else (some false)) else (some false)) = some r := H
     have A28 := Aside0.mk A280
     clear A280
     by_cases c29 : t559 = true
     ·subst c29
      have H1 : (if t545 = 0 then (numnahlaw08_RulesNexts.j0 k a2 t540 t543 t548 t549 t550) else (some false)) = some r := by rw [if_pos rfl] at H; exact H
      clear H
      have H := H1
      clear H1
      by_cases c30 : t545 = 0
      ·rw [if_pos c30] at H
       have c30b0 : (t545 == 0) = true := beq_iff_eq.mpr c30
       have c30b1 : (t545 != 0) = false := bne_eq_false_iff_eq.mpr c30
       clear c30
       have H' := Aside0.mk H
       clear H
       obtain ⟨Ao31, co31, eo31⟩ := Kd.R_slice HO547.out
       subst eo31
       go_wp2_with (first | ((with_reducible refine gate_callee (f := 53) rfl ?_); refine goesL_ (some 100) rfl rfl Tryz.func53 (by kernel_rfl) rfl #[.slice Ao31 t544.length co31, .slice Ao21 t555.length co21] rfl tM_ ?_; (with_reducible refine (numnahlaw08_texts.calls k _ _ t544 _ _ t555 true _ ?side1 ?side2 ?side3 ?side4 A28.out).mono ?_); (case side1 => repeat (first | exact (Kd.R_reads' HO547.out).2.2 | (with_reducible refine Kd.C_alloc ?_ _) | (with_reducible refine Kd.C_drewN ?_ _) | (with_reducible refine Kd.C_drew ?_))); (case side2 => exact (Kd.R_reads' HO547.out).2.1); (case side3 => repeat (first | exact (Kd.R_reads' HO557.out).2.2 | (with_reducible refine Kd.C_alloc ?_ _) | (with_reducible refine Kd.C_drewN ?_ _) | (with_reducible refine Kd.C_drew ?_))); (case side4 => exact (Kd.R_reads' HO557.out).2.1); rintro e w' ⟨rfl, ⟨nd, rfl⟩⟩; refine ⟨_, rfl, ?_⟩))
       go_meet
       case rel => exact ⟨_, H', ⟨by first | omega | exact Nat.le_refl _⟩, ⟨by (with_reducible repeat (first | apply Kd.R_alloc | apply Kd.R_drewN | apply Kd.R_drew)); exact HO542.out⟩, ⟨tB_ HB⟩⟩
      ·rw [if_neg c30] at H
       exact absurd (H.trans (congrArg some HT0_.out)) (by simp)
     ·replace c29 := Bool.eq_false_iff.mpr c29
      subst c29
      have H1 : (some false) = some r := by rw [if_neg (show ¬ (false = true) by decide)] at H; exact H
      exact absurd (H1.trans (congrArg some HT0_.out)) (by simp)
   case rest =>
    clear HC14
    try clear c1
    try clear c2
    try clear p2
    try clear c3
    try clear c4
    try clear c5
    try clear c9
    try clear c11
    try clear c12
    try clear c21
    try clear c22
    try clear c23
    try clear c23b0
    try clear c23b1
    try clear c23b2
    try clear c24
    try clear c24b0
    try clear c24b1
    try clear c25
    try clear c28
    try clear c29
    try clear c30
    try clear c30b0
    try clear c30b1
    try clear c31
    obtain ⟨kq, HA, HJ13, HO_7, HB⟩ := hcut
    cases kq with
    | zero => exact absurd HA.out (by simp [numnahlaw08_RulesNexts.j0])
    | succ kj13 =>
     have H := HA.out
     clear HA
     simp only [numnahlaw08_RulesNexts.j0] at H
     have HC34 := Aside0.mk H
     clear H
     go_upto_region 14 with (fail)
     go_cut [111] (fun v111 wc => ∃ (kq : Nat) (x111_33 : Bool), v111 = .bool x111_33 ∧ Aside0 (numnahlaw08_RulesNexts.j1 kq a2 t540 t543 t548 t549 t550 x111_33 = some r) ∧ Aside0 (kq ≤ kj13) ∧ Aside0 (Kd.R k94 94 wc w.heap.size (fun _ => True) (.slice Ao17 t540.length co17) t540) ∧ Aside0 (Below w.heap.size w wc))
     case first =>
      have H := HC34.out
      clear HC34
      by_cases c35 : a2 < 0
      ·rw [if_pos c35] at H
       have c35b0 : decide (a2 < 0) = true := decide_eq_true c35
       clear c35
       (first | rw [c35b0] | (simp only [i64_w, i32_w]; rw [c35b0]) | skip)
       have H' := Aside0.mk H
       clear H
       go_wp2
       go_meet
       case rel => exact ⟨_, (true), tS_, H', ⟨by have := HJ13.out; first | omega | exact Nat.le_refl _⟩, ⟨by (with_reducible repeat (first | apply Kd.R_alloc | apply Kd.R_drewN | apply Kd.R_drew)); exact HO_7.out⟩, ⟨tB_ HB⟩⟩
      ·rw [if_neg c35] at H
       have c35b0 : decide (a2 < 0) = false := decide_eq_false c35
       clear c35
       (first | rw [c35b0] | (simp only [i64_w, i32_w]; rw [c35b0]) | skip)
       have H' := Aside0.mk H
       clear H
       go_wp2
       go_meet
       case rel => exact ⟨_, (decide (a2 > 200)), tS_, H', ⟨by have := HJ13.out; first | omega | exact Nat.le_refl _⟩, ⟨by (with_reducible repeat (first | apply Kd.R_alloc | apply Kd.R_drewN | apply Kd.R_drew)); exact HO_7.out⟩, ⟨tB_ HB⟩⟩
     case rest =>
      clear HC34
      try clear c1
      try clear c2
      try clear p2
      try clear c3
      try clear c4
      try clear c5
      try clear c9
      try clear c11
      try clear c12
      try clear c21
      try clear c22
      try clear c23
      try clear c23b0
      try clear c23b1
      try clear c23b2
      try clear c24
      try clear c24b0
      try clear c24b1
      try clear c25
      try clear c28
      try clear c29
      try clear c30
      try clear c30b0
      try clear c30b1
      try clear c31
      try clear c35
      try clear c35b0
      try clear p2
      obtain ⟨kq, x111_33, rfl, HA, HJ33, HO_7, HB⟩ := hcut
      cases kq with
      | zero => exact absurd HA.out (by simp [numnahlaw08_RulesNexts.j1])
      | succ kj33 =>
       have H := HA.out
       clear HA
       simp only [numnahlaw08_RulesNexts.j1] at H
       by_cases c36 : x111_33 = true
       ·subst c36
        have H1 : (if t548.toList = ([] : List UInt8) then (if t549 = 0 then (if t550 = 2 then ((numnahlaw08_awake.f kj33).bind fun t560 => (some t560)) else (some false)) else (some false)) else (some false)) = some r := by rw [if_pos rfl] at H; exact H
        clear H
        have H := H1
        clear H1
        by_cases c37 : t548.toList = ([] : List UInt8)
        ·rw [if_pos c37] at H
         have c37b0 : (t548.toList == ([] : List UInt8)) = true := beq_iff_eq.mpr c37
         have c37b1 : (t548.toList != ([] : List UInt8)) = false := bne_eq_false_iff_eq.mpr c37
         clear c37
         by_cases c38 : t549 = 0
         ·rw [if_pos c38] at H
          have c38b0 : (t549 == 0) = true := beq_iff_eq.mpr c38
          have c38b1 : (t549 != 0) = false := bne_eq_false_iff_eq.mpr c38
          clear c38
          by_cases c39 : t550 = 2
          ·rw [if_pos c39] at H
           have c39b0 : (t550 == 2) = true := beq_iff_eq.mpr c39
           have c39b1 : (t550 != 2) = false := bne_eq_false_iff_eq.mpr c39
           clear c39
           replace H := Option.bind_eq_some_iff.mp H
           obtain ⟨t560, A400, H⟩ := H
           replace H : (some t560) = some r := H
           have A40 := Aside0.mk A400
           clear A400
           obtain rfl := Option.some.inj H
           go_wp2_with (first | (go_at_call 24; (with_reducible refine (numnahlaw08_awake.calls kj33  t560 _ A40.out).mono ?_); rintro e w41 ⟨rfl, hb⟩; have n0_ := Aside0.mk (Kd.R_below (tR_ HO_7) hb); have n1_ := Aside0.mk (below_step (tB_ HB) hb); clear HO_7; clear HB; have HO_7 := n0_; have HB := n1_; clear n0_ n1_; (try clear hb); (try clear hb2); (try clear hk); (try clear hi)))
           go_ret
           exact ⟨tE_, tB_ HB⟩
          ·rw [if_neg c39] at H
           exact absurd (H.trans (congrArg some HT0_.out)) (by simp)
         ·rw [if_neg c38] at H
          exact absurd (H.trans (congrArg some HT0_.out)) (by simp)
        ·rw [if_neg c37] at H
         exact absurd (H.trans (congrArg some HT0_.out)) (by simp)
       ·replace c36 := Bool.eq_false_iff.mpr c36
        subst c36
        have H1 : ((numnahref08_Normal.f kj33 t540 t543 a2).bind fun bt561 => (if bt561.2.2 = true then (if t548.toList = bt561.1.toList then (if t549 = bt561.2.1 then (if t550 = 0 then ((numnahlaw08_awake.f kj33).bind fun t564 => (some t564)) else (some false)) else (some false)) else (some false)) else (if t548.toList = ([] : List UInt8) then (if t549 = 0 then (if t550 = 5 then ((numnahlaw08_awake.f kj33).bind fun t565 => (some t565)) else (some false)) else (some false)) else (some false)))) = some r := by rw [if_neg (show ¬ (false = true) by decide)] at H; exact H
        clear H
        have H := H1
        clear H1
        replace H := Option.bind_eq_some_iff.mp H
        obtain ⟨⟨t561, t562, t563⟩, A420, H⟩ := H
        replace H : (if t563 = true then (if t548.toList = t561.toList then (if t549 = t562 then (if t550 = 0 then ((numnahlaw08_awake.f kj33).bind fun t564 => (some t564)) else (some false)) else (some false)) else (some false)) else (if t548.toList = ([] : List UInt8) then (if t549 = 0 then (if t550 = 5 then ((numnahlaw08_awake.f kj33).bind fun t565 => (some t565)) else (some false)) else (some false)) else (some false))) = some r := H
        have A42 := Aside0.mk A420
        clear A420
        by_cases c43 : t563 = true
        ·subst c43
         have H1 : (if t548.toList = t561.toList then (if t549 = t562 then (if t550 = 0 then ((numnahlaw08_awake.f kj33).bind fun t564 => (some t564)) else (some false)) else (some false)) else (some false)) = some r := by rw [if_pos rfl] at H; exact H
         clear H
         have H := H1
         clear H1
         by_cases c44 : t548.toList = t561.toList
         ·rw [if_pos c44] at H
          have c44b0 : (t548.toList == t561.toList) = true := beq_iff_eq.mpr c44
          have c44b1 : (t548.toList != t561.toList) = false := bne_eq_false_iff_eq.mpr c44
          clear c44
          by_cases c45 : t549 = t562
          ·rw [if_pos c45] at H
           have c45b0 : (t549 == t562) = true := beq_iff_eq.mpr c45
           have c45b1 : (t549 != t562) = false := bne_eq_false_iff_eq.mpr c45
           clear c45
           by_cases c46 : t550 = 0
           ·rw [if_pos c46] at H
            have c46b0 : (t550 == 0) = true := beq_iff_eq.mpr c46
            have c46b1 : (t550 != 0) = false := bne_eq_false_iff_eq.mpr c46
            clear c46
            replace H := Option.bind_eq_some_iff.mp H
            obtain ⟨t564, A470, H⟩ := H
            replace H : (some t564) = some r := H
            have A47 := Aside0.mk A470
            clear A470
            obtain rfl := Option.some.inj H
            go_wp2_with (first | ((with_reducible refine gate_callee (f := 54) rfl ?_); refine goesL_ (some 129) rfl rfl Tryz.func54 (by kernel_rfl) rfl #[.slice Ao17 t540.length co17, .string t543, .int .i64 a2] rfl tM_ ?_; (with_reducible refine (numnahref08_Normal.calls kj33 _ _ t540 t543 a2 t561 t562 true _ ?side1 ?side2 A42.out).mono ?_); (case side1 => repeat (first | exact (Kd.R_reads' HO_7.out).2.2 | (with_reducible refine Kd.C_alloc ?_ _) | (with_reducible refine Kd.C_drewN ?_ _) | (with_reducible refine Kd.C_drew ?_))); (case side2 => exact (Kd.R_reads' HO_7.out).2.1); rintro e w48 ⟨rfl, hb⟩; refine ⟨_, rfl, ?_⟩; have n0_ := Aside0.mk (Kd.R_below (tR_ HO_7) hb); have n1_ := Aside0.mk (below_step (tB_ HB) hb); clear HO_7; clear HB; have HO_7 := n0_; have HB := n1_; clear n0_ n1_; (try clear hb); (try clear hb2); (try clear hk); (try clear hi)) | (go_at_call 24; (with_reducible refine (numnahlaw08_awake.calls kj33  t564 _ A47.out).mono ?_); rintro e w49 ⟨rfl, hb⟩; have n0_ := Aside0.mk (Kd.R_below (tR_ HO_7) hb); have n1_ := Aside0.mk (below_step (tB_ HB) hb); clear HO_7; clear HB; have HO_7 := n0_; have HB := n1_; clear n0_ n1_; (try clear hb); (try clear hb2); (try clear hk); (try clear hi)))
            go_ret
            exact ⟨tE_, tB_ HB⟩
           ·rw [if_neg c46] at H
            exact absurd (H.trans (congrArg some HT0_.out)) (by simp)
          ·rw [if_neg c45] at H
           exact absurd (H.trans (congrArg some HT0_.out)) (by simp)
         ·rw [if_neg c44] at H
          exact absurd (H.trans (congrArg some HT0_.out)) (by simp)
        ·replace c43 := Bool.eq_false_iff.mpr c43
         subst c43
         have H1 : (if t548.toList = ([] : List UInt8) then (if t549 = 0 then (if t550 = 5 then ((numnahlaw08_awake.f kj33).bind fun t565 => (some t565)) else (some false)) else (some false)) else (some false)) = some r := by rw [if_neg (show ¬ (false = true) by decide)] at H; exact H
         clear H
         have H := H1
         clear H1
         by_cases c53 : t548.toList = ([] : List UInt8)
         ·rw [if_pos c53] at H
          have c53b0 : (t548.toList == ([] : List UInt8)) = true := beq_iff_eq.mpr c53
          have c53b1 : (t548.toList != ([] : List UInt8)) = false := bne_eq_false_iff_eq.mpr c53
          clear c53
          by_cases c54 : t549 = 0
          ·rw [if_pos c54] at H
           have c54b0 : (t549 == 0) = true := beq_iff_eq.mpr c54
           have c54b1 : (t549 != 0) = false := bne_eq_false_iff_eq.mpr c54
           clear c54
           by_cases c55 : t550 = 5
           ·rw [if_pos c55] at H
            have c55b0 : (t550 == 5) = true := beq_iff_eq.mpr c55
            have c55b1 : (t550 != 5) = false := bne_eq_false_iff_eq.mpr c55
            clear c55
            replace H := Option.bind_eq_some_iff.mp H
            obtain ⟨t565, A560, H⟩ := H
            replace H : (some t565) = some r := H
            have A56 := Aside0.mk A560
            clear A560
            obtain rfl := Option.some.inj H
            go_wp2_with (first | ((with_reducible refine gate_callee (f := 54) rfl ?_); refine goesL_ (some 129) rfl rfl Tryz.func54 (by kernel_rfl) rfl #[.slice Ao17 t540.length co17, .string t543, .int .i64 a2] rfl tM_ ?_; (with_reducible refine (numnahref08_Normal.calls kj33 _ _ t540 t543 a2 t561 t562 false _ ?side1 ?side2 A42.out).mono ?_); (case side1 => repeat (first | exact (Kd.R_reads' HO_7.out).2.2 | (with_reducible refine Kd.C_alloc ?_ _) | (with_reducible refine Kd.C_drewN ?_ _) | (with_reducible refine Kd.C_drew ?_))); (case side2 => exact (Kd.R_reads' HO_7.out).2.1); rintro e w57 ⟨rfl, hb⟩; refine ⟨_, rfl, ?_⟩; have n0_ := Aside0.mk (Kd.R_below (tR_ HO_7) hb); have n1_ := Aside0.mk (below_step (tB_ HB) hb); clear HO_7; clear HB; have HO_7 := n0_; have HB := n1_; clear n0_ n1_; (try clear hb); (try clear hb2); (try clear hk); (try clear hi)) | (go_at_call 24; (with_reducible refine (numnahlaw08_awake.calls kj33  t565 _ A56.out).mono ?_); rintro e w58 ⟨rfl, hb⟩; have n0_ := Aside0.mk (Kd.R_below (tR_ HO_7) hb); have n1_ := Aside0.mk (below_step (tB_ HB) hb); clear HO_7; clear HB; have HO_7 := n0_; have HB := n1_; clear n0_ n1_; (try clear hb); (try clear hb2); (try clear hk); (try clear hi)))
            go_ret
            exact ⟨tE_, tB_ HB⟩
           ·rw [if_neg c55] at H
            exact absurd (H.trans (congrArg some HT0_.out)) (by simp)
          ·rw [if_neg c54] at H
           exact absurd (H.trans (congrArg some HT0_.out)) (by simp)
         ·rw [if_neg c53] at H
          exact absurd (H.trans (congrArg some HT0_.out)) (by simp)
  ·replace c11 := Bool.eq_false_iff.mpr c11
   subst c11
   have H1 : (if (t544.length : Int) = 0 then (if t545 = 4 then (if t548.toList = ([] : List UInt8) then (if t549 = 0 then (if t550 = 4 then ((numnahlaw08_awake.f k).bind fun t554 => (some t554)) else (some false)) else (some false)) else (some false)) else (some false)) else (some false)) = some r := by rw [if_neg (show ¬ (false = true) by decide)] at H; exact H
   clear H
   have H := H1
   clear H1
   by_cases c62 : (t544.length : Int) = 0
   ·rw [if_pos c62] at H
    have c62b0 : ((t544.length : Int) == 0) = true := beq_iff_eq.mpr c62
    have c62b1 : ((t544.length : Int) != 0) = false := bne_eq_false_iff_eq.mpr c62
    clear c62
    by_cases c63 : t545 = 4
    ·rw [if_pos c63] at H
     have c63b0 : (t545 == 4) = true := beq_iff_eq.mpr c63
     have c63b1 : (t545 != 4) = false := bne_eq_false_iff_eq.mpr c63
     clear c63
     by_cases c64 : t548.toList = ([] : List UInt8)
     ·rw [if_pos c64] at H
      have c64b0 : (t548.toList == ([] : List UInt8)) = true := beq_iff_eq.mpr c64
      have c64b1 : (t548.toList != ([] : List UInt8)) = false := bne_eq_false_iff_eq.mpr c64
      clear c64
      by_cases c65 : t549 = 0
      ·rw [if_pos c65] at H
       have c65b0 : (t549 == 0) = true := beq_iff_eq.mpr c65
       have c65b1 : (t549 != 0) = false := bne_eq_false_iff_eq.mpr c65
       clear c65
       by_cases c66 : t550 = 4
       ·rw [if_pos c66] at H
        have c66b0 : (t550 == 4) = true := beq_iff_eq.mpr c66
        have c66b1 : (t550 != 4) = false := bne_eq_false_iff_eq.mpr c66
        clear c66
        replace H := Option.bind_eq_some_iff.mp H
        obtain ⟨t554, A670, H⟩ := H
        replace H : (some t554) = some r := H
        have A67 := Aside0.mk A670
        clear A670
        obtain rfl := Option.some.inj H
        go_enter Tryz.func12, Tryz.ntmps12
        go_wp2_with (first | ((with_reducible refine gate_callee (f := 28) rfl ?_); refine goesL_ (some 19) rfl rfl Tryz.func28 (by kernel_rfl) rfl #[.slice A0 l0.length c0] rfl tM_ ?_; (with_reducible refine (numnahlaw08_laws.calls k _ _ l0 t540 _ ?side1 ?side2 A4.out).mono ?_); (case side1 => repeat (first | exact HR0.out | (with_reducible refine Kd.C_alloc ?_ _) | (with_reducible refine Kd.C_drewN ?_ _) | (with_reducible refine Kd.C_drew ?_))); (case side2 => exact HC0.out); rintro e w68 ⟨v541, rfl, ho0, hb⟩; refine ⟨_, rfl, ?_⟩; have n0_ := Aside0.mk (Kd.R_lower ho0 (below_size (tB_ HB))); have n1_ := Aside0.mk (below_step (tB_ HB) hb); clear HB; have HO542 := n0_; have HB := n1_; clear n0_ n1_; (try clear hb); (try clear hb2); (try clear hk); (try clear hi); (try clear ho0)) | ((with_reducible refine gate_callee (f := 21) rfl ?_); refine goesL_ (some 21) rfl rfl Tryz.func21 (by kernel_rfl) rfl #[.string a1] rfl tM_ ?_; (with_reducible refine (numnahlaw08_short.calls a1 t543 _ A5.out).mono ?_); rintro e w69 ⟨rfl, hb⟩; refine ⟨_, rfl, ?_⟩; have n0_ := Aside0.mk (Kd.R_below (tR_ HO542) hb); have n1_ := Aside0.mk (below_step (tB_ HB) hb); clear HO542; clear HB; have HO542 := n0_; have HB := n1_; clear n0_ n1_; (try clear hb); (try clear hb2); (try clear hk); (try clear hi); obtain ⟨Ao70, co70, eo70⟩ := Kd.R_slice HO542.out; subst eo70) | ((with_reducible refine gate_callee (f := 49) rfl ?_); refine goesL_ (some 25) rfl rfl Tryz.func49 (by kernel_rfl) rfl #[.slice Ao70 t540.length co70, .string t543] rfl tM_ ?_; (with_reducible refine (rules_Next.calls _ _ t540 t543 t544 t545 _ ?side1 ?side2 A6.out).mono ?_); (case side1 => repeat (first | exact (Kd.R_reads' HO542.out).2.2 | (with_reducible refine Kd.C_alloc ?_ _) | (with_reducible refine Kd.C_drewN ?_ _) | (with_reducible refine Kd.C_drew ?_))); (case side2 => exact (Kd.R_reads' HO542.out).2.1); rintro e w71 ⟨v546, rfl, ho0, hb⟩; refine ⟨_, rfl, ?_⟩; have n0_ := Aside0.mk (Kd.R_below (tR_ HO542) hb); have n1_ := Aside0.mk (Kd.R_lower ho0 (below_size (tB_ HB))); have n2_ := Aside0.mk (below_step (tB_ HB) hb); clear HO542; clear HB; have HO542 := n0_; have HO547 := n1_; have HB := n2_; clear n0_ n1_ n2_; (try clear hb); (try clear hb2); (try clear hk); (try clear hi); (try clear ho0)) | ((with_reducible refine gate_callee (f := 50) rfl ?_); refine goesL_ (some 32) rfl rfl Tryz.func50 (by kernel_rfl) rfl #[.slice Ao70 t540.length co70, .string t543, .int .i64 a2] rfl tM_ ?_; (with_reducible refine (rules_Normal.calls _ _ t540 t543 a2 t548 t549 t550 _ ?side1 ?side2 A7.out).mono ?_); (case side1 => repeat (first | exact (Kd.R_reads' HO542.out).2.2 | (with_reducible refine Kd.C_alloc ?_ _) | (with_reducible refine Kd.C_drewN ?_ _) | (with_reducible refine Kd.C_drew ?_))); (case side2 => exact (Kd.R_reads' HO542.out).2.1); rintro e w72 ⟨rfl, hb⟩; refine ⟨_, rfl, ?_⟩; have n0_ := Aside0.mk (Kd.R_below (tR_ HO542) hb); have n1_ := Aside0.mk (Kd.R_below (tR_ HO547) hb); have n2_ := Aside0.mk (below_step (tB_ HB) hb); clear HO542; clear HO547; clear HB; have HO542 := n0_; have HO547 := n1_; have HB := n2_; clear n0_ n1_ n2_; (try clear hb); (try clear hb2); (try clear hk); (try clear hi)) | ((with_reducible refine gate_callee (f := 31) rfl ?_); refine goesL_ (some 37) rfl rfl Tryz.func31 (by kernel_rfl) rfl #[.slice Ao70 t540.length co70] rfl tM_ ?_; (with_reducible refine (numnahref08_Rules.calls k _ _ t540 true _ ?side1 ?side2 A8.out).mono ?_); (case side1 => repeat (first | exact (Kd.R_reads' HO542.out).2.2 | (with_reducible refine Kd.C_alloc ?_ _) | (with_reducible refine Kd.C_drewN ?_ _) | (with_reducible refine Kd.C_drew ?_))); (case side2 => exact (Kd.R_reads' HO542.out).2.1); rintro e w' ⟨rfl, ⟨nd, rfl⟩⟩; refine ⟨_, rfl, ?_⟩) | ((with_reducible refine gate_callee (f := 25) rfl ?_); refine goesL_ (some 62) rfl rfl Tryz.func25 (by kernel_rfl) rfl #[.string t543] rfl tM_ ?_; (with_reducible refine (numnahref08_Term.calls k t543 false _ A10.out).mono ?_); rintro e w' ⟨rfl, ⟨nd, rfl⟩⟩; refine ⟨_, rfl, ?_⟩; obtain ⟨Ao73, co73, eo73⟩ := Kd.R_slice HO547.out; subst eo73) | (go_at_call 24; (with_reducible refine (numnahlaw08_awake.calls k  t554 _ A67.out).mono ?_); rintro e w74 ⟨rfl, hb⟩; have n0_ := Aside0.mk (Kd.R_below (tR_ HO542) hb); have n1_ := Aside0.mk (Kd.R_below (tR_ HO547) hb); have n2_ := Aside0.mk (below_step (tB_ HB) hb); clear HO542; clear HO547; clear HB; have HO542 := n0_; have HO547 := n1_; have HB := n2_; clear n0_ n1_ n2_; (try clear hb); (try clear hb2); (try clear hk); (try clear hi)))
        go_ret
        exact ⟨tE_, tB_ HB⟩
       ·rw [if_neg c66] at H
        exact absurd (H.trans (congrArg some HT0_.out)) (by simp)
      ·rw [if_neg c65] at H
       exact absurd (H.trans (congrArg some HT0_.out)) (by simp)
     ·rw [if_neg c64] at H
      exact absurd (H.trans (congrArg some HT0_.out)) (by simp)
    ·rw [if_neg c63] at H
     exact absurd (H.trans (congrArg some HT0_.out)) (by simp)
   ·rw [if_neg c62] at H
    exact absurd (H.trans (congrArg some HT0_.out)) (by simp)
 ·replace c9 := Bool.eq_false_iff.mpr c9
  subst c9
  have H1 : (if (t544.length : Int) = 0 then (if t545 = 2 then (if t548.toList = ([] : List UInt8) then (if t549 = 0 then (if t550 = 2 then ((numnahlaw08_awake.f k).bind fun t552 => (some t552)) else (some false)) else (some false)) else (some false)) else (some false)) else (some false)) = some r := by rw [if_neg (show ¬ (false = true) by decide)] at H; exact H
  clear H
  have H := H1
  clear H1
  by_cases c105 : (t544.length : Int) = 0
  ·rw [if_pos c105] at H
   have c105b0 : ((t544.length : Int) == 0) = true := beq_iff_eq.mpr c105
   have c105b1 : ((t544.length : Int) != 0) = false := bne_eq_false_iff_eq.mpr c105
   clear c105
   by_cases c106 : t545 = 2
   ·rw [if_pos c106] at H
    have c106b0 : (t545 == 2) = true := beq_iff_eq.mpr c106
    have c106b1 : (t545 != 2) = false := bne_eq_false_iff_eq.mpr c106
    clear c106
    by_cases c107 : t548.toList = ([] : List UInt8)
    ·rw [if_pos c107] at H
     have c107b0 : (t548.toList == ([] : List UInt8)) = true := beq_iff_eq.mpr c107
     have c107b1 : (t548.toList != ([] : List UInt8)) = false := bne_eq_false_iff_eq.mpr c107
     clear c107
     by_cases c108 : t549 = 0
     ·rw [if_pos c108] at H
      have c108b0 : (t549 == 0) = true := beq_iff_eq.mpr c108
      have c108b1 : (t549 != 0) = false := bne_eq_false_iff_eq.mpr c108
      clear c108
      by_cases c109 : t550 = 2
      ·rw [if_pos c109] at H
       have c109b0 : (t550 == 2) = true := beq_iff_eq.mpr c109
       have c109b1 : (t550 != 2) = false := bne_eq_false_iff_eq.mpr c109
       clear c109
       replace H := Option.bind_eq_some_iff.mp H
       obtain ⟨t552, A1100, H⟩ := H
       replace H : (some t552) = some r := H
       have A110 := Aside0.mk A1100
       clear A1100
       obtain rfl := Option.some.inj H
       go_enter Tryz.func12, Tryz.ntmps12
       go_wp2_with (first | ((with_reducible refine gate_callee (f := 28) rfl ?_); refine goesL_ (some 19) rfl rfl Tryz.func28 (by kernel_rfl) rfl #[.slice A0 l0.length c0] rfl tM_ ?_; (with_reducible refine (numnahlaw08_laws.calls k _ _ l0 t540 _ ?side1 ?side2 A4.out).mono ?_); (case side1 => repeat (first | exact HR0.out | (with_reducible refine Kd.C_alloc ?_ _) | (with_reducible refine Kd.C_drewN ?_ _) | (with_reducible refine Kd.C_drew ?_))); (case side2 => exact HC0.out); rintro e w111 ⟨v541, rfl, ho0, hb⟩; refine ⟨_, rfl, ?_⟩; have n0_ := Aside0.mk (Kd.R_lower ho0 (below_size (tB_ HB))); have n1_ := Aside0.mk (below_step (tB_ HB) hb); clear HB; have HO542 := n0_; have HB := n1_; clear n0_ n1_; (try clear hb); (try clear hb2); (try clear hk); (try clear hi); (try clear ho0)) | ((with_reducible refine gate_callee (f := 21) rfl ?_); refine goesL_ (some 21) rfl rfl Tryz.func21 (by kernel_rfl) rfl #[.string a1] rfl tM_ ?_; (with_reducible refine (numnahlaw08_short.calls a1 t543 _ A5.out).mono ?_); rintro e w112 ⟨rfl, hb⟩; refine ⟨_, rfl, ?_⟩; have n0_ := Aside0.mk (Kd.R_below (tR_ HO542) hb); have n1_ := Aside0.mk (below_step (tB_ HB) hb); clear HO542; clear HB; have HO542 := n0_; have HB := n1_; clear n0_ n1_; (try clear hb); (try clear hb2); (try clear hk); (try clear hi); obtain ⟨Ao113, co113, eo113⟩ := Kd.R_slice HO542.out; subst eo113) | ((with_reducible refine gate_callee (f := 49) rfl ?_); refine goesL_ (some 25) rfl rfl Tryz.func49 (by kernel_rfl) rfl #[.slice Ao113 t540.length co113, .string t543] rfl tM_ ?_; (with_reducible refine (rules_Next.calls _ _ t540 t543 t544 t545 _ ?side1 ?side2 A6.out).mono ?_); (case side1 => repeat (first | exact (Kd.R_reads' HO542.out).2.2 | (with_reducible refine Kd.C_alloc ?_ _) | (with_reducible refine Kd.C_drewN ?_ _) | (with_reducible refine Kd.C_drew ?_))); (case side2 => exact (Kd.R_reads' HO542.out).2.1); rintro e w114 ⟨v546, rfl, ho0, hb⟩; refine ⟨_, rfl, ?_⟩; have n0_ := Aside0.mk (Kd.R_below (tR_ HO542) hb); have n1_ := Aside0.mk (Kd.R_lower ho0 (below_size (tB_ HB))); have n2_ := Aside0.mk (below_step (tB_ HB) hb); clear HO542; clear HB; have HO542 := n0_; have HO547 := n1_; have HB := n2_; clear n0_ n1_ n2_; (try clear hb); (try clear hb2); (try clear hk); (try clear hi); (try clear ho0)) | ((with_reducible refine gate_callee (f := 50) rfl ?_); refine goesL_ (some 32) rfl rfl Tryz.func50 (by kernel_rfl) rfl #[.slice Ao113 t540.length co113, .string t543, .int .i64 a2] rfl tM_ ?_; (with_reducible refine (rules_Normal.calls _ _ t540 t543 a2 t548 t549 t550 _ ?side1 ?side2 A7.out).mono ?_); (case side1 => repeat (first | exact (Kd.R_reads' HO542.out).2.2 | (with_reducible refine Kd.C_alloc ?_ _) | (with_reducible refine Kd.C_drewN ?_ _) | (with_reducible refine Kd.C_drew ?_))); (case side2 => exact (Kd.R_reads' HO542.out).2.1); rintro e w115 ⟨rfl, hb⟩; refine ⟨_, rfl, ?_⟩; have n0_ := Aside0.mk (Kd.R_below (tR_ HO542) hb); have n1_ := Aside0.mk (Kd.R_below (tR_ HO547) hb); have n2_ := Aside0.mk (below_step (tB_ HB) hb); clear HO542; clear HO547; clear HB; have HO542 := n0_; have HO547 := n1_; have HB := n2_; clear n0_ n1_ n2_; (try clear hb); (try clear hb2); (try clear hk); (try clear hi)) | ((with_reducible refine gate_callee (f := 31) rfl ?_); refine goesL_ (some 37) rfl rfl Tryz.func31 (by kernel_rfl) rfl #[.slice Ao113 t540.length co113] rfl tM_ ?_; (with_reducible refine (numnahref08_Rules.calls k _ _ t540 false _ ?side1 ?side2 A8.out).mono ?_); (case side1 => repeat (first | exact (Kd.R_reads' HO542.out).2.2 | (with_reducible refine Kd.C_alloc ?_ _) | (with_reducible refine Kd.C_drewN ?_ _) | (with_reducible refine Kd.C_drew ?_))); (case side2 => exact (Kd.R_reads' HO542.out).2.1); rintro e w' ⟨rfl, ⟨nd, rfl⟩⟩; refine ⟨_, rfl, ?_⟩; obtain ⟨Ao116, co116, eo116⟩ := Kd.R_slice HO547.out; subst eo116) | (go_at_call 24; (with_reducible refine (numnahlaw08_awake.calls k  t552 _ A110.out).mono ?_); rintro e w117 ⟨rfl, hb⟩; have n0_ := Aside0.mk (Kd.R_below (tR_ HO542) hb); have n1_ := Aside0.mk (Kd.R_below (tR_ HO547) hb); have n2_ := Aside0.mk (below_step (tB_ HB) hb); clear HO542; clear HO547; clear HB; have HO542 := n0_; have HO547 := n1_; have HB := n2_; clear n0_ n1_ n2_; (try clear hb); (try clear hb2); (try clear hk); (try clear hi)))
       go_ret
       exact ⟨tE_, tB_ HB⟩
      ·rw [if_neg c109] at H
       exact absurd (H.trans (congrArg some HT0_.out)) (by simp)
     ·rw [if_neg c108] at H
      exact absurd (H.trans (congrArg some HT0_.out)) (by simp)
    ·rw [if_neg c107] at H
     exact absurd (H.trans (congrArg some HT0_.out)) (by simp)
   ·rw [if_neg c106] at H
    exact absurd (H.trans (congrArg some HT0_.out)) (by simp)
  ·rw [if_neg c105] at H
   exact absurd (H.trans (congrArg some HT0_.out)) (by simp)
end Go.Proofs.YtaafeallcaiooaaGreat.Pr
