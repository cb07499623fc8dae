-- Laid by wip/tools/inj.py of this project, which drives the kit's printer. Lean checks it.
import Derived.Test.YtaafeallcaiooaaGreatPr0
import Derived.Test.YtaafeallcaiooaaGreatPrA1
import Derived.Test.YtaafeallcaiooaaGreatPrA3
import Derived.Test.YtaafeallcaiooaaGreatPrA4
namespace Go.Proofs.YtaafeallcaiooaaGreat.Pr
open Go.RowKit Go.Proofs.YtaafeallcaiooaaGreatW.PrintWords Go.Proofs.YtaafeallcaiooaaGreatW.PrintLast Go.Proofs.YtaafeallcaiooaaGreatW.PrintMore
attribute [local go_sem] max2_int min2_int max_two min_two max_three min_three max_four min_four   -- for this text's walks alone
set_option linter.unusedVariables false
set_option linter.unusedSimpArgs false

/-! ### numnahref08_Rules: function 31 -/
mutual
def numnahref08_Rules.l0 : Nat → List (S94) → Int → Option (Bool)
 | 0, _, _ => none
 | k + 1, x0, x3 => if x3 < (x0.length : Int) then (if 0 ≤ x3 then ((numnahref08_Term.f k ((rd_T94 x0 x3).f0)).bind fun t218 => (if t218 = true then ((numnahref08_Term.f k ((rd_T94 x0 x3).f1)).bind fun t219 => (if t219 = true then ((numnahref08_Size.f k ((rd_T94 x0 x3).f0)).bind fun t220 => (if t220 > 12 then (numnahref08_Rules.j1 k x0 x3 ((rd_T94 x0 x3).f0) ((rd_T94 x0 x3).f1) true) else ((numnahref08_Size.f k ((rd_T94 x0 x3).f1)).bind fun t221 => (if t221 > 12 then (numnahref08_Rules.j1 k x0 x3 ((rd_T94 x0 x3).f0) ((rd_T94 x0 x3).f1) true) else (if 0 < (((rd_T94 x0 x3).f0).size : Int) then ((numnahref08_Variable.f (bt ((rd_T94 x0 x3).f0) 0)).bind fun t222 => (numnahref08_Rules.j1 k x0 x3 ((rd_T94 x0 x3).f0) ((rd_T94 x0 x3).f1) t222)) else (none)))))) else (numnahref08_Rules.j1 k x0 x3 ((rd_T94 x0 x3).f0) ((rd_T94 x0 x3).f1) true))) else (numnahref08_Rules.j1 k x0 x3 ((rd_T94 x0 x3).f0) ((rd_T94 x0 x3).f1) true))) else (none)) else (some (decide ((x0.length : Int) ≤ 6)))
def numnahref08_Rules.j1 : Nat → List (S94) → Int → ByteArray → ByteArray → Bool → Option (Bool)
 | 0, _, _, _, _, _ => none
 | k + 1, x0, x3, x4, x5, x45 => if x45 = true then (some false) else (numnahref08_Rules.l1 k x0 x3 x4 x5 0)
def numnahref08_Rules.l1 : Nat → List (S94) → Int → ByteArray → ByteArray → Int → Option (Bool)
 | 0, _, _, _, _, _ => none
 | k + 1, x0, x3, x4, x5, x6 => if x6 < (x5.size : Int) then (if 0 ≤ x6 then ((numnahref08_Variable.f (bt x5 x6)).bind fun t223 => (if t223 = true then ((numnahref08_occurs.f k (bt x5 x6) x4).bind fun t224 => (if t224 = true then (numnahref08_Rules.l1 k x0 x3 x4 x5 (wrap64 (x6 + 1))) else (some false))) else (numnahref08_Rules.l1 k x0 x3 x4 x5 (wrap64 (x6 + 1))))) else (none)) else (numnahref08_Rules.l0 k x0 (wrap64 (x3 + 1)))
end
def numnahref08_Rules.f (k : Nat) (l0 : List (S94)) : Option (Bool) := numnahref08_Rules.l0 k l0 0
theorem numnahref08_Rules.mono_l : ∀ k, (∀ y0 y1, LeO (numnahref08_Rules.l0 k y0 y1) (numnahref08_Rules.l0 (k + 1) y0 y1)) ∧ (∀ y0 y1 y2 y3 y4, LeO (numnahref08_Rules.j1 k y0 y1 y2 y3 y4) (numnahref08_Rules.j1 (k + 1) y0 y1 y2 y3 y4)) ∧ (∀ y0 y1 y2 y3 y4, LeO (numnahref08_Rules.l1 k y0 y1 y2 y3 y4) (numnahref08_Rules.l1 (k + 1) y0 y1 y2 y3 y4))
 | 0 => ⟨fun _ _ r h => by simp [numnahref08_Rules.l0] at h, fun _ _ _ _ _ r h => by simp [numnahref08_Rules.j1] at h, fun _ _ _ _ _ r h => by simp [numnahref08_Rules.l1] at h⟩
 | k + 1 => by
  obtain ⟨ih0, ih1, ih2⟩ := numnahref08_Rules.mono_l k
  refine ⟨?_, ?_, ?_⟩
  ·intro y0 y1
   unfold numnahref08_Rules.l0
   repeat' first
   | (with_reducible exact ih0 _ _)
   | (with_reducible exact ih1 _ _ _ _ _)
   | (with_reducible exact ih2 _ _ _ _ _)
   | (with_reducible exact numnahref08_Size.mono _ _)
   | (with_reducible exact numnahref08_Term.mono _ _)
   | (with_reducible exact numnahref08_occurs.mono _ _ _)
   | (with_reducible exact LeO.refl _)
   | (with_reducible exact LeO.none _)
   | (with_reducible refine LeO.ite ?_ ?_)
   | (with_reducible refine LeO.bind ?_ (fun _ => ?_))
   | exact ih0 _ _
   | exact ih1 _ _ _ _ _
   | exact ih2 _ _ _ _ _
   | exact numnahref08_Size.mono _ _
   | exact numnahref08_Term.mono _ _
   | exact numnahref08_occurs.mono _ _ _
   | exact LeO.none _
   | refine LeO.ite ?_ ?_
   | refine LeO.bind ?_ (fun _ => ?_)
  ·intro y0 y1 y2 y3 y4
   unfold numnahref08_Rules.j1
   repeat' first
   | (with_reducible exact ih0 _ _)
   | (with_reducible exact ih1 _ _ _ _ _)
   | (with_reducible exact ih2 _ _ _ _ _)
   | (with_reducible exact numnahref08_Size.mono _ _)
   | (with_reducible exact numnahref08_Term.mono _ _)
   | (with_reducible exact numnahref08_occurs.mono _ _ _)
   | (with_reducible exact LeO.refl _)
   | (with_reducible exact LeO.none _)
   | (with_reducible refine LeO.ite ?_ ?_)
   | (with_reducible refine LeO.bind ?_ (fun _ => ?_))
   | exact ih0 _ _
   | exact ih1 _ _ _ _ _
   | exact ih2 _ _ _ _ _
   | exact numnahref08_Size.mono _ _
   | exact numnahref08_Term.mono _ _
   | exact numnahref08_occurs.mono _ _ _
   | exact LeO.none _
   | refine LeO.ite ?_ ?_
   | refine LeO.bind ?_ (fun _ => ?_)
  ·intro y0 y1 y2 y3 y4
   unfold numnahref08_Rules.l1
   repeat' first
   | (with_reducible exact ih0 _ _)
   | (with_reducible exact ih1 _ _ _ _ _)
   | (with_reducible exact ih2 _ _ _ _ _)
   | (with_reducible exact numnahref08_Size.mono _ _)
   | (with_reducible exact numnahref08_Term.mono _ _)
   | (with_reducible exact numnahref08_occurs.mono _ _ _)
   | (with_reducible exact LeO.refl _)
   | (with_reducible exact LeO.none _)
   | (with_reducible refine LeO.ite ?_ ?_)
   | (with_reducible refine LeO.bind ?_ (fun _ => ?_))
   | exact ih0 _ _
   | exact ih1 _ _ _ _ _
   | exact ih2 _ _ _ _ _
   | exact numnahref08_Size.mono _ _
   | exact numnahref08_Term.mono _ _
   | exact numnahref08_occurs.mono _ _ _
   | exact LeO.none _
   | refine LeO.ite ?_ ?_
   | refine LeO.bind ?_ (fun _ => ?_)
theorem numnahref08_Rules.mono : ∀ a0 k, LeO (numnahref08_Rules.f k a0) (numnahref08_Rules.f (k + 1) a0) := by
 intro a0 k
 obtain ⟨ih0, ih1, ih2⟩ := numnahref08_Rules.mono_l k
 unfold numnahref08_Rules.f
 repeat' first
   | (with_reducible exact ih0 _ _)
   | (with_reducible exact ih1 _ _ _ _ _)
   | (with_reducible exact ih2 _ _ _ _ _)
   | (with_reducible exact numnahref08_Size.mono _ _)
   | (with_reducible exact numnahref08_Term.mono _ _)
   | (with_reducible exact numnahref08_occurs.mono _ _ _)
   | (with_reducible exact LeO.refl _)
   | (with_reducible exact LeO.none _)
   | (with_reducible refine LeO.ite ?_ ?_)
   | (with_reducible refine LeO.bind ?_ (fun _ => ?_))
   | exact ih0 _ _
   | exact ih1 _ _ _ _ _
   | exact ih2 _ _ _ _ _
   | exact numnahref08_Size.mono _ _
   | exact numnahref08_Term.mono _ _
   | exact numnahref08_occurs.mono _ _ _
   | exact LeO.none _
   | refine LeO.ite ?_ ?_
   | refine LeO.bind ?_ (fun _ => ?_)
set_option maxHeartbeats 8000000 in
set_option maxRecDepth 100000 in
theorem numnahref08_Rules.calls (k : Nat) (A0 : Option Addr) (c0 : Nat) (l0 : List (S94)) (r : Bool) (w : World) (hr0 : Kd.C k94 w A0 l0.length l0) (hc0 : l0.length ≤ c0) (h : numnahref08_Rules.f k l0 = some r) :
  Calls Tryz.prog 31 #[.slice A0 l0.length c0] w fun e w' => e = .returned (.bool r) ∧ Drawn0 w w' := by
 have HR0 := Aside0.mk hr0
 have HC0 := Aside0.mk hc0
 clear hr0 hc0
 have H : (numnahref08_Rules.l0 k l0 0) = some r := h
 clear h
 have H' := Aside0.mk H
 clear H
 go_enter Tryz.func31, Tryz.ntmps31
 go_wp2
 repeat (go_quiet (fail); try go_wp2)
 go_loopg [3] k (fun kq v3 w' => ∃ (x3_1 : Int), v3 = .int .i64 x3_1 ∧ Aside0 (numnahref08_Rules.l0 kq l0 x3_1 = some r) ∧ Aside0 (kq ≤ k) ∧ Drawn0 w w')
 case atStart => exact ⟨(0), tS_, H', ⟨Nat.le_refl _⟩, by repeat (first | exact Drawn0.refl _ | apply Drawn0.step)⟩
 case round =>
  clear H'
  obtain ⟨x3_1, rfl, HA, HK1, ⟨m1, rfl⟩⟩ := hrel
  cases gk with
  | zero => exact absurd HA.out (by simp [numnahref08_Rules.l0])
  | succ k1 =>
   have H := HA.out
   clear HA
   simp only [numnahref08_Rules.l0] at H
   by_cases c2 : x3_1 < (l0.length : Int)
   ·rw [if_pos c2] at H
    have c2b0 : decide (x3_1 < (l0.length : Int)) = true := decide_eq_true c2
    clear c2
    by_cases c3 : 0 ≤ x3_1
    ·rw [if_pos c3] at H
     have c3b0 : decide (0 ≤ x3_1) = true := decide_eq_true c3
     clear c3
     have HC4 := Aside0.mk H
     clear H
     have p216 : 0 ≤ (x3_1 : Int) := of_decide_eq_true tA_
     have q216 : x3_1 < (l0.length : Int) := of_decide_eq_true tA_
     obtain ⟨ad216, e216, hx216_0, hx216_1⟩ := at_T94 HR0.out x3_1 p216 q216
     cases e216
     replace p216 := eq_true p216
     replace q216 := eq_true q216
     have p217 : 0 ≤ (x3_1 : Int) := of_decide_eq_true tA_
     have q217 : x3_1 < (l0.length : Int) := of_decide_eq_true tA_
     obtain ⟨ad217, e217, hx217_0, hx217_1⟩ := at_T94 HR0.out x3_1 p217 q217
     obtain rfl : ad216 = ad217 := (by injection e217)
     replace p217 := eq_true p217
     replace q217 := eq_true q217
     go_upto_region 5 with (fail)
     repeat (go_quiet (fail); go_upto_region 5 with (fail))
     go_cut [45] (fun v45 wc => ∃ (kq : Nat) (x45_3 : Bool), v45 = .bool x45_3 ∧ Aside0 (numnahref08_Rules.j1 kq l0 x3_1 ((rd_T94 l0 x3_1).f0) ((rd_T94 l0 x3_1).f1) x45_3 = some r) ∧ Aside0 (kq ≤ k1) ∧ Drawn0 w wc)
     case first =>
      have H := HC4.out
      clear HC4
      replace H := Option.bind_eq_some_iff.mp H
      obtain ⟨t218, A50, H⟩ := H
      replace H : (if t218 = true then ((numnahref08_Term.f k1 ((rd_T94 l0 x3_1).f1)).bind fun t219 => (if t219 = true then ((numnahref08_Size.f k1 ((rd_T94 l0 x3_1).f0)).bind fun t220 => (if t220 > 12 then (numnahref08_Rules.j1 k1 l0 x3_1 ((rd_T94 l0 x3_1).f0) ((rd_T94 l0 x3_1).f1) true) else ((numnahref08_Size.f k1 ((rd_T94 l0 x3_1).f1)).bind fun t221 => (if t221 > 12 then (numnahref08_Rules.j1 k1 l0 x3_1 ((rd_T94 l0 x3_1).f0) ((rd_T94 l0 x3_1).f1) true) else (if 0 < (((rd_T94 l0 x3_1).f0).size : Int) then ((numnahref08_Variable.f (bt ((rd_T94 l0 x3_1).f0) 0)).bind fun t222 => (numnahref08_Rules.j1 k1 l0 x3_1 ((rd_T94 l0 x3_1).f0) ((rd_T94 l0 x3_1).f1) t222)) else (none)))))) else (numnahref08_Rules.j1 k1 l0 x3_1 ((rd_T94 l0 x3_1).f0) ((rd_T94 l0 x3_1).f1) true))) else (numnahref08_Rules.j1 k1 l0 x3_1 ((rd_T94 l0 x3_1).f0) ((rd_T94 l0 x3_1).f1) true)) = some r := H
      have A5 := Aside0.mk A50
      clear A50
      by_cases c6 : t218 = true
      ·subst c6
       have H1 : ((numnahref08_Term.f k1 ((rd_T94 l0 x3_1).f1)).bind fun t219 => (if t219 = true then ((numnahref08_Size.f k1 ((rd_T94 l0 x3_1).f0)).bind fun t220 => (if t220 > 12 then (numnahref08_Rules.j1 k1 l0 x3_1 ((rd_T94 l0 x3_1).f0) ((rd_T94 l0 x3_1).f1) true) else ((numnahref08_Size.f k1 ((rd_T94 l0 x3_1).f1)).bind fun t221 => (if t221 > 12 then (numnahref08_Rules.j1 k1 l0 x3_1 ((rd_T94 l0 x3_1).f0) ((rd_T94 l0 x3_1).f1) true) else (if 0 < (((rd_T94 l0 x3_1).f0).size : Int) then ((numnahref08_Variable.f (bt ((rd_T94 l0 x3_1).f0) 0)).bind fun t222 => (numnahref08_Rules.j1 k1 l0 x3_1 ((rd_T94 l0 x3_1).f0) ((rd_T94 l0 x3_1).f1) t222)) else (none)))))) else (numnahref08_Rules.j1 k1 l0 x3_1 ((rd_T94 l0 x3_1).f0) ((rd_T94 l0 x3_1).f1) true))) = some r := by rw [if_pos rfl] at H; exact H
       clear H
       have H := H1
       clear H1
       replace H := Option.bind_eq_some_iff.mp H
       obtain ⟨t219, A70, H⟩ := H
       replace H : (if t219 = true then ((numnahref08_Size.f k1 ((rd_T94 l0 x3_1).f0)).bind fun t220 => (if t220 > 12 then (numnahref08_Rules.j1 k1 l0 x3_1 ((rd_T94 l0 x3_1).f0) ((rd_T94 l0 x3_1).f1) true) else ((numnahref08_Size.f k1 ((rd_T94 l0 x3_1).f1)).bind fun t221 => (if t221 > 12 then (numnahref08_Rules.j1 k1 l0 x3_1 ((rd_T94 l0 x3_1).f0) ((rd_T94 l0 x3_1).f1) true) else (if 0 < (((rd_T94 l0 x3_1).f0).size : Int) then ((numnahref08_Variable.f (bt ((rd_T94 l0 x3_1).f0) 0)).bind fun t222 => (numnahref08_Rules.j1 k1 l0 x3_1 ((rd_T94 l0 x3_1).f0) ((rd_T94 l0 x3_1).f1) t222)) else (none)))))) else (numnahref08_Rules.j1 k1 l0 x3_1 ((rd_T94 l0 x3_1).f0) ((rd_T94 l0 x3_1).f1) true)) = some r := H
       have A7 := Aside0.mk A70
       clear A70
       by_cases c8 : t219 = true
       ·subst c8
        have H1 : ((numnahref08_Size.f k1 ((rd_T94 l0 x3_1).f0)).bind fun t220 => (if t220 > 12 then (numnahref08_Rules.j1 k1 l0 x3_1 ((rd_T94 l0 x3_1).f0) ((rd_T94 l0 x3_1).f1) true) else ((numnahref08_Size.f k1 ((rd_T94 l0 x3_1).f1)).bind fun t221 => (if t221 > 12 then (numnahref08_Rules.j1 k1 l0 x3_1 ((rd_T94 l0 x3_1).f0) ((rd_T94 l0 x3_1).f1) true) else (if 0 < (((rd_T94 l0 x3_1).f0).size : Int) then ((numnahref08_Variable.f (bt ((rd_T94 l0 x3_1).f0) 0)).bind fun t222 => (numnahref08_Rules.j1 k1 l0 x3_1 ((rd_T94 l0 x3_1).f0) ((rd_T94 l0 x3_1).f1) t222)) else (none)))))) = some r := by rw [if_pos rfl] at H; exact H
        clear H
        have H := H1
        clear H1
        replace H := Option.bind_eq_some_iff.mp H
        obtain ⟨t220, A90, H⟩ := H
        replace H : (if t220 > 12 then (numnahref08_Rules.j1 k1 l0 x3_1 ((rd_T94 l0 x3_1).f0) ((rd_T94 l0 x3_1).f1) true) else ((numnahref08_Size.f k1 ((rd_T94 l0 x3_1).f1)).bind fun t221 => (if t221 > 12 then (numnahref08_Rules.j1 k1 l0 x3_1 ((rd_T94 l0 x3_1).f0) ((rd_T94 l0 x3_1).f1) true) else (if 0 < (((rd_T94 l0 x3_1).f0).size : Int) then ((numnahref08_Variable.f (bt ((rd_T94 l0 x3_1).f0) 0)).bind fun t222 => (numnahref08_Rules.j1 k1 l0 x3_1 ((rd_T94 l0 x3_1).f0) ((rd_T94 l0 x3_1).f1) t222)) else (none))))) = some r := H
        have A9 := Aside0.mk A90
        clear A90
        by_cases c10 : t220 > 12
        ·rw [if_pos c10] at H
         have c10b0 : decide (12 < t220) = true := decide_eq_true c10
         clear c10
         (first | rw [c10b0] | (simp only [i64_w, i32_w]; rw [c10b0]) | skip)
         have H' := Aside0.mk H
         clear H
         go_wp2_with (first | (go_at_call 25; (with_reducible refine (numnahref08_Term.calls k1 ((rd_T94 l0 x3_1).f0) true _ A5.out).mono ?_); rintro e w' ⟨rfl, ⟨nd, rfl⟩⟩; (try first | exact ⟨rfl, _, World.drewN_drewN _ _ _⟩ | exact ⟨rfl, _, Eq.trans (World.drewN_drewN _ _ _) (congrArg (World.drewN _) (Nat.add_assoc _ _ _))⟩)) | (go_at_call 25; (with_reducible refine (numnahref08_Term.calls k1 ((rd_T94 l0 x3_1).f1) true _ A7.out).mono ?_); rintro e w' ⟨rfl, ⟨nd, rfl⟩⟩; (try first | exact ⟨rfl, _, World.drewN_drewN _ _ _⟩ | exact ⟨rfl, _, Eq.trans (World.drewN_drewN _ _ _) (congrArg (World.drewN _) (Nat.add_assoc _ _ _))⟩)) | (go_at_call 26; (with_reducible refine (numnahref08_Size.calls k1 ((rd_T94 l0 x3_1).f0) t220 _ A9.out).mono ?_); rintro e w' ⟨rfl, ⟨nd, rfl⟩⟩; (try first | exact ⟨rfl, _, World.drewN_drewN _ _ _⟩ | exact ⟨rfl, _, Eq.trans (World.drewN_drewN _ _ _) (congrArg (World.drewN _) (Nat.add_assoc _ _ _))⟩)))
         repeat (go_quiet (first | (go_at_call 25; (with_reducible refine (numnahref08_Term.calls k1 ((rd_T94 l0 x3_1).f0) true _ A5.out).mono ?_); rintro e w' ⟨rfl, ⟨nd, rfl⟩⟩; (try first | exact ⟨rfl, _, World.drewN_drewN _ _ _⟩ | exact ⟨rfl, _, Eq.trans (World.drewN_drewN _ _ _) (congrArg (World.drewN _) (Nat.add_assoc _ _ _))⟩)) | (go_at_call 25; (with_reducible refine (numnahref08_Term.calls k1 ((rd_T94 l0 x3_1).f1) true _ A7.out).mono ?_); rintro e w' ⟨rfl, ⟨nd, rfl⟩⟩; (try first | exact ⟨rfl, _, World.drewN_drewN _ _ _⟩ | exact ⟨rfl, _, Eq.trans (World.drewN_drewN _ _ _) (congrArg (World.drewN _) (Nat.add_assoc _ _ _))⟩)) | (go_at_call 26; (with_reducible refine (numnahref08_Size.calls k1 ((rd_T94 l0 x3_1).f0) t220 _ A9.out).mono ?_); rintro e w' ⟨rfl, ⟨nd, rfl⟩⟩; (try first | exact ⟨rfl, _, World.drewN_drewN _ _ _⟩ | exact ⟨rfl, _, Eq.trans (World.drewN_drewN _ _ _) (congrArg (World.drewN _) (Nat.add_assoc _ _ _))⟩))); try go_wp2_with (first | (go_at_call 25; (with_reducible refine (numnahref08_Term.calls k1 ((rd_T94 l0 x3_1).f0) true _ A5.out).mono ?_); rintro e w' ⟨rfl, ⟨nd, rfl⟩⟩; (try first | exact ⟨rfl, _, World.drewN_drewN _ _ _⟩ | exact ⟨rfl, _, Eq.trans (World.drewN_drewN _ _ _) (congrArg (World.drewN _) (Nat.add_assoc _ _ _))⟩)) | (go_at_call 25; (with_reducible refine (numnahref08_Term.calls k1 ((rd_T94 l0 x3_1).f1) true _ A7.out).mono ?_); rintro e w' ⟨rfl, ⟨nd, rfl⟩⟩; (try first | exact ⟨rfl, _, World.drewN_drewN _ _ _⟩ | exact ⟨rfl, _, Eq.trans (World.drewN_drewN _ _ _) (congrArg (World.drewN _) (Nat.add_assoc _ _ _))⟩)) | (go_at_call 26; (with_reducible refine (numnahref08_Size.calls k1 ((rd_T94 l0 x3_1).f0) t220 _ A9.out).mono ?_); rintro e w' ⟨rfl, ⟨nd, rfl⟩⟩; (try first | exact ⟨rfl, _, World.drewN_drewN _ _ _⟩ | exact ⟨rfl, _, Eq.trans (World.drewN_drewN _ _ _) (congrArg (World.drewN _) (Nat.add_assoc _ _ _))⟩))))
         go_meet
         case rel => exact ⟨_, (true), tS_, H', ⟨by have := HK1.out; first | omega | exact Nat.le_refl _⟩, by repeat (first | exact Drawn0.refl _ | apply Drawn0.step)⟩
        ·rw [if_neg c10] at H
         have c10b0 : decide (12 < t220) = false := decide_eq_false c10
         clear c10
         (first | rw [c10b0] | (simp only [i64_w, i32_w]; rw [c10b0]) | skip)
         replace H := Option.bind_eq_some_iff.mp H
         obtain ⟨t221, A110, H⟩ := H
         replace H : (if t221 > 12 then (numnahref08_Rules.j1 k1 l0 x3_1 ((rd_T94 l0 x3_1).f0) ((rd_T94 l0 x3_1).f1) true) else (if 0 < (((rd_T94 l0 x3_1).f0).size : Int) then ((numnahref08_Variable.f (bt ((rd_T94 l0 x3_1).f0) 0)).bind fun t222 => (numnahref08_Rules.j1 k1 l0 x3_1 ((rd_T94 l0 x3_1).f0) ((rd_T94 l0 x3_1).f1) t222)) else (none))) = some r := H
         have A11 := Aside0.mk A110
         clear A110
         by_cases c12 : t221 > 12
         ·rw [if_pos c12] at H
          have c12b0 : decide (12 < t221) = true := decide_eq_true c12
          clear c12
          have H' := Aside0.mk H
          clear H
          go_wp2_with (first | (go_at_call 25; (with_reducible refine (numnahref08_Term.calls k1 ((rd_T94 l0 x3_1).f0) true _ A5.out).mono ?_); rintro e w' ⟨rfl, ⟨nd, rfl⟩⟩; (try first | exact ⟨rfl, _, World.drewN_drewN _ _ _⟩ | exact ⟨rfl, _, Eq.trans (World.drewN_drewN _ _ _) (congrArg (World.drewN _) (Nat.add_assoc _ _ _))⟩)) | (go_at_call 25; (with_reducible refine (numnahref08_Term.calls k1 ((rd_T94 l0 x3_1).f1) true _ A7.out).mono ?_); rintro e w' ⟨rfl, ⟨nd, rfl⟩⟩; (try first | exact ⟨rfl, _, World.drewN_drewN _ _ _⟩ | exact ⟨rfl, _, Eq.trans (World.drewN_drewN _ _ _) (congrArg (World.drewN _) (Nat.add_assoc _ _ _))⟩)) | (go_at_call 26; (with_reducible refine (numnahref08_Size.calls k1 ((rd_T94 l0 x3_1).f0) t220 _ A9.out).mono ?_); rintro e w' ⟨rfl, ⟨nd, rfl⟩⟩; (try first | exact ⟨rfl, _, World.drewN_drewN _ _ _⟩ | exact ⟨rfl, _, Eq.trans (World.drewN_drewN _ _ _) (congrArg (World.drewN _) (Nat.add_assoc _ _ _))⟩)) | (go_at_call 26; (with_reducible refine (numnahref08_Size.calls k1 ((rd_T94 l0 x3_1).f1) t221 _ A11.out).mono ?_); rintro e w' ⟨rfl, ⟨nd, rfl⟩⟩; (try first | exact ⟨rfl, _, World.drewN_drewN _ _ _⟩ | exact ⟨rfl, _, Eq.trans (World.drewN_drewN _ _ _) (congrArg (World.drewN _) (Nat.add_assoc _ _ _))⟩)))
          repeat (go_quiet (first | (go_at_call 25; (with_reducible refine (numnahref08_Term.calls k1 ((rd_T94 l0 x3_1).f0) true _ A5.out).mono ?_); rintro e w' ⟨rfl, ⟨nd, rfl⟩⟩; (try first | exact ⟨rfl, _, World.drewN_drewN _ _ _⟩ | exact ⟨rfl, _, Eq.trans (World.drewN_drewN _ _ _) (congrArg (World.drewN _) (Nat.add_assoc _ _ _))⟩)) | (go_at_call 25; (with_reducible refine (numnahref08_Term.calls k1 ((rd_T94 l0 x3_1).f1) true _ A7.out).mono ?_); rintro e w' ⟨rfl, ⟨nd, rfl⟩⟩; (try first | exact ⟨rfl, _, World.drewN_drewN _ _ _⟩ | exact ⟨rfl, _, Eq.trans (World.drewN_drewN _ _ _) (congrArg (World.drewN _) (Nat.add_assoc _ _ _))⟩)) | (go_at_call 26; (with_reducible refine (numnahref08_Size.calls k1 ((rd_T94 l0 x3_1).f0) t220 _ A9.out).mono ?_); rintro e w' ⟨rfl, ⟨nd, rfl⟩⟩; (try first | exact ⟨rfl, _, World.drewN_drewN _ _ _⟩ | exact ⟨rfl, _, Eq.trans (World.drewN_drewN _ _ _) (congrArg (World.drewN _) (Nat.add_assoc _ _ _))⟩)) | (go_at_call 26; (with_reducible refine (numnahref08_Size.calls k1 ((rd_T94 l0 x3_1).f1) t221 _ A11.out).mono ?_); rintro e w' ⟨rfl, ⟨nd, rfl⟩⟩; (try first | exact ⟨rfl, _, World.drewN_drewN _ _ _⟩ | exact ⟨rfl, _, Eq.trans (World.drewN_drewN _ _ _) (congrArg (World.drewN _) (Nat.add_assoc _ _ _))⟩))); try go_wp2_with (first | (go_at_call 25; (with_reducible refine (numnahref08_Term.calls k1 ((rd_T94 l0 x3_1).f0) true _ A5.out).mono ?_); rintro e w' ⟨rfl, ⟨nd, rfl⟩⟩; (try first | exact ⟨rfl, _, World.drewN_drewN _ _ _⟩ | exact ⟨rfl, _, Eq.trans (World.drewN_drewN _ _ _) (congrArg (World.drewN _) (Nat.add_assoc _ _ _))⟩)) | (go_at_call 25; (with_reducible refine (numnahref08_Term.calls k1 ((rd_T94 l0 x3_1).f1) true _ A7.out).mono ?_); rintro e w' ⟨rfl, ⟨nd, rfl⟩⟩; (try first | exact ⟨rfl, _, World.drewN_drewN _ _ _⟩ | exact ⟨rfl, _, Eq.trans (World.drewN_drewN _ _ _) (congrArg (World.drewN _) (Nat.add_assoc _ _ _))⟩)) | (go_at_call 26; (with_reducible refine (numnahref08_Size.calls k1 ((rd_T94 l0 x3_1).f0) t220 _ A9.out).mono ?_); rintro e w' ⟨rfl, ⟨nd, rfl⟩⟩; (try first | exact ⟨rfl, _, World.drewN_drewN _ _ _⟩ | exact ⟨rfl, _, Eq.trans (World.drewN_drewN _ _ _) (congrArg (World.drewN _) (Nat.add_assoc _ _ _))⟩)) | (go_at_call 26; (with_reducible refine (numnahref08_Size.calls k1 ((rd_T94 l0 x3_1).f1) t221 _ A11.out).mono ?_); rintro e w' ⟨rfl, ⟨nd, rfl⟩⟩; (try first | exact ⟨rfl, _, World.drewN_drewN _ _ _⟩ | exact ⟨rfl, _, Eq.trans (World.drewN_drewN _ _ _) (congrArg (World.drewN _) (Nat.add_assoc _ _ _))⟩))))
          go_meet
          case rel => exact ⟨_, (true), tS_, H', ⟨by have := HK1.out; first | omega | exact Nat.le_refl _⟩, by repeat (first | exact Drawn0.refl _ | apply Drawn0.step)⟩
         ·rw [if_neg c12] at H
          have c12b0 : decide (12 < t221) = false := decide_eq_false c12
          clear c12
          by_cases c13 : 0 < (((rd_T94 l0 x3_1).f0).size : Int)
          ·rw [if_pos c13] at H
           have c13b0 : decide (0 < (((rd_T94 l0 x3_1).f0).size : Int)) = true := decide_eq_true c13
           have c13b1 : decide (0 < ((rd_T94 l0 x3_1).f0).size) = true := decide_eq_true (by omega)
           clear c13
           replace H := Option.bind_eq_some_iff.mp H
           obtain ⟨t222, A150, H⟩ := H
           replace H : (numnahref08_Rules.j1 k1 l0 x3_1 ((rd_T94 l0 x3_1).f0) ((rd_T94 l0 x3_1).f1) t222) = some r := H
           have A15 := Aside0.mk A150
           clear A150
           have H' := Aside0.mk H
           clear H
           go_wp2_with (first | (go_at_call 25; (with_reducible refine (numnahref08_Term.calls k1 ((rd_T94 l0 x3_1).f0) true _ A5.out).mono ?_); rintro e w' ⟨rfl, ⟨nd, rfl⟩⟩; (try first | exact ⟨rfl, _, World.drewN_drewN _ _ _⟩ | exact ⟨rfl, _, Eq.trans (World.drewN_drewN _ _ _) (congrArg (World.drewN _) (Nat.add_assoc _ _ _))⟩)) | (go_at_call 25; (with_reducible refine (numnahref08_Term.calls k1 ((rd_T94 l0 x3_1).f1) true _ A7.out).mono ?_); rintro e w' ⟨rfl, ⟨nd, rfl⟩⟩; (try first | exact ⟨rfl, _, World.drewN_drewN _ _ _⟩ | exact ⟨rfl, _, Eq.trans (World.drewN_drewN _ _ _) (congrArg (World.drewN _) (Nat.add_assoc _ _ _))⟩)) | (go_at_call 26; (with_reducible refine (numnahref08_Size.calls k1 ((rd_T94 l0 x3_1).f0) t220 _ A9.out).mono ?_); rintro e w' ⟨rfl, ⟨nd, rfl⟩⟩; (try first | exact ⟨rfl, _, World.drewN_drewN _ _ _⟩ | exact ⟨rfl, _, Eq.trans (World.drewN_drewN _ _ _) (congrArg (World.drewN _) (Nat.add_assoc _ _ _))⟩)) | (go_at_call 26; (with_reducible refine (numnahref08_Size.calls k1 ((rd_T94 l0 x3_1).f1) t221 _ A11.out).mono ?_); rintro e w' ⟨rfl, ⟨nd, rfl⟩⟩; (try first | exact ⟨rfl, _, World.drewN_drewN _ _ _⟩ | exact ⟨rfl, _, Eq.trans (World.drewN_drewN _ _ _) (congrArg (World.drewN _) (Nat.add_assoc _ _ _))⟩); have p14 : 0 ≤ (0 : Int) := (by omega); have q14 : 0 < ((rd_T94 l0 x3_1).f0).size := (by have : (0 : Int) < (((rd_T94 l0 x3_1).f0).size : Int) := of_decide_eq_true tA_; omega); have hx14 : ∀ h : 0 < ((rd_T94 l0 x3_1).f0).size, ((((rd_T94 l0 x3_1).f0)[0]'h).toNat : Int) = bt ((rd_T94 l0 x3_1).f0) 0 := bt_at ((rd_T94 l0 x3_1).f0) 0; clear p14; have qi14 : (0 < (((rd_T94 l0 x3_1).f0).size : Int)) = True := eq_true (of_decide_eq_true tA_); replace q14 := eq_true q14) | (go_at_call 74; (with_reducible refine (numnahref08_Variable.calls (bt ((rd_T94 l0 x3_1).f0) 0) t222 _ A15.out).mono ?_); rintro e w' ⟨rfl, ⟨nd, rfl⟩⟩; (try first | exact ⟨rfl, _, World.drewN_drewN _ _ _⟩ | exact ⟨rfl, _, Eq.trans (World.drewN_drewN _ _ _) (congrArg (World.drewN _) (Nat.add_assoc _ _ _))⟩)))
           repeat (go_quiet (first | (go_at_call 25; (with_reducible refine (numnahref08_Term.calls k1 ((rd_T94 l0 x3_1).f0) true _ A5.out).mono ?_); rintro e w' ⟨rfl, ⟨nd, rfl⟩⟩; (try first | exact ⟨rfl, _, World.drewN_drewN _ _ _⟩ | exact ⟨rfl, _, Eq.trans (World.drewN_drewN _ _ _) (congrArg (World.drewN _) (Nat.add_assoc _ _ _))⟩)) | (go_at_call 25; (with_reducible refine (numnahref08_Term.calls k1 ((rd_T94 l0 x3_1).f1) true _ A7.out).mono ?_); rintro e w' ⟨rfl, ⟨nd, rfl⟩⟩; (try first | exact ⟨rfl, _, World.drewN_drewN _ _ _⟩ | exact ⟨rfl, _, Eq.trans (World.drewN_drewN _ _ _) (congrArg (World.drewN _) (Nat.add_assoc _ _ _))⟩)) | (go_at_call 26; (with_reducible refine (numnahref08_Size.calls k1 ((rd_T94 l0 x3_1).f0) t220 _ A9.out).mono ?_); rintro e w' ⟨rfl, ⟨nd, rfl⟩⟩; (try first | exact ⟨rfl, _, World.drewN_drewN _ _ _⟩ | exact ⟨rfl, _, Eq.trans (World.drewN_drewN _ _ _) (congrArg (World.drewN _) (Nat.add_assoc _ _ _))⟩)) | (go_at_call 26; (with_reducible refine (numnahref08_Size.calls k1 ((rd_T94 l0 x3_1).f1) t221 _ A11.out).mono ?_); rintro e w' ⟨rfl, ⟨nd, rfl⟩⟩; (try first | exact ⟨rfl, _, World.drewN_drewN _ _ _⟩ | exact ⟨rfl, _, Eq.trans (World.drewN_drewN _ _ _) (congrArg (World.drewN _) (Nat.add_assoc _ _ _))⟩); have p14 : 0 ≤ (0 : Int) := (by omega); have q14 : 0 < ((rd_T94 l0 x3_1).f0).size := (by have : (0 : Int) < (((rd_T94 l0 x3_1).f0).size : Int) := of_decide_eq_true tA_; omega); have hx14 : ∀ h : 0 < ((rd_T94 l0 x3_1).f0).size, ((((rd_T94 l0 x3_1).f0)[0]'h).toNat : Int) = bt ((rd_T94 l0 x3_1).f0) 0 := bt_at ((rd_T94 l0 x3_1).f0) 0; clear p14; have qi14 : (0 < (((rd_T94 l0 x3_1).f0).size : Int)) = True := eq_true (of_decide_eq_true tA_); replace q14 := eq_true q14) | (go_at_call 74; (with_reducible refine (numnahref08_Variable.calls (bt ((rd_T94 l0 x3_1).f0) 0) t222 _ A15.out).mono ?_); rintro e w' ⟨rfl, ⟨nd, rfl⟩⟩; (try first | exact ⟨rfl, _, World.drewN_drewN _ _ _⟩ | exact ⟨rfl, _, Eq.trans (World.drewN_drewN _ _ _) (congrArg (World.drewN _) (Nat.add_assoc _ _ _))⟩))); try go_wp2_with (first | (go_at_call 25; (with_reducible refine (numnahref08_Term.calls k1 ((rd_T94 l0 x3_1).f0) true _ A5.out).mono ?_); rintro e w' ⟨rfl, ⟨nd, rfl⟩⟩; (try first | exact ⟨rfl, _, World.drewN_drewN _ _ _⟩ | exact ⟨rfl, _, Eq.trans (World.drewN_drewN _ _ _) (congrArg (World.drewN _) (Nat.add_assoc _ _ _))⟩)) | (go_at_call 25; (with_reducible refine (numnahref08_Term.calls k1 ((rd_T94 l0 x3_1).f1) true _ A7.out).mono ?_); rintro e w' ⟨rfl, ⟨nd, rfl⟩⟩; (try first | exact ⟨rfl, _, World.drewN_drewN _ _ _⟩ | exact ⟨rfl, _, Eq.trans (World.drewN_drewN _ _ _) (congrArg (World.drewN _) (Nat.add_assoc _ _ _))⟩)) | (go_at_call 26; (with_reducible refine (numnahref08_Size.calls k1 ((rd_T94 l0 x3_1).f0) t220 _ A9.out).mono ?_); rintro e w' ⟨rfl, ⟨nd, rfl⟩⟩; (try first | exact ⟨rfl, _, World.drewN_drewN _ _ _⟩ | exact ⟨rfl, _, Eq.trans (World.drewN_drewN _ _ _) (congrArg (World.drewN _) (Nat.add_assoc _ _ _))⟩)) | (go_at_call 26; (with_reducible refine (numnahref08_Size.calls k1 ((rd_T94 l0 x3_1).f1) t221 _ A11.out).mono ?_); rintro e w' ⟨rfl, ⟨nd, rfl⟩⟩; (try first | exact ⟨rfl, _, World.drewN_drewN _ _ _⟩ | exact ⟨rfl, _, Eq.trans (World.drewN_drewN _ _ _) (congrArg (World.drewN _) (Nat.add_assoc _ _ _))⟩); have p14 : 0 ≤ (0 : Int) := (by omega); have q14 : 0 < ((rd_T94 l0 x3_1).f0).size := (by have : (0 : Int) < (((rd_T94 l0 x3_1).f0).size : Int) := of_decide_eq_true tA_; omega); have hx14 : ∀ h : 0 < ((rd_T94 l0 x3_1).f0).size, ((((rd_T94 l0 x3_1).f0)[0]'h).toNat : Int) = bt ((rd_T94 l0 x3_1).f0) 0 := bt_at ((rd_T94 l0 x3_1).f0) 0; clear p14; have qi14 : (0 < (((rd_T94 l0 x3_1).f0).size : Int)) = True := eq_true (of_decide_eq_true tA_); replace q14 := eq_true q14) | (go_at_call 74; (with_reducible refine (numnahref08_Variable.calls (bt ((rd_T94 l0 x3_1).f0) 0) t222 _ A15.out).mono ?_); rintro e w' ⟨rfl, ⟨nd, rfl⟩⟩; (try first | exact ⟨rfl, _, World.drewN_drewN _ _ _⟩ | exact ⟨rfl, _, Eq.trans (World.drewN_drewN _ _ _) (congrArg (World.drewN _) (Nat.add_assoc _ _ _))⟩))))
           go_meet
           case rel => exact ⟨_, (t222), tS_, H', ⟨by have := HK1.out; first | omega | exact Nat.le_refl _⟩, by repeat (first | exact Drawn0.refl _ | apply Drawn0.step)⟩
          ·rw [if_neg c13] at H
           exact absurd H (by simp)
       ·replace c8 := Bool.eq_false_iff.mpr c8
        subst c8
        have H1 : (numnahref08_Rules.j1 k1 l0 x3_1 ((rd_T94 l0 x3_1).f0) ((rd_T94 l0 x3_1).f1) true) = some r := by rw [if_neg (show ¬ (false = true) by decide)] at H; exact H
        clear H
        have H := H1
        clear H1
        have H' := Aside0.mk H
        clear H
        go_wp2_with (first | (go_at_call 25; (with_reducible refine (numnahref08_Term.calls k1 ((rd_T94 l0 x3_1).f0) true _ A5.out).mono ?_); rintro e w' ⟨rfl, ⟨nd, rfl⟩⟩; (try first | exact ⟨rfl, _, World.drewN_drewN _ _ _⟩ | exact ⟨rfl, _, Eq.trans (World.drewN_drewN _ _ _) (congrArg (World.drewN _) (Nat.add_assoc _ _ _))⟩)) | (go_at_call 25; (with_reducible refine (numnahref08_Term.calls k1 ((rd_T94 l0 x3_1).f1) false _ A7.out).mono ?_); rintro e w' ⟨rfl, ⟨nd, rfl⟩⟩; (try first | exact ⟨rfl, _, World.drewN_drewN _ _ _⟩ | exact ⟨rfl, _, Eq.trans (World.drewN_drewN _ _ _) (congrArg (World.drewN _) (Nat.add_assoc _ _ _))⟩)))
        repeat (go_quiet (first | (go_at_call 25; (with_reducible refine (numnahref08_Term.calls k1 ((rd_T94 l0 x3_1).f0) true _ A5.out).mono ?_); rintro e w' ⟨rfl, ⟨nd, rfl⟩⟩; (try first | exact ⟨rfl, _, World.drewN_drewN _ _ _⟩ | exact ⟨rfl, _, Eq.trans (World.drewN_drewN _ _ _) (congrArg (World.drewN _) (Nat.add_assoc _ _ _))⟩)) | (go_at_call 25; (with_reducible refine (numnahref08_Term.calls k1 ((rd_T94 l0 x3_1).f1) false _ A7.out).mono ?_); rintro e w' ⟨rfl, ⟨nd, rfl⟩⟩; (try first | exact ⟨rfl, _, World.drewN_drewN _ _ _⟩ | exact ⟨rfl, _, Eq.trans (World.drewN_drewN _ _ _) (congrArg (World.drewN _) (Nat.add_assoc _ _ _))⟩))); try go_wp2_with (first | (go_at_call 25; (with_reducible refine (numnahref08_Term.calls k1 ((rd_T94 l0 x3_1).f0) true _ A5.out).mono ?_); rintro e w' ⟨rfl, ⟨nd, rfl⟩⟩; (try first | exact ⟨rfl, _, World.drewN_drewN _ _ _⟩ | exact ⟨rfl, _, Eq.trans (World.drewN_drewN _ _ _) (congrArg (World.drewN _) (Nat.add_assoc _ _ _))⟩)) | (go_at_call 25; (with_reducible refine (numnahref08_Term.calls k1 ((rd_T94 l0 x3_1).f1) false _ A7.out).mono ?_); rintro e w' ⟨rfl, ⟨nd, rfl⟩⟩; (try first | exact ⟨rfl, _, World.drewN_drewN _ _ _⟩ | exact ⟨rfl, _, Eq.trans (World.drewN_drewN _ _ _) (congrArg (World.drewN _) (Nat.add_assoc _ _ _))⟩))))
        go_meet
        case rel => exact ⟨_, (true), tS_, H', ⟨by have := HK1.out; first | omega | exact Nat.le_refl _⟩, by repeat (first | exact Drawn0.refl _ | apply Drawn0.step)⟩
      ·replace c6 := Bool.eq_false_iff.mpr c6
       subst c6
       have H1 : (numnahref08_Rules.j1 k1 l0 x3_1 ((rd_T94 l0 x3_1).f0) ((rd_T94 l0 x3_1).f1) true) = some r := by rw [if_neg (show ¬ (false = true) by decide)] at H; exact H
       clear H
       have H := H1
       clear H1
       have H' := Aside0.mk H
       clear H
       go_wp2_with (first | (go_at_call 25; (with_reducible refine (numnahref08_Term.calls k1 ((rd_T94 l0 x3_1).f0) false _ A5.out).mono ?_); rintro e w' ⟨rfl, ⟨nd, rfl⟩⟩; (try first | exact ⟨rfl, _, World.drewN_drewN _ _ _⟩ | exact ⟨rfl, _, Eq.trans (World.drewN_drewN _ _ _) (congrArg (World.drewN _) (Nat.add_assoc _ _ _))⟩)))
       repeat (go_quiet (first | (go_at_call 25; (with_reducible refine (numnahref08_Term.calls k1 ((rd_T94 l0 x3_1).f0) false _ A5.out).mono ?_); rintro e w' ⟨rfl, ⟨nd, rfl⟩⟩; (try first | exact ⟨rfl, _, World.drewN_drewN _ _ _⟩ | exact ⟨rfl, _, Eq.trans (World.drewN_drewN _ _ _) (congrArg (World.drewN _) (Nat.add_assoc _ _ _))⟩))); try go_wp2_with (first | (go_at_call 25; (with_reducible refine (numnahref08_Term.calls k1 ((rd_T94 l0 x3_1).f0) false _ A5.out).mono ?_); rintro e w' ⟨rfl, ⟨nd, rfl⟩⟩; (try first | exact ⟨rfl, _, World.drewN_drewN _ _ _⟩ | exact ⟨rfl, _, Eq.trans (World.drewN_drewN _ _ _) (congrArg (World.drewN _) (Nat.add_assoc _ _ _))⟩))))
       go_meet
       case rel => exact ⟨_, (true), tS_, H', ⟨by have := HK1.out; first | omega | exact Nat.le_refl _⟩, by repeat (first | exact Drawn0.refl _ | apply Drawn0.step)⟩
     case rest =>
      clear HC4
      try clear c1
      try clear p1
      try clear q1
      try clear hx1
      try clear qi1
      try clear c2
      try clear c2b0
      try clear p2
      try clear q2
      try clear hx2
      try clear c3
      try clear c3b0
      try clear c6
      try clear c8
      try clear c10
      try clear c10b0
      try clear c12
      try clear c12b0
      try clear c13
      try clear c13b0
      try clear c13b1
      try clear p14
      try clear q14
      try clear hx14
      try clear qi14
      try clear hx216_0
      try clear hx216_1
      try clear hx217_0
      try clear hx217_1
      try clear p14
      try clear p216
      try clear p217
      try clear q14
      try clear q216
      try clear q217
      obtain ⟨kq, x45_3, rfl, HA, HJ3, ⟨mc3, rfl⟩⟩ := hcut
      cases kq with
      | zero => exact absurd HA.out (by simp [numnahref08_Rules.j1])
      | succ kj3 =>
       have H := HA.out
       clear HA
       simp only [numnahref08_Rules.j1] at H
       by_cases c16 : x45_3 = true
       ·subst c16
        have H1 : (some false) = some r := by rw [if_pos rfl] at H; exact H
        clear H
        have H := H1
        clear H1
        obtain rfl := Option.some.inj H
        go_wp2
        repeat (go_quiet (fail); try go_wp2)
        go_ret
        exact ⟨by first | rfl | (simp; done) | (simp [*]; done), by repeat (first | exact Drawn0.refl _ | apply Drawn0.step)⟩
       ·replace c16 := Bool.eq_false_iff.mpr c16
        subst c16
        have H1 : (numnahref08_Rules.l1 kj3 l0 x3_1 ((rd_T94 l0 x3_1).f0) ((rd_T94 l0 x3_1).f1) 0) = some r := by rw [if_neg (show ¬ (false = true) by decide)] at H; exact H
        clear H
        have H := H1
        clear H1
        have H' := Aside0.mk H
        clear H
        go_wp2
        repeat (go_quiet (fail); try go_wp2)
        go_loopg [6] kj3 (fun kq v6 w' => ∃ (x6_3 : Int), v6 = .int .i64 x6_3 ∧ Aside0 (numnahref08_Rules.l1 kq l0 x3_1 ((rd_T94 l0 x3_1).f0) ((rd_T94 l0 x3_1).f1) x6_3 = some r) ∧ Aside0 (kq ≤ kj3) ∧ Drawn0 w w')
        case atStart => exact ⟨(0), tS_, H', ⟨Nat.le_refl _⟩, by repeat (first | exact Drawn0.refl _ | apply Drawn0.step)⟩
        case round =>
         clear H'
         try clear c1
         try clear p1
         try clear q1
         try clear hx1
         try clear qi1
         try clear c2
         try clear c2b0
         try clear p2
         try clear q2
         try clear hx2
         try clear c3
         try clear c3b0
         try clear c6
         try clear c8
         try clear c10
         try clear c10b0
         try clear c12
         try clear c12b0
         try clear c13
         try clear c13b0
         try clear c13b1
         try clear p14
         try clear q14
         try clear hx14
         try clear qi14
         try clear c16
         try clear hx216_0
         try clear hx216_1
         try clear hx217_0
         try clear hx217_1
         try clear p1
         try clear p14
         try clear p2
         try clear p216
         try clear p217
         try clear q1
         try clear q14
         try clear q2
         try clear q216
         try clear q217
         obtain ⟨x6_3, rfl, HA, HK3, ⟨m3, rfl⟩⟩ := hrel
         cases gk with
         | zero => exact absurd HA.out (by simp [numnahref08_Rules.l1])
         | succ k3 =>
          have H := HA.out
          clear HA
          simp only [numnahref08_Rules.l1] at H
          by_cases c17 : x6_3 < (((rd_T94 l0 x3_1).f1).size : Int)
          ·rw [if_pos c17] at H
           have c17b0 : decide (x6_3 < (((rd_T94 l0 x3_1).f1).size : Int)) = true := decide_eq_true c17
           clear c17
           by_cases c18 : 0 ≤ x6_3
           ·rw [if_pos c18] at H
            have c18b0 : decide (0 ≤ x6_3) = true := decide_eq_true c18
            clear c18
            replace H := Option.bind_eq_some_iff.mp H
            obtain ⟨t223, A200, H⟩ := H
            replace H : (if t223 = true then ((numnahref08_occurs.f k3 (bt ((rd_T94 l0 x3_1).f1) x6_3) ((rd_T94 l0 x3_1).f0)).bind fun t224 => (if t224 = true then (numnahref08_Rules.l1 k3 l0 x3_1 ((rd_T94 l0 x3_1).f0) ((rd_T94 l0 x3_1).f1) (wrap64 (x6_3 + 1))) else (some false))) else (numnahref08_Rules.l1 k3 l0 x3_1 ((rd_T94 l0 x3_1).f0) ((rd_T94 l0 x3_1).f1) (wrap64 (x6_3 + 1)))) = some r := H
            have A20 := Aside0.mk A200
            clear A200
            by_cases c21 : t223 = true
            ·subst c21
             have H1 : ((numnahref08_occurs.f k3 (bt ((rd_T94 l0 x3_1).f1) x6_3) ((rd_T94 l0 x3_1).f0)).bind fun t224 => (if t224 = true then (numnahref08_Rules.l1 k3 l0 x3_1 ((rd_T94 l0 x3_1).f0) ((rd_T94 l0 x3_1).f1) (wrap64 (x6_3 + 1))) else (some false))) = some r := by rw [if_pos rfl] at H; exact H
             clear H
             have H := H1
             clear H1
             replace H := Option.bind_eq_some_iff.mp H
             obtain ⟨t224, A230, H⟩ := H
             replace H : (if t224 = true then (numnahref08_Rules.l1 k3 l0 x3_1 ((rd_T94 l0 x3_1).f0) ((rd_T94 l0 x3_1).f1) (wrap64 (x6_3 + 1))) else (some false)) = some r := H
             have A23 := Aside0.mk A230
             clear A230
             by_cases c24 : t224 = true
             ·subst c24
              have H1 : (numnahref08_Rules.l1 k3 l0 x3_1 ((rd_T94 l0 x3_1).f0) ((rd_T94 l0 x3_1).f1) (wrap64 (x6_3 + 1))) = some r := by rw [if_pos rfl] at H; exact H
              clear H
              have H := H1
              clear H1
              have H' := Aside0.mk H
              clear H
              have p19 : 0 ≤ (x6_3 : Int) := of_decide_eq_true tA_
              have q19 : x6_3 < (((rd_T94 l0 x3_1).f1).size : Int) := of_decide_eq_true tA_
              have hx19 := bt_at ((rd_T94 l0 x3_1).f1) x6_3
              replace p19 := eq_true p19
              replace q19 := eq_true q19
              go_wp2_with (first | (go_at_call 74; (with_reducible refine (numnahref08_Variable.calls (bt ((rd_T94 l0 x3_1).f1) x6_3) true _ A20.out).mono ?_); rintro e w' ⟨rfl, ⟨nd, rfl⟩⟩; (try first | exact ⟨rfl, _, World.drewN_drewN _ _ _⟩ | exact ⟨rfl, _, Eq.trans (World.drewN_drewN _ _ _) (congrArg (World.drewN _) (Nat.add_assoc _ _ _))⟩); have p22 : 0 ≤ (x6_3 : Int) := of_decide_eq_true tA_; have q22 : x6_3 < (((rd_T94 l0 x3_1).f1).size : Int) := of_decide_eq_true tA_; have hx22 := bt_at ((rd_T94 l0 x3_1).f1) x6_3; replace p22 := eq_true p22; replace q22 := eq_true q22) | (go_at_call 80; (with_reducible refine (numnahref08_occurs.calls k3 (bt ((rd_T94 l0 x3_1).f1) x6_3) ((rd_T94 l0 x3_1).f0) true _ A23.out).mono ?_); rintro e w' ⟨rfl, ⟨nd, rfl⟩⟩; (try first | exact ⟨rfl, _, World.drewN_drewN _ _ _⟩ | exact ⟨rfl, _, Eq.trans (World.drewN_drewN _ _ _) (congrArg (World.drewN _) (Nat.add_assoc _ _ _))⟩)))
              repeat (go_quiet (first | (go_at_call 74; (with_reducible refine (numnahref08_Variable.calls (bt ((rd_T94 l0 x3_1).f1) x6_3) true _ A20.out).mono ?_); rintro e w' ⟨rfl, ⟨nd, rfl⟩⟩; (try first | exact ⟨rfl, _, World.drewN_drewN _ _ _⟩ | exact ⟨rfl, _, Eq.trans (World.drewN_drewN _ _ _) (congrArg (World.drewN _) (Nat.add_assoc _ _ _))⟩); have p22 : 0 ≤ (x6_3 : Int) := of_decide_eq_true tA_; have q22 : x6_3 < (((rd_T94 l0 x3_1).f1).size : Int) := of_decide_eq_true tA_; have hx22 := bt_at ((rd_T94 l0 x3_1).f1) x6_3; replace p22 := eq_true p22; replace q22 := eq_true q22) | (go_at_call 80; (with_reducible refine (numnahref08_occurs.calls k3 (bt ((rd_T94 l0 x3_1).f1) x6_3) ((rd_T94 l0 x3_1).f0) true _ A23.out).mono ?_); rintro e w' ⟨rfl, ⟨nd, rfl⟩⟩; (try first | exact ⟨rfl, _, World.drewN_drewN _ _ _⟩ | exact ⟨rfl, _, Eq.trans (World.drewN_drewN _ _ _) (congrArg (World.drewN _) (Nat.add_assoc _ _ _))⟩))); try go_wp2_with (first | (go_at_call 74; (with_reducible refine (numnahref08_Variable.calls (bt ((rd_T94 l0 x3_1).f1) x6_3) true _ A20.out).mono ?_); rintro e w' ⟨rfl, ⟨nd, rfl⟩⟩; (try first | exact ⟨rfl, _, World.drewN_drewN _ _ _⟩ | exact ⟨rfl, _, Eq.trans (World.drewN_drewN _ _ _) (congrArg (World.drewN _) (Nat.add_assoc _ _ _))⟩); have p22 : 0 ≤ (x6_3 : Int) := of_decide_eq_true tA_; have q22 : x6_3 < (((rd_T94 l0 x3_1).f1).size : Int) := of_decide_eq_true tA_; have hx22 := bt_at ((rd_T94 l0 x3_1).f1) x6_3; replace p22 := eq_true p22; replace q22 := eq_true q22) | (go_at_call 80; (with_reducible refine (numnahref08_occurs.calls k3 (bt ((rd_T94 l0 x3_1).f1) x6_3) ((rd_T94 l0 x3_1).f0) true _ A23.out).mono ?_); rintro e w' ⟨rfl, ⟨nd, rfl⟩⟩; (try first | exact ⟨rfl, _, World.drewN_drewN _ _ _⟩ | exact ⟨rfl, _, Eq.trans (World.drewN_drewN _ _ _) (congrArg (World.drewN _) (Nat.add_assoc _ _ _))⟩))))
              go_roundg k3
              case measure => have := HK1.out; have := HJ3.out; have := HK3.out; omega
              case rel => exact ⟨(wrap64 (x6_3 + 1)), tS_, H', ⟨by have := HK1.out; have := HJ3.out; have := HK3.out; omega⟩, by repeat (first | exact Drawn0.refl _ | apply Drawn0.step)⟩
             ·replace c24 := Bool.eq_false_iff.mpr c24
              subst c24
              have H1 : (some false) = some r := by rw [if_neg (show ¬ (false = true) by decide)] at H; exact H
              clear H
              have H := H1
              clear H1
              obtain rfl := Option.some.inj H
              have p19 : 0 ≤ (x6_3 : Int) := of_decide_eq_true tA_
              have q19 : x6_3 < (((rd_T94 l0 x3_1).f1).size : Int) := of_decide_eq_true tA_
              have hx19 := bt_at ((rd_T94 l0 x3_1).f1) x6_3
              replace p19 := eq_true p19
              replace q19 := eq_true q19
              go_wp2_with (first | (go_at_call 74; (with_reducible refine (numnahref08_Variable.calls (bt ((rd_T94 l0 x3_1).f1) x6_3) true _ A20.out).mono ?_); rintro e w' ⟨rfl, ⟨nd, rfl⟩⟩; (try first | exact ⟨rfl, _, World.drewN_drewN _ _ _⟩ | exact ⟨rfl, _, Eq.trans (World.drewN_drewN _ _ _) (congrArg (World.drewN _) (Nat.add_assoc _ _ _))⟩); have p22 : 0 ≤ (x6_3 : Int) := of_decide_eq_true tA_; have q22 : x6_3 < (((rd_T94 l0 x3_1).f1).size : Int) := of_decide_eq_true tA_; have hx22 := bt_at ((rd_T94 l0 x3_1).f1) x6_3; replace p22 := eq_true p22; replace q22 := eq_true q22) | (go_at_call 80; (with_reducible refine (numnahref08_occurs.calls k3 (bt ((rd_T94 l0 x3_1).f1) x6_3) ((rd_T94 l0 x3_1).f0) false _ A23.out).mono ?_); rintro e w' ⟨rfl, ⟨nd, rfl⟩⟩; (try first | exact ⟨rfl, _, World.drewN_drewN _ _ _⟩ | exact ⟨rfl, _, Eq.trans (World.drewN_drewN _ _ _) (congrArg (World.drewN _) (Nat.add_assoc _ _ _))⟩)))
              repeat (go_quiet (first | (go_at_call 74; (with_reducible refine (numnahref08_Variable.calls (bt ((rd_T94 l0 x3_1).f1) x6_3) true _ A20.out).mono ?_); rintro e w' ⟨rfl, ⟨nd, rfl⟩⟩; (try first | exact ⟨rfl, _, World.drewN_drewN _ _ _⟩ | exact ⟨rfl, _, Eq.trans (World.drewN_drewN _ _ _) (congrArg (World.drewN _) (Nat.add_assoc _ _ _))⟩); have p22 : 0 ≤ (x6_3 : Int) := of_decide_eq_true tA_; have q22 : x6_3 < (((rd_T94 l0 x3_1).f1).size : Int) := of_decide_eq_true tA_; have hx22 := bt_at ((rd_T94 l0 x3_1).f1) x6_3; replace p22 := eq_true p22; replace q22 := eq_true q22) | (go_at_call 80; (with_reducible refine (numnahref08_occurs.calls k3 (bt ((rd_T94 l0 x3_1).f1) x6_3) ((rd_T94 l0 x3_1).f0) false _ A23.out).mono ?_); rintro e w' ⟨rfl, ⟨nd, rfl⟩⟩; (try first | exact ⟨rfl, _, World.drewN_drewN _ _ _⟩ | exact ⟨rfl, _, Eq.trans (World.drewN_drewN _ _ _) (congrArg (World.drewN _) (Nat.add_assoc _ _ _))⟩))); try go_wp2_with (first | (go_at_call 74; (with_reducible refine (numnahref08_Variable.calls (bt ((rd_T94 l0 x3_1).f1) x6_3) true _ A20.out).mono ?_); rintro e w' ⟨rfl, ⟨nd, rfl⟩⟩; (try first | exact ⟨rfl, _, World.drewN_drewN _ _ _⟩ | exact ⟨rfl, _, Eq.trans (World.drewN_drewN _ _ _) (congrArg (World.drewN _) (Nat.add_assoc _ _ _))⟩); have p22 : 0 ≤ (x6_3 : Int) := of_decide_eq_true tA_; have q22 : x6_3 < (((rd_T94 l0 x3_1).f1).size : Int) := of_decide_eq_true tA_; have hx22 := bt_at ((rd_T94 l0 x3_1).f1) x6_3; replace p22 := eq_true p22; replace q22 := eq_true q22) | (go_at_call 80; (with_reducible refine (numnahref08_occurs.calls k3 (bt ((rd_T94 l0 x3_1).f1) x6_3) ((rd_T94 l0 x3_1).f0) false _ A23.out).mono ?_); rintro e w' ⟨rfl, ⟨nd, rfl⟩⟩; (try first | exact ⟨rfl, _, World.drewN_drewN _ _ _⟩ | exact ⟨rfl, _, Eq.trans (World.drewN_drewN _ _ _) (congrArg (World.drewN _) (Nat.add_assoc _ _ _))⟩))))
              go_ret
              exact ⟨by first | rfl | (simp; done) | (simp [*]; done), by repeat (first | exact Drawn0.refl _ | apply Drawn0.step)⟩
            ·replace c21 := Bool.eq_false_iff.mpr c21
             subst c21
             have H1 : (numnahref08_Rules.l1 k3 l0 x3_1 ((rd_T94 l0 x3_1).f0) ((rd_T94 l0 x3_1).f1) (wrap64 (x6_3 + 1))) = some r := by rw [if_neg (show ¬ (false = true) by decide)] at H; exact H
             clear H
             have H := H1
             clear H1
             have H' := Aside0.mk H
             clear H
             have p19 : 0 ≤ (x6_3 : Int) := of_decide_eq_true tA_
             have q19 : x6_3 < (((rd_T94 l0 x3_1).f1).size : Int) := of_decide_eq_true tA_
             have hx19 := bt_at ((rd_T94 l0 x3_1).f1) x6_3
             replace p19 := eq_true p19
             replace q19 := eq_true q19
             go_wp2_with (first | (go_at_call 74; (with_reducible refine (numnahref08_Variable.calls (bt ((rd_T94 l0 x3_1).f1) x6_3) false _ A20.out).mono ?_); rintro e w' ⟨rfl, ⟨nd, rfl⟩⟩; (try first | exact ⟨rfl, _, World.drewN_drewN _ _ _⟩ | exact ⟨rfl, _, Eq.trans (World.drewN_drewN _ _ _) (congrArg (World.drewN _) (Nat.add_assoc _ _ _))⟩)))
             repeat (go_quiet (first | (go_at_call 74; (with_reducible refine (numnahref08_Variable.calls (bt ((rd_T94 l0 x3_1).f1) x6_3) false _ A20.out).mono ?_); rintro e w' ⟨rfl, ⟨nd, rfl⟩⟩; (try first | exact ⟨rfl, _, World.drewN_drewN _ _ _⟩ | exact ⟨rfl, _, Eq.trans (World.drewN_drewN _ _ _) (congrArg (World.drewN _) (Nat.add_assoc _ _ _))⟩))); try go_wp2_with (first | (go_at_call 74; (with_reducible refine (numnahref08_Variable.calls (bt ((rd_T94 l0 x3_1).f1) x6_3) false _ A20.out).mono ?_); rintro e w' ⟨rfl, ⟨nd, rfl⟩⟩; (try first | exact ⟨rfl, _, World.drewN_drewN _ _ _⟩ | exact ⟨rfl, _, Eq.trans (World.drewN_drewN _ _ _) (congrArg (World.drewN _) (Nat.add_assoc _ _ _))⟩))))
             go_roundg k3
             case measure => have := HK1.out; have := HJ3.out; have := HK3.out; omega
             case rel => exact ⟨(wrap64 (x6_3 + 1)), tS_, H', ⟨by have := HK1.out; have := HJ3.out; have := HK3.out; omega⟩, by repeat (first | exact Drawn0.refl _ | apply Drawn0.step)⟩
           ·rw [if_neg c18] at H
            exact absurd H (by simp)
          ·rw [if_neg c17] at H
           have c17b0 : decide (x6_3 < (((rd_T94 l0 x3_1).f1).size : Int)) = false := decide_eq_false c17
           clear c17
           have H' := Aside0.mk H
           clear H
           go_wp2
           repeat (go_quiet (fail); try go_wp2)
           go_roundg k3
           case measure => have := HK1.out; have := HJ3.out; have := HK3.out; omega
           case rel => exact ⟨(wrap64 (x3_1 + 1)), tS_, H', ⟨by have := HK1.out; have := HJ3.out; have := HK3.out; omega⟩, by repeat (first | exact Drawn0.refl _ | apply Drawn0.step)⟩
    ·rw [if_neg c3] at H
     exact absurd H (by simp)
   ·rw [if_neg c2] at H
    have c2b0 : decide (x3_1 < (l0.length : Int)) = false := decide_eq_false c2
    clear c2
    obtain rfl := Option.some.inj H
    go_wp2
    repeat (go_quiet (fail); try go_wp2)
    go_ret
    exact ⟨by first | rfl | (simp; done) | (simp [*]; done), by repeat (first | exact Drawn0.refl _ | apply Drawn0.step)⟩

/-! ### numnahref08_insert: function 103 -/
def numnahref08_insert.l0 : Nat → List ByteArray → ByteArray → Int → Option (List ByteArray)
 | 0, _, _, _ => none
 | k + 1, x0, x1, x5 => if x5 < (x0.length : Int) then (if 0 ≤ x5 then (if (Op.bytesLess ((rdOf ByteArray.empty x0 x5).toList) x1.toList) = true then (numnahref08_insert.l0 k x0 x1 (wrap64 (x5 + 1))) else (if (rdOf ByteArray.empty x0 x5).toList = x1.toList then (some x0) else (if x5 ≤ (x0.length : Int) then ((some (x0.take (x5 : Int).toNat : List ByteArray)).bind fun y227 => (if ([] : List ByteArray).length + y227.length < 8796093022208 then ((some (([] : List ByteArray) ++ y227 : List ByteArray)).bind fun y231 => (if y231.length < 8796093022208 then ((some (y231 ++ [x1] : List ByteArray)).bind fun y234 => ((some (x0.drop (x5 : Int).toNat : List ByteArray)).bind fun y237 => (if y234.length + y237.length < 8796093022208 then (some (y234 ++ y237)) else (none)))) else (none))) else (none))) else (none)))) else (none)) else (if 0 ≤ x5 then (if x5 ≤ (x0.length : Int) then ((some (x0.take (x5 : Int).toNat : List ByteArray)).bind fun y244 => (if ([] : List ByteArray).length + y244.length < 8796093022208 then ((some (([] : List ByteArray) ++ y244 : List ByteArray)).bind fun y248 => (if y248.length < 8796093022208 then ((some (y248 ++ [x1] : List ByteArray)).bind fun y251 => ((some (x0.drop (x5 : Int).toNat : List ByteArray)).bind fun y254 => (if y251.length + y254.length < 8796093022208 then (some (y251 ++ y254)) else (none)))) else (none))) else (none))) else (none)) else (none))
def numnahref08_insert.f (k : Nat) (l0 : List ByteArray) (a1 : ByteArray) : Option (List ByteArray) := numnahref08_insert.l0 k l0 a1 0
theorem numnahref08_insert.mono_l : ∀ k, (∀ y0 y1 y2, LeO (numnahref08_insert.l0 k y0 y1 y2) (numnahref08_insert.l0 (k + 1) y0 y1 y2))
 | 0 => fun _ _ _ r h => by simp [numnahref08_insert.l0] at h
 | k + 1 => by
  have ih0 := numnahref08_insert.mono_l k
  ·intro y0 y1 y2
   unfold numnahref08_insert.l0
   repeat' first
   | (with_reducible exact ih0 _ _ _)
   | (with_reducible exact LeO.refl _)
   | (with_reducible exact LeO.none _)
   | (with_reducible refine LeO.ite ?_ ?_)
   | (with_reducible refine LeO.bind ?_ (fun _ => ?_))
   | exact ih0 _ _ _
   | exact LeO.none _
   | refine LeO.ite ?_ ?_
   | refine LeO.bind ?_ (fun _ => ?_)
theorem numnahref08_insert.mono : ∀ a0 a1 k, LeO (numnahref08_insert.f k a0 a1) (numnahref08_insert.f (k + 1) a0 a1) := by
 intro a0 a1 k
 have ih0 := numnahref08_insert.mono_l k
 unfold numnahref08_insert.f
 repeat' first
   | (with_reducible exact ih0 _ _ _)
   | (with_reducible exact LeO.refl _)
   | (with_reducible exact LeO.none _)
   | (with_reducible refine LeO.ite ?_ ?_)
   | (with_reducible refine LeO.bind ?_ (fun _ => ?_))
   | exact ih0 _ _ _
   | exact LeO.none _
   | refine LeO.ite ?_ ?_
   | refine LeO.bind ?_ (fun _ => ?_)
/-! ### numnahref08_has: function 81 -/
def numnahref08_has.l0 : Nat → List ByteArray → ByteArray → Int → Option (Bool)
 | 0, _, _, _ => none
 | k + 1, x0, x1, x5 => if x5 < (x0.length : Int) then (if 0 ≤ x5 then (if (rdOf ByteArray.empty x0 x5).toList = x1.toList then (some true) else (numnahref08_has.l0 k x0 x1 (wrap64 (x5 + 1)))) else (none)) else (some false)
def numnahref08_has.f (k : Nat) (l0 : List ByteArray) (a1 : ByteArray) : Option (Bool) := numnahref08_has.l0 k l0 a1 0
theorem numnahref08_has.mono_l : ∀ k, (∀ y0 y1 y2, LeO (numnahref08_has.l0 k y0 y1 y2) (numnahref08_has.l0 (k + 1) y0 y1 y2))
 | 0 => fun _ _ _ r h => by simp [numnahref08_has.l0] at h
 | k + 1 => by
  have ih0 := numnahref08_has.mono_l k
  ·intro y0 y1 y2
   unfold numnahref08_has.l0
   repeat' first
   | (with_reducible exact ih0 _ _ _)
   | (with_reducible exact LeO.refl _)
   | (with_reducible exact LeO.none _)
   | (with_reducible refine LeO.ite ?_ ?_)
   | (with_reducible refine LeO.bind ?_ (fun _ => ?_))
   | exact ih0 _ _ _
   | exact LeO.none _
   | refine LeO.ite ?_ ?_
   | refine LeO.bind ?_ (fun _ => ?_)
theorem numnahref08_has.mono : ∀ a0 a1 k, LeO (numnahref08_has.f k a0 a1) (numnahref08_has.f (k + 1) a0 a1) := by
 intro a0 a1 k
 have ih0 := numnahref08_has.mono_l k
 unfold numnahref08_has.f
 repeat' first
   | (with_reducible exact ih0 _ _ _)
   | (with_reducible exact LeO.refl _)
   | (with_reducible exact LeO.none _)
   | (with_reducible refine LeO.ite ?_ ?_)
   | (with_reducible refine LeO.bind ?_ (fun _ => ?_))
   | exact ih0 _ _ _
   | exact LeO.none _
   | refine LeO.ite ?_ ?_
   | refine LeO.bind ?_ (fun _ => ?_)
end Go.Proofs.YtaafeallcaiooaaGreat.Pr
-- indented by one
