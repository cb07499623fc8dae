/- Cheapest, walked (printed; one drawing region by hand); earlier in the printer's form. -/
-- Laid by wip/tools/inj.py of this project, which drives the kit's printer. Lean checks it.
import Derived.Test.YtpeeflkodpnbpaaDoorPr0
import Derived.Test.YtpeeflkodpnbpaaDoorHEarl
import Derived.Test.YtpeeflkodpnbpaaDoorHWord
import Derived.Test.YtpeeflkodpnbpaaDoorPrA25
namespace Go.Proofs.YtpeeflkodpnbpaaDoor.Pr
open Go.RowKit Go.Proofs.YtpeeflkodpnbpaaDoorW.PrintWords Go.Proofs.YtpeeflkodpnbpaaDoorW.PrintLast Go.Proofs.YtpeeflkodpnbpaaDoorW.PrintMore
set_option linter.unusedVariables false

def parse_earlier.f (a0 : ByteArray) (a1 : Int) : Option (Int × Int) := if a0.size ≤ 160 ∧ 0 ≤ a1 ∧ a1 ≤ a0.size then some (earlF a0 a1.toNat a1.toNat 0 (-1, 1)) else none
theorem parse_earlier.calls (a0 : ByteArray) (a1 : Int) (r1 r2 : Int) (w : World) (hG : GW w) (h : parse_earlier.f a0 a1 = some (r1, r2)) :
  Calls Tryd.prog 83 #[.string a0, .int .i64 a1] w fun e w' => e = .returned (.agg #[.int .i64 r1, .int .i64 r2]) ∧ Below w.heap.size w w' := by
 unfold parse_earlier.f at h
 by_cases c : a0.size ≤ 160 ∧ 0 ≤ a1 ∧ a1 ≤ a0.size
 ·rw [if_pos c] at h
  have h2 := Option.some.inj h
  have := earlier_calls a0 a1.toNat a1 w ⟨(Int.toNat_of_nonneg c.2.1).symm⟩ c.1 (by omega) hG
  rw [h2] at this
  exact this
 ·rw [if_neg c] at h
  cases h
end Go.Proofs.YtpeeflkodpnbpaaDoor.Pr
namespace Go.Proofs.YtpeeflkodpnbpaaDoor.Pr
open Go.RowKit Go.Proofs.YtpeeflkodpnbpaaDoorW.PrintWords Go.Proofs.YtpeeflkodpnbpaaDoorW.PrintLast Go.Proofs.YtpeeflkodpnbpaaDoorW.PrintMore
attribute [local go_sem] max2_int min2_int max_two min_two max_three min_three max_four min_four   -- for this text's walks alone
set_option linter.unusedVariables false
set_option linter.unusedSimpArgs false

/-! ### parse_CheapP: function 52 -/
mutual
def parse_CheapP.j0 : Nat → ByteArray → Int → Int → Bool → Option ((List (S63)) × Int × Int)
 | 0, _, _, _, _ => none
 | k + 1, x0, x1, x2, x25 => if x25 = true then (some (([] : List (S63)), 0, 2)) else (if 0 ≤ (wrap64 ((x0.size : Int) + 1)) then (if (wrap64 ((x0.size : Int) + 1) : Int).toNat ≤ 35184372088832 then (if (wrap64 ((x0.size : Int) + 1) : Int).toNat ≤ 17592186044416 then (parse_CheapP.l0 k x0 x1 x2 (List.replicate (wrap64 ((x0.size : Int) + 1) : Int).toNat 0) (List.replicate (wrap64 ((x0.size : Int) + 1) : Int).toNat z63) (wrap64 ((x0.size : Int) - 1))) else (none)) else (none)) else (none))
def parse_CheapP.l0 : Nat → ByteArray → Int → Int → List Int → List (S63) → Int → Option ((List (S63)) × Int × Int)
 | 0, _, _, _, _, _, _ => none
 | k + 1, x0, x1, x2, x9, x10, x11 => if x11 ≥ 0 then (if 0 ≤ (wrap64 (x11 + 1)) then (if (wrap64 (x11 + 1)) < (x9.length : Int) then (if 0 ≤ x11 then (if x11 < (x9.length : Int) then ((some (x9.set (x11 : Int).toNat (wrap64 (x1 + (rd x9 (wrap64 (x11 + 1))))) : List Int)).bind fun y767 => (if x11 < (x10.length : Int) then ((some (x10.set (x11 : Int).toNat (⟨(-1), 1⟩ : S63) : List (S63))).bind fun y768 => ((parse_earlier.f x0 x11).bind fun bt769 => (if bt769.1 < 0 then (parse_CheapP.l0 k x0 x1 x2 y767 y768 (wrap64 (x11 - 1))) else (parse_CheapP.l1 k x0 x1 x2 y767 y768 x11 bt769.2 0 bt769.1 bt769.2)))) else (none))) else (none)) else (none)) else (none)) else (none)) else (parse_CheapP.l2 k x0 x9 x10 ([] : List (S63)) 0)
def parse_CheapP.l1 : Nat → ByteArray → Int → Int → List Int → List (S63) → Int → Int → Int → Int → Int → Option ((List (S63)) × Int × Int)
 | 0, _, _, _, _, _, _, _, _, _, _ => none
 | k + 1, x0, x1, x2, x9, x10, x11, x62, x63, x772000, x772001 => if x63 < x62 then (if 0 ≤ (wrap64 ((wrap64 (x11 + x63)) + 1)) then (if (wrap64 ((wrap64 (x11 + x63)) + 1)) < (x9.length : Int) then (if 0 ≤ x11 then (if x11 < (x9.length : Int) then (if (wrap64 (x2 + (rd x9 (wrap64 ((wrap64 (x11 + x63)) + 1))))) < (rd x9 x11) then (if x11 < (x10.length : Int) then (parse_CheapP.l1 k x0 x1 x2 (x9.set (x11 : Int).toNat (wrap64 (x2 + (rd x9 (wrap64 ((wrap64 (x11 + x63)) + 1)))))) (x10.set (x11 : Int).toNat (⟨x772000, wrap64 (x63 + 1)⟩ : S63)) x11 x62 (wrap64 (x63 + 1)) x772000 x772001) else (none)) else (parse_CheapP.l1 k x0 x1 x2 x9 x10 x11 x62 (wrap64 (x63 + 1)) x772000 x772001)) else (none)) else (none)) else (none)) else (none)) else (parse_CheapP.l0 k x0 x1 x2 x9 x10 (wrap64 (x11 - 1)))
def parse_CheapP.l2 : Nat → ByteArray → List Int → List (S63) → List (S63) → Int → Option ((List (S63)) × Int × Int)
 | 0, _, _, _, _, _ => none
 | k + 1, x0, x9, x10, x15, x16 => if x16 < (x0.size : Int) then (if 0 ≤ x16 then (if x16 < (x10.length : Int) then (if x15.length < 8796093022208 then (parse_CheapP.l2 k x0 x9 x10 (x15 ++ [(⟨(rd_T63 x10 x16).f0, (rd_T63 x10 x16).f1⟩ : S63)]) (wrap64 (x16 + ((rd_T63 x10 x16).f1)))) else (none)) else (none)) else (none)) else (if 0 < (x9.length : Int) then (some (x15, rd x9 0, 0)) else (none))
end
def parse_CheapP.f (k : Nat) (a0 : ByteArray) (a1 : Int) (a2 : Int) : Option ((List (S63)) × Int × Int) := (parse_isWord.f a0).bind fun t758 => (if t758 = true then ((parse_isPrice.f a1 a2).bind fun t759 => (parse_CheapP.j0 k a0 a1 a2 (!t759))) else (parse_CheapP.j0 k a0 a1 a2 true))
theorem parse_CheapP.mono_l : ∀ k, (∀ y0 y1 y2 y3, LeO (parse_CheapP.j0 k y0 y1 y2 y3) (parse_CheapP.j0 (k + 1) y0 y1 y2 y3)) ∧ (∀ y0 y1 y2 y3 y4 y5, LeO (parse_CheapP.l0 k y0 y1 y2 y3 y4 y5) (parse_CheapP.l0 (k + 1) y0 y1 y2 y3 y4 y5)) ∧ (∀ y0 y1 y2 y3 y4 y5 y6 y7 y8 y9, LeO (parse_CheapP.l1 k y0 y1 y2 y3 y4 y5 y6 y7 y8 y9) (parse_CheapP.l1 (k + 1) y0 y1 y2 y3 y4 y5 y6 y7 y8 y9)) ∧ (∀ y0 y1 y2 y3 y4, LeO (parse_CheapP.l2 k y0 y1 y2 y3 y4) (parse_CheapP.l2 (k + 1) y0 y1 y2 y3 y4))
 | 0 => ⟨fun _ _ _ _ r h => by simp [parse_CheapP.j0] at h, fun _ _ _ _ _ _ r h => by simp [parse_CheapP.l0] at h, fun _ _ _ _ _ _ _ _ _ _ r h => by simp [parse_CheapP.l1] at h, fun _ _ _ _ _ r h => by simp [parse_CheapP.l2] at h⟩
 | k + 1 => by
  obtain ⟨ih0, ih1, ih2, ih3⟩ := parse_CheapP.mono_l k
  refine ⟨?_, ?_, ?_, ?_⟩
  ·intro y0 y1 y2 y3
   unfold parse_CheapP.j0
   repeat' first
   | (with_reducible exact ih0 _ _ _ _)
   | (with_reducible exact ih1 _ _ _ _ _ _)
   | (with_reducible exact ih2 _ _ _ _ _ _ _ _ _ _)
   | (with_reducible exact ih3 _ _ _ _ _)
   | (with_reducible exact LeO.refl _)
   | (with_reducible exact LeO.none _)
   | (with_reducible refine LeO.ite ?_ ?_)
   | (with_reducible refine LeO.bind ?_ (fun _ => ?_))
   | exact ih0 _ _ _ _
   | exact ih1 _ _ _ _ _ _
   | exact ih2 _ _ _ _ _ _ _ _ _ _
   | exact ih3 _ _ _ _ _
   | exact LeO.none _
   | refine LeO.ite ?_ ?_
   | refine LeO.bind ?_ (fun _ => ?_)
  ·intro y0 y1 y2 y3 y4 y5
   unfold parse_CheapP.l0
   repeat' first
   | (with_reducible exact ih0 _ _ _ _)
   | (with_reducible exact ih1 _ _ _ _ _ _)
   | (with_reducible exact ih2 _ _ _ _ _ _ _ _ _ _)
   | (with_reducible exact ih3 _ _ _ _ _)
   | (with_reducible exact LeO.refl _)
   | (with_reducible exact LeO.none _)
   | (with_reducible refine LeO.ite ?_ ?_)
   | (with_reducible refine LeO.bind ?_ (fun _ => ?_))
   | exact ih0 _ _ _ _
   | exact ih1 _ _ _ _ _ _
   | exact ih2 _ _ _ _ _ _ _ _ _ _
   | exact ih3 _ _ _ _ _
   | exact LeO.none _
   | refine LeO.ite ?_ ?_
   | refine LeO.bind ?_ (fun _ => ?_)
  ·intro y0 y1 y2 y3 y4 y5 y6 y7 y8 y9
   unfold parse_CheapP.l1
   repeat' first
   | (with_reducible exact ih0 _ _ _ _)
   | (with_reducible exact ih1 _ _ _ _ _ _)
   | (with_reducible exact ih2 _ _ _ _ _ _ _ _ _ _)
   | (with_reducible exact ih3 _ _ _ _ _)
   | (with_reducible exact LeO.refl _)
   | (with_reducible exact LeO.none _)
   | (with_reducible refine LeO.ite ?_ ?_)
   | (with_reducible refine LeO.bind ?_ (fun _ => ?_))
   | exact ih0 _ _ _ _
   | exact ih1 _ _ _ _ _ _
   | exact ih2 _ _ _ _ _ _ _ _ _ _
   | exact ih3 _ _ _ _ _
   | exact LeO.none _
   | refine LeO.ite ?_ ?_
   | refine LeO.bind ?_ (fun _ => ?_)
  ·intro y0 y1 y2 y3 y4
   unfold parse_CheapP.l2
   repeat' first
   | (with_reducible exact ih0 _ _ _ _)
   | (with_reducible exact ih1 _ _ _ _ _ _)
   | (with_reducible exact ih2 _ _ _ _ _ _ _ _ _ _)
   | (with_reducible exact ih3 _ _ _ _ _)
   | (with_reducible exact LeO.refl _)
   | (with_reducible exact LeO.none _)
   | (with_reducible refine LeO.ite ?_ ?_)
   | (with_reducible refine LeO.bind ?_ (fun _ => ?_))
   | exact ih0 _ _ _ _
   | exact ih1 _ _ _ _ _ _
   | exact ih2 _ _ _ _ _ _ _ _ _ _
   | exact ih3 _ _ _ _ _
   | exact LeO.none _
   | refine LeO.ite ?_ ?_
   | refine LeO.bind ?_ (fun _ => ?_)
theorem parse_CheapP.mono : ∀ a0 a1 a2 k, LeO (parse_CheapP.f k a0 a1 a2) (parse_CheapP.f (k + 1) a0 a1 a2) := by
 intro a0 a1 a2 k
 obtain ⟨ih0, ih1, ih2, ih3⟩ := parse_CheapP.mono_l k
 unfold parse_CheapP.f
 repeat' first
   | (with_reducible exact ih0 _ _ _ _)
   | (with_reducible exact ih1 _ _ _ _ _ _)
   | (with_reducible exact ih2 _ _ _ _ _ _ _ _ _ _)
   | (with_reducible exact ih3 _ _ _ _ _)
   | (with_reducible exact LeO.refl _)
   | (with_reducible exact LeO.none _)
   | (with_reducible refine LeO.ite ?_ ?_)
   | (with_reducible refine LeO.bind ?_ (fun _ => ?_))
   | exact ih0 _ _ _ _
   | exact ih1 _ _ _ _ _ _
   | exact ih2 _ _ _ _ _ _ _ _ _ _
   | exact ih3 _ _ _ _ _
   | exact LeO.none _
   | refine LeO.ite ?_ ?_
   | refine LeO.bind ?_ (fun _ => ?_)
set_option maxHeartbeats 8000000 in
set_option maxRecDepth 100000 in
theorem parse_CheapP.calls (k : Nat) (a0 : ByteArray) (a1 : Int) (a2 : Int) (r1 : List (S63)) (r2 : Int) (r3 : Int) (w : World) (hG : GW w) (h : parse_CheapP.f k a0 a1 a2 = some (r1, r2, r3)) :
  Calls Tryd.prog 52 #[.string a0, .int .i64 a1, .int .i64 a2] w fun e w' => ∃ v0_ : Value, e = .returned (.tuple #[v0_, .int .i64 r2, .int .i64 r3]) ∧ Kd.R k63 63 w' w.heap.size (fun _ => True) v0_ r1 ∧ Below w.heap.size w w' := by
 have hu63 := Tryd.underlying63
 have HB := Aside0.mk (Below.refl w.heap.size w)
 have H : ((parse_isWord.f a0).bind fun t758 => (if t758 = true then ((parse_isPrice.f a1 a2).bind fun t759 => (parse_CheapP.j0 k a0 a1 a2 (!t759))) else (parse_CheapP.j0 k a0 a1 a2 true))) = some (r1, r2, r3) := h
 clear h
 have HC4 := Aside0.mk H
 clear H
 go_enter Tryd.func52, Tryd.ntmps52
 go_upto_region 1 with (fail)
 repeat (go_quiet (fail); go_upto_region 1 with (fail))
 go_cut [25] (fun v25 wc => ∃ (kq : Nat) (x25_3 : Bool), v25 = .bool x25_3 ∧ Aside0 (parse_CheapP.j0 kq a0 a1 a2 x25_3 = some (r1, r2, r3)) ∧ Aside0 (kq ≤ k) ∧ Aside0 (Below w.heap.size w wc))
 case first =>
  have H := HC4.out
  clear HC4
  replace H := Option.bind_eq_some_iff.mp H
  obtain ⟨t758, A50, H⟩ := H
  replace H : (if t758 = true then ((parse_isPrice.f a1 a2).bind fun t759 => (parse_CheapP.j0 k a0 a1 a2 (!t759))) else (parse_CheapP.j0 k a0 a1 a2 true)) = some (r1, r2, r3) := H
  have A5 := Aside0.mk A50
  clear A50
  by_cases c6 : t758 = true
  ·subst c6
   have H1 : ((parse_isPrice.f a1 a2).bind fun t759 => (parse_CheapP.j0 k a0 a1 a2 (!t759))) = some (r1, r2, r3) := by rw [if_pos rfl] at H; exact H
   clear H
   have H := H1
   clear H1
   replace H := Option.bind_eq_some_iff.mp H
   obtain ⟨t759, A70, H⟩ := H
   replace H : (parse_CheapP.j0 k a0 a1 a2 (!t759)) = some (r1, r2, r3) := H
   have A7 := Aside0.mk A70
   clear A70
   have H' := Aside0.mk H
   clear H
   go_wp2_with (first | (go_at_call 62; (with_reducible refine (parse_isWord.calls a0 true _ A5.out).mono ?_); rintro e w8 ⟨rfl, hb⟩; have n0_ := Aside0.mk (below_step (by repeat (first | (with_reducible first | exact HB.out | apply below_alloc | apply pw_below_drewN | apply below_drew1) | exact HB.out)) hb); clear HB; have HB := n0_; clear n0_; (try clear hb); (try clear hb2); (try clear hk); (try clear hi)) | (go_at_call 82; (with_reducible refine (parse_isPrice.calls a1 a2 t759 _ A7.out).mono ?_); rintro e w' ⟨rfl, ⟨nd, rfl⟩⟩; (try first | exact ⟨rfl, _, World.drewN_drewN _ _ _⟩ | exact ⟨rfl, _, Eq.trans (World.drewN_drewN _ _ _) (congrArg (World.drewN _) (Nat.add_assoc _ _ _))⟩)))
   repeat (go_quiet (fail); try go_wp2)
   go_meet
   case rel => exact ⟨_, (!t759), (by first | rfl | (simp; done) | (simp [*]; done)), H', ⟨by first | omega | exact Nat.le_refl _⟩, ⟨by repeat (first | (with_reducible first | exact HB.out | apply below_alloc | apply pw_below_drewN | apply below_drew1) | exact HB.out)⟩⟩
  ·replace c6 := Bool.eq_false_iff.mpr c6
   subst c6
   have H1 : (parse_CheapP.j0 k a0 a1 a2 true) = some (r1, r2, r3) := by rw [if_neg (show ¬ (false = true) by decide)] at H; exact H
   clear H
   have H := H1
   clear H1
   have H' := Aside0.mk H
   clear H
   go_wp2_with (first | (go_at_call 62; (with_reducible refine (parse_isWord.calls a0 false _ A5.out).mono ?_); rintro e w9 ⟨rfl, hb⟩; have n0_ := Aside0.mk (below_step (by repeat (first | (with_reducible first | exact HB.out | apply below_alloc | apply pw_below_drewN | apply below_drew1) | exact HB.out)) hb); clear HB; have HB := n0_; clear n0_; (try clear hb); (try clear hb2); (try clear hk); (try clear hi)))
   repeat (go_quiet (fail); try go_wp2)
   go_meet
   case rel => exact ⟨_, (true), (by first | rfl | (simp; done) | (simp [*]; done)), H', ⟨by first | omega | exact Nat.le_refl _⟩, ⟨by repeat (first | (with_reducible first | exact HB.out | apply below_alloc | apply pw_below_drewN | apply below_drew1) | exact HB.out)⟩⟩
 case rest =>
  clear HC4
  try clear p2
  try clear c5
  try clear c6
  obtain ⟨kq, x25_3, rfl, HA, HJ3, HB⟩ := hcut
  cases kq with
  | zero => exact absurd HA.out (by simp [parse_CheapP.j0])
  | succ kj3 =>
   have H := HA.out
   clear HA
   simp only [parse_CheapP.j0] at H
   by_cases c10 : x25_3 = true
   ·subst c10
    have H1 : (some (([] : List (S63)), 0, 2)) = some (r1, r2, r3) := by rw [if_pos rfl] at H; exact H
    clear H
    have H := H1
    clear H1
    simp only [Option.some.injEq, Prod.mk.injEq] at H
    obtain ⟨rfl, rfl, rfl⟩ := H
    go_wp2
    repeat (go_quiet (fail); try go_wp2)
    go_ret3
    exact ⟨_, by first | rfl | (simp [errW_none, errW_some] <;> rfl) | (simp [*, errW_none, errW_some] <;> rfl), by first | exact Kd.R_nil _ _ _ _ _ | exact Kd.N_nil _ _ _ _ _ | exact Kd.V_nil _ _ _ _ _ | exact Kd.Q_nil _ _ _ _ _ | exact Kd.S_nil _ _ _ _ _, by repeat (first | (with_reducible first | exact HB.out | apply below_alloc | apply pw_below_drewN | apply below_drew1) | exact HB.out)⟩
   ·replace c10 := Bool.eq_false_iff.mpr c10
    subst c10
    have H1 : (if 0 ≤ (wrap64 ((a0.size : Int) + 1)) then (if (wrap64 ((a0.size : Int) + 1) : Int).toNat ≤ 35184372088832 then (if (wrap64 ((a0.size : Int) + 1) : Int).toNat ≤ 17592186044416 then (parse_CheapP.l0 kj3 a0 a1 a2 (List.replicate (wrap64 ((a0.size : Int) + 1) : Int).toNat 0) (List.replicate (wrap64 ((a0.size : Int) + 1) : Int).toNat z63) (wrap64 ((a0.size : Int) - 1))) else (none)) else (none)) else (none)) = some (r1, r2, r3) := by rw [if_neg (show ¬ (false = true) by decide)] at H; exact H
    clear H
    have H := H1
    clear H1
    obtain ⟨ji11, hji11⟩ : ∃ j_ : Int, (wrap64 ((a0.size : Int) + 1)) = j_ := ⟨_, rfl⟩
    replace H : (if 0 ≤ (ji11) then (if (ji11 : Int).toNat ≤ 35184372088832 then (if (ji11 : Int).toNat ≤ 17592186044416 then (parse_CheapP.l0 kj3 a0 a1 a2 (List.replicate (ji11 : Int).toNat 0) (List.replicate (ji11 : Int).toNat z63) (wrap64 ((a0.size : Int) - 1))) else (none)) else (none)) else (none)) = some (r1, r2, r3) := by first | (rw [hji11] at H; exact H) | (simp only [hji11] at H ⊢; exact H)
    have hji11w : (IntKind.i64.wrap ((a0.size : Int) + 1)) = ji11 := (i64_w _).trans hji11
    by_cases c12 : 0 ≤ (ji11)
    ·rw [if_pos c12] at H
     have c12b0 := eq_true c12
     have c12b1 : decide (0 ≤ (ji11)) = true := decide_eq_true c12
     clear c12
     by_cases c13 : (ji11 : Int).toNat ≤ 35184372088832
     ·rw [if_pos c13] at H
      have c13b0 := eq_true c13
      have c13b1 : decide ((ji11 : Int).toNat ≤ 35184372088832) = true := decide_eq_true c13
      clear c13
      obtain ⟨y760, hy760⟩ : ∃ y_ : List Int, y_ = (List.replicate (ji11 : Int).toNat 0) := ⟨_, rfl⟩
      replace H : (if (ji11 : Int).toNat ≤ 17592186044416 then (parse_CheapP.l0 kj3 a0 a1 a2 y760 (List.replicate (ji11 : Int).toNat z63) (wrap64 ((a0.size : Int) - 1))) else (none)) = some (r1, r2, r3) := by first | (rw [hy760]; with_reducible exact H) | (have H2_ := (Option.bind_some _ _).symm.trans H; rw [hy760]; with_reducible exact H2_) | (have H2_ := (Option.bind_some _ _).symm.trans H; with_reducible exact H2_) | with_reducible exact H | (rw [hy760]; exact H) | exact H
      have Ny760 := Aside0.mk hy760
      clear hy760
      by_cases c14 : (ji11 : Int).toNat ≤ 17592186044416
      ·rw [if_pos c14] at H
       have c14b0 := eq_true c14
       have c14b1 : decide ((ji11 : Int).toNat ≤ 17592186044416) = true := decide_eq_true c14
       clear c14
       obtain ⟨y763, hy763⟩ : ∃ y_ : List (S63), y_ = (List.replicate (ji11 : Int).toNat z63) := ⟨_, rfl⟩
       replace H : (parse_CheapP.l0 kj3 a0 a1 a2 y760 y763 (wrap64 ((a0.size : Int) - 1))) = some (r1, r2, r3) := by first | (rw [hy763]; with_reducible exact H) | (have H2_ := (Option.bind_some _ _).symm.trans H; rw [hy763]; with_reducible exact H2_) | (have H2_ := (Option.bind_some _ _).symm.trans H; with_reducible exact H2_) | with_reducible exact H | (rw [hy763]; exact H) | exact H
       have Ny763 := Aside0.mk hy763
       clear hy763
       have H' := Aside0.mk H
       clear H
       go_wp2_with (first | ((with_reducible refine gate_dst (N := 29) rfl ?_); refine Kd.R_make (Kd.int .i64) _ 3 rfl (N := 29) rfl 34 _ _ rfl ji11 rfl rfl Tryd.underlying34 (.int .i64 0) 8 info3 rfl (by decide) (by omega) 0 (ok := fun _ => True) (okp := fun _ => True) rfl (fun _ hk => hk) trivial (of_decide_eq_true (by first | (with_reducible assumption) | assumption)) (Nat.le_trans (Nat.mul_le_mul_right _ (of_decide_eq_true (by first | (with_reducible assumption) | assumption) : ji11.toNat ≤ 35184372088832)) (by omega)) (Below.refl _ _) (Nat.le_refl _) ?_; intro v761 w15 ho16 hb hg_ hnew_; clear hg_ hnew_; (first | rw [← Ny760.out] at ho16 | (simp only [Int.reduceToNat] at ho16; rw [← Ny760.out] at ho16)); have n0_ := Aside0.mk (Kd.R_lower ho16 (below_size (by repeat (first | (with_reducible first | exact HB.out | apply below_alloc | apply pw_below_drewN | apply below_drew1) | exact HB.out)))); have n1_ := Aside0.mk (below_step (by repeat (first | (with_reducible first | exact HB.out | apply below_alloc | apply pw_below_drewN | apply below_drew1) | exact HB.out)) hb); clear HB; have HO762 := n0_; have HB := n1_; clear n0_ n1_; clear hb ho16) | ((with_reducible refine gate_dst (N := 33) rfl ?_); refine Kd.R_make k63 _ 63 rfl (N := 33) rfl 23 _ _ rfl ji11 rfl rfl Tryd.underlying23 (.agg #[(.int .i64 0), (.int .i64 0)]) 16 info63 rfl (by decide) (by omega) z63 (ok := fun _ => True) (okp := fun _ => True) (k63_mkM _ _ _ z63 ) (fun _ hk => hk) trivial (of_decide_eq_true (by first | (with_reducible assumption) | assumption)) (Nat.le_trans (Nat.mul_le_mul_right _ (of_decide_eq_true (by first | (with_reducible assumption) | assumption) : ji11.toNat ≤ 17592186044416)) (by omega)) (Below.refl _ _) (Nat.le_refl _) ?_; intro v764 w17 ho18 hb hg_ hnew_; clear hg_ hnew_; (first | rw [← Ny763.out] at ho18 | (simp only [Int.reduceToNat] at ho18; rw [← Ny763.out] at ho18)); have n0_ := Aside0.mk (Kd.R_below (by (with_reducible repeat (first | apply Kd.R_alloc | apply Kd.R_drewN | apply Kd.R_drew)); exact HO762.out) hb); have n1_ := Aside0.mk (Kd.R_lower ho18 (below_size (by repeat (first | (with_reducible first | exact HB.out | apply below_alloc | apply pw_below_drewN | apply below_drew1) | exact HB.out)))); have n2_ := Aside0.mk (below_step (by repeat (first | (with_reducible first | exact HB.out | apply below_alloc | apply pw_below_drewN | apply below_drew1) | exact HB.out)) hb); clear HO762; clear HB; have HO762 := n0_; have HO765 := n1_; have HB := n2_; clear n0_ n1_ n2_; clear hb ho18))
       repeat (go_quiet (fail); try go_wp2)
       go_loopg [11] kj3 (fun kq v11 w' => ∃ (x9_2 : List Int) (x10_2 : List (S63)) (x11_2 : Int), v11 = .int .i64 x11_2 ∧ Aside0 (parse_CheapP.l0 kq a0 a1 a2 x9_2 x10_2 x11_2 = some (r1, r2, r3)) ∧ Aside0 (kq ≤ kj3) ∧ Aside0 (Kd.R (Kd.int .i64) 3 w' w.heap.size (fun _ => True) v761 x9_2) ∧ Aside0 (Kd.R k63 63 w' w.heap.size (fun _ => True) v764 x10_2) ∧ Aside0 (Below w.heap.size w w'))
       case atStart => exact ⟨(y760), (y763), (wrap64 ((a0.size : Int) - 1)), (by first | rfl | (simp; done) | (simp [*]; done)), H', ⟨Nat.le_refl _⟩, ⟨by (with_reducible repeat (first | apply Kd.R_alloc | apply Kd.R_drewN | apply Kd.R_drew)); exact HO762.out⟩, ⟨by (with_reducible repeat (first | apply Kd.R_alloc | apply Kd.R_drewN | apply Kd.R_drew)); exact HO765.out⟩, ⟨by repeat (first | (with_reducible first | exact HB.out | apply below_alloc | apply pw_below_drewN | apply below_drew1) | exact HB.out)⟩⟩
       case round =>
        clear H'
        try clear c1
        try clear p2
        try clear c5
        try clear c6
        try clear p6
        try clear c10
        try clear c12
        try clear c12b0
        try clear c12b1
        try clear c13
        try clear c13b0
        try clear c13b1
        try clear c14
        try clear c14b0
        try clear c14b1
        try clear p2
        obtain ⟨x9_2, x10_2, x11_2, rfl, HA, HK2, HO_9, HO_10, HB⟩ := hrel
        cases gk with
        | zero => exact absurd HA.out (by simp [parse_CheapP.l0])
        | succ k2 =>
         have H := HA.out
         clear HA
         simp only [parse_CheapP.l0] at H
         by_cases c19 : x11_2 ≥ 0
         ·rw [if_pos c19] at H
          have c19b0 : decide (0 ≤ x11_2) = true := decide_eq_true c19
          clear c19
          obtain ⟨ji20, hji20⟩ : ∃ j_ : Int, (wrap64 (x11_2 + 1)) = j_ := ⟨_, rfl⟩
          replace H : (if 0 ≤ (ji20) then (if (ji20) < (x9_2.length : Int) then (if 0 ≤ x11_2 then (if x11_2 < (x9_2.length : Int) then ((some (x9_2.set (x11_2 : Int).toNat (wrap64 (a1 + (rd x9_2 (ji20)))) : List Int)).bind fun y767 => (if x11_2 < (x10_2.length : Int) then ((some (x10_2.set (x11_2 : Int).toNat (⟨(-1), 1⟩ : S63) : List (S63))).bind fun y768 => ((parse_earlier.f a0 x11_2).bind fun bt769 => (if bt769.1 < 0 then (parse_CheapP.l0 k2 a0 a1 a2 y767 y768 (wrap64 (x11_2 - 1))) else (parse_CheapP.l1 k2 a0 a1 a2 y767 y768 x11_2 bt769.2 0 bt769.1 bt769.2)))) else (none))) else (none)) else (none)) else (none)) else (none)) = some (r1, r2, r3) := by first | (rw [hji20] at H; exact H) | (simp only [hji20] at H ⊢; exact H)
          have hji20w : (IntKind.i64.wrap (x11_2 + 1)) = ji20 := (i64_w _).trans hji20
          by_cases c21 : 0 ≤ (ji20)
          ·rw [if_pos c21] at H
           have c21b0 : decide (0 ≤ (ji20)) = true := decide_eq_true c21
           clear c21
           by_cases c22 : (ji20) < (x9_2.length : Int)
           ·rw [if_pos c22] at H
            have c22b0 : decide ((ji20) < (x9_2.length : Int)) = true := decide_eq_true c22
            clear c22
            by_cases c23 : 0 ≤ x11_2
            ·rw [if_pos c23] at H
             have c23b0 : decide (0 ≤ x11_2) = true := decide_eq_true c23
             clear c23
             by_cases c24 : x11_2 < (x9_2.length : Int)
             ·rw [if_pos c24] at H
              have c24b0 : decide (x11_2 < (x9_2.length : Int)) = true := decide_eq_true c24
              clear c24
              obtain ⟨y767, hy767⟩ : ∃ y_ : List Int, y_ = (x9_2.set (x11_2 : Int).toNat (wrap64 (a1 + (rd x9_2 (ji20))))) := ⟨_, rfl⟩
              replace H : (if x11_2 < (x10_2.length : Int) then ((some (x10_2.set (x11_2 : Int).toNat (⟨(-1), 1⟩ : S63) : List (S63))).bind fun y768 => ((parse_earlier.f a0 x11_2).bind fun bt769 => (if bt769.1 < 0 then (parse_CheapP.l0 k2 a0 a1 a2 y767 y768 (wrap64 (x11_2 - 1))) else (parse_CheapP.l1 k2 a0 a1 a2 y767 y768 x11_2 bt769.2 0 bt769.1 bt769.2)))) else (none)) = some (r1, r2, r3) := by first | (rw [hy767]; with_reducible exact H) | (have H2_ := (Option.bind_some _ _).symm.trans H; rw [hy767]; with_reducible exact H2_) | (have H2_ := (Option.bind_some _ _).symm.trans H; with_reducible exact H2_) | with_reducible exact H | (rw [hy767]; exact H) | exact H
              have Ny767 := Aside0.mk hy767
              clear hy767
              by_cases c26 : x11_2 < (x10_2.length : Int)
              ·rw [if_pos c26] at H
               have c26b0 : decide (x11_2 < (x10_2.length : Int)) = true := decide_eq_true c26
               clear c26
               obtain ⟨y768, hy768⟩ : ∃ y_ : List (S63), y_ = (x10_2.set (x11_2 : Int).toNat (⟨(-1), 1⟩ : S63)) := ⟨_, rfl⟩
               replace H : ((parse_earlier.f a0 x11_2).bind fun bt769 => (if bt769.1 < 0 then (parse_CheapP.l0 k2 a0 a1 a2 y767 y768 (wrap64 (x11_2 - 1))) else (parse_CheapP.l1 k2 a0 a1 a2 y767 y768 x11_2 bt769.2 0 bt769.1 bt769.2))) = some (r1, r2, r3) := by first | (rw [hy768]; with_reducible exact H) | (have H2_ := (Option.bind_some _ _).symm.trans H; rw [hy768]; with_reducible exact H2_) | (have H2_ := (Option.bind_some _ _).symm.trans H; with_reducible exact H2_) | with_reducible exact H | (rw [hy768]; exact H) | exact H
               have Ny768 := Aside0.mk hy768
               clear hy768
               replace H := Option.bind_eq_some_iff.mp H
               obtain ⟨⟨t769, t770⟩, A280, H⟩ := H
               replace H : (if t769 < 0 then (parse_CheapP.l0 k2 a0 a1 a2 y767 y768 (wrap64 (x11_2 - 1))) else (parse_CheapP.l1 k2 a0 a1 a2 y767 y768 x11_2 t770 0 t769 t770)) = some (r1, r2, r3) := H
               have A28 := Aside0.mk A280
               clear A280
               by_cases c29 : t769 < 0
               ·rw [if_pos c29] at H
                have c29b0 : decide (t769 < 0) = true := decide_eq_true c29
                clear c29
                have H' := Aside0.mk H
                clear H
                obtain ⟨Ao30, co30, eo30⟩ := Kd.R_slice HO_9.out
                subst eo30
                have p766 : 0 ≤ ((ji20) : Int) := of_decide_eq_true (by first | (with_reducible assumption) | assumption)
                have q766 : (ji20) < (x9_2.length : Int) := of_decide_eq_true (by first | (with_reducible assumption) | assumption)
                obtain ⟨ad766, e766, hx766_0⟩ := Kd.at_int (Kd.R_reads' HO_9.out).2.2 (ji20) p766 q766
                cases e766
                replace p766 := eq_true p766
                replace q766 := eq_true q766
                have p25 : 0 ≤ (x11_2 : Int) := of_decide_eq_true (by first | (with_reducible assumption) | assumption)
                have q25 : (x11_2 : Int) < ((x9_2.length : Int) : Int) := of_decide_eq_true (by first | (with_reducible assumption) | assumption)
                obtain ⟨go25, co25, eo25, gb25, gl25, cl25, HG25⟩ := Kd.R_form HO_9.out (by omega)
                (first | cases eo25 | (injection eo25 with ea_ en_ ec_; (first | subst ea_ | (injection ea_ with ea_; subst ea_)); subst ec_; clear en_))
                have GB25 := Aside0.mk gb25
                have GG25 := Aside0.mk HG25
                clear gb25 gl25 HG25
                (first | simp only [add_plain] at hx766_0 | skip)
                obtain ⟨hx25_0, hf25_0⟩ := Kd.R_celln 0 HO_9.out (x11_2 : Int) p25 q25
                replace p25 := eq_true p25
                replace q25 := eq_true q25
                have HP31 := Kd.R_putg HO_9.out (x11_2 : Int) (wrap64 (a1 + (rd x9_2 (ji20))))
                go_wp2_with (first | ((with_reducible refine gate_store (t := 3) (p := 53) rfl ?_); (try (rw [drewN_self wr]; generalize hq_ : World.drewN wr _ = wr; have n0_ := Aside0.mk (Kd.R_at hq_ HO_9.out); have n1_ := Aside0.mk (Kd.R_at hq_ HO_10.out); have n2_ := Aside0.mk (below_at hq_ HB.out); clear hq_ HO_9 HO_10 HB; have HO_9 := n0_; have HO_10 := n1_; have HB := n2_; clear n0_ n1_ n2_; (try (have HP31 := Kd.R_putg HO_9.out (x11_2 : Int) (wrap64 (a1 + (rd x9_2 (ji20)))))))); refine store_event (t := 3) (p := 53) (v := ?vo_w32) (w1 := (wr.setCell ⟨go25, (x11_2 : Int).toNat, none⟩ (.int .i64 (wrap64 (a1 + (rd x9_2 (ji20))))))) ?hg ?ho ?hn ?hr ?_; (case ho => rfl); (case hg => rfl); (case hn => rfl); (case hr => first | (go_simp; done) | (go_simp; rfl)); intro w32 hw; have hg : wr.grownBy w32 (some go25) := (by rw [hw]; exact HP31.2); have hp_ : Kd.R (Kd.int .i64) 3 w32 w.heap.size (fun _ => True) (.slice (some ⟨go25, 0, none⟩) x9_2.length co30) y767 := (by rw [hw, Ny767.out]; exact HP31.1); clear HP31; have n0_ := Aside0.mk (hp_); have n1_ := Aside0.mk (Kd.R_over' (v := (.slice (some ⟨go25, 0, none⟩) x9_2.length co30)) (by (with_reducible repeat (first | apply Kd.R_alloc | apply Kd.R_drewN | apply Kd.R_drew)); exact HO_10.out) (Kd.R_typed HO_9.out) (by decide) hg); have n2_ := Aside0.mk ((by rw [hw]; exact below_set (HB.out) GB25.out : Below w.heap.size w w32)); clear HO_9; clear HO_10; clear HB; have HO_9 := n0_; have HO_10 := n1_; have HB := n2_; clear n0_ n1_ n2_; clear hg hw hp_; have p27 : 0 ≤ (x11_2 : Int) := of_decide_eq_true (by first | (with_reducible assumption) | assumption); have q27 : (x11_2 : Int) < ((x10_2.length : Int) : Int) := of_decide_eq_true (by first | (with_reducible assumption) | assumption); obtain ⟨go27, co27, eo27, gb27, gl27, cl27, HG27⟩ := Kd.R_form HO_10.out (by omega); (first | cases eo27 | (injection eo27 with ea_ en_ ec_; (first | subst ea_ | (injection ea_ with ea_; subst ea_)); subst ec_; clear en_)); have GB27 := Aside0.mk gb27; have GG27 := Aside0.mk HG27; clear gb27 gl27 HG27; obtain ⟨ce27, hcl27, hM27, hcc27, hfr27⟩ := Kd.R_elem HO_10.out z63 (x11_2 : Int) p27 q27; obtain rfl := k63_openM hM27; have hx27_0 : w32.cell? ⟨go27, (x11_2 : Int).toNat * 2, none⟩ = some (.int .i64 ((rd_T63 x10_2 x11_2).f0)) := hcc27 0 _ rfl; have hx27_1 : w32.cell? ⟨go27, (x11_2 : Int).toNat * 2 + 1, none⟩ = some (.int .i64 ((rd_T63 x10_2 x11_2).f1)) := hcc27 1 _ rfl; have hf27_0 : w32.frozen? ⟨go27, (x11_2 : Int).toNat * 2, none⟩ = false := hfr27 0; have hf27_1 : w32.frozen? ⟨go27, (x11_2 : Int).toNat * 2 + 1, none⟩ = false := hfr27 1; clear hcl27 hcc27 hfr27 hM27; replace p27 := eq_true p27; replace q27 := eq_true q27; have HX33 := Aside0.mk (show Kd.R k63 63 w32 w.heap.size (fun _ => True) (.slice (some ⟨go27, 0, none⟩) x10_2.length co27) x10_2 from (by (with_reducible repeat (first | apply Kd.R_alloc | apply Kd.R_drewN | apply Kd.R_drew)); exact HO_10.out)); obtain ⟨ce33, hcl33, hM33, hcc33, hfr33⟩ := Kd.R_elem HX33.out z63 (x11_2 : Int) (of_decide_eq_true (by first | (with_reducible assumption) | assumption)) (by have h_ : (x11_2 : Int) < ((x10_2.length : Int) : Int) := of_decide_eq_true (by first | (with_reducible assumption) | assumption); first | exact h_ | (have e_ := (Kd.R_reads' HO_10.out).1; omega) | simpa using h_); obtain rfl := k63_openM hM33; have HP33 := Kd.R_seg HX33.out (x11_2 : Int) (of_decide_eq_true (by first | (with_reducible assumption) | assumption)) (by have h_ : (x11_2 : Int) < ((x10_2.length : Int) : Int) := of_decide_eq_true (by first | (with_reducible assumption) | assumption); first | exact h_ | (have e_ := (Kd.R_reads' HO_10.out).1; omega) | simpa using h_) (seg := [.int .i64 (-1), .int .i64 1]) (j := 0) hcl33 hcc33 (show 2 ≤ 2 from by decide) (x' := (⟨(-1), 1⟩ : S63)) (k63_mkM _ _ _ (⟨(-1), 1⟩ : S63) ) (fun _ hk => hk); have hx33_0 := hcc33 0 _ rfl; (try simp only [show (k63).sz = 2 from rfl, Nat.mul_one, Nat.add_zero] at hx33_0); have hf33_0 := hfr33 0; (try simp only [show (k63).sz = 2 from rfl, Nat.mul_one, Nat.add_zero] at hf33_0); have hx33_1 := hcc33 1 _ rfl; (try simp only [show (k63).sz = 2 from rfl, Nat.mul_one, Nat.add_zero] at hx33_1); have hf33_1 := hfr33 1; (try simp only [show (k63).sz = 2 from rfl, Nat.mul_one, Nat.add_zero] at hf33_1); clear hcl33 hcc33 hfr33 hM33) | ((with_reducible refine gate_store (t := 63) (p := 54) rfl ?_); (try (rw [drewN_self w32]; generalize hq_ : World.drewN w32 _ = w32; have n0_ := Aside0.mk (Kd.R_at hq_ HO_9.out); have n1_ := Aside0.mk (Kd.R_at hq_ HO_10.out); have n2_ := Aside0.mk (below_at hq_ HB.out); clear hq_ HO_9 HO_10 HB; have HO_9 := n0_; have HO_10 := n1_; have HB := n2_; clear n0_ n1_ n2_; (try (have HX33 := Aside0.mk (show Kd.R k63 63 w32 w.heap.size (fun _ => True) (.slice (some ⟨go27, 0, none⟩) x10_2.length co27) x10_2 from (by (with_reducible repeat (first | apply Kd.R_alloc | apply Kd.R_drewN | apply Kd.R_drew)); exact HO_10.out)))); (try (obtain ⟨ce33, hcl33, hM33, hcc33, hfr33⟩ := Kd.R_elem HX33.out z63 (x11_2 : Int) (of_decide_eq_true (by first | (with_reducible assumption) | assumption)) (by have h_ : (x11_2 : Int) < ((x10_2.length : Int) : Int) := of_decide_eq_true (by first | (with_reducible assumption) | assumption); first | exact h_ | (have e_ := (Kd.R_reads' HO_10.out).1; omega) | simpa using h_))); (try (obtain rfl := k63_openM hM33)); (try (have HP33 := Kd.R_seg HX33.out (x11_2 : Int) (of_decide_eq_true (by first | (with_reducible assumption) | assumption)) (by have h_ : (x11_2 : Int) < ((x10_2.length : Int) : Int) := of_decide_eq_true (by first | (with_reducible assumption) | assumption); first | exact h_ | (have e_ := (Kd.R_reads' HO_10.out).1; omega) | simpa using h_) (seg := [.int .i64 (-1), .int .i64 1]) (j := 0) hcl33 hcc33 (show 2 ≤ 2 from by decide) (x' := (⟨(-1), 1⟩ : S63)) (k63_mkM _ _ _ (⟨(-1), 1⟩ : S63) ) (fun _ hk => hk))); (try (have hx33_0 := hcc33 0 _ rfl)); (try (try simp only [show (k63).sz = 2 from rfl, Nat.mul_one, Nat.add_zero] at hx33_0)); (try (have hf33_0 := hfr33 0)); (try (try simp only [show (k63).sz = 2 from rfl, Nat.mul_one, Nat.add_zero] at hf33_0)); (try (have hx33_1 := hcc33 1 _ rfl)); (try (try simp only [show (k63).sz = 2 from rfl, Nat.mul_one, Nat.add_zero] at hx33_1)); (try (have hf33_1 := hfr33 1)); (try (try simp only [show (k63).sz = 2 from rfl, Nat.mul_one, Nat.add_zero] at hf33_1)); (try (clear hcl33 hcc33 hfr33 hM33)))); refine store_event (t := 63) (p := 54) (v := ?vo_w34) (w1 := ((w32.setCell ⟨go27, (x11_2 : Int).toNat * 2, none⟩ (.int .i64 (-1))).setCell ⟨go27, (x11_2 : Int).toNat * 2 + 1, none⟩ (.int .i64 1))) ?hg ?ho ?hn ?hr ?_; (case ho => rfl); (case hg => rfl); (case hn => rfl); (case hr => first | (go_simp; done) | (go_simp; rfl)); intro w34 hw; have hg : w32.grownBy w34 (some go27) := (by rw [hw]; exact HP33.2); have hp_ : Kd.R k63 63 w34 w.heap.size (fun _ => True) (.slice (some ⟨go27, 0, none⟩) x10_2.length co27) y768 := (by rw [hw, Ny768.out]; exact HP33.1); clear HP33; have n0_ := Aside0.mk (Kd.R_over' (v := (.slice (some ⟨go27, 0, none⟩) x10_2.length co27)) (by (with_reducible repeat (first | apply Kd.R_alloc | apply Kd.R_drewN | apply Kd.R_drew)); exact HO_9.out) (Kd.R_typed HO_10.out) (by decide) hg); have n1_ := Aside0.mk (hp_); have n2_ := Aside0.mk ((by rw [hw]; exact below_set (below_set (HB.out) GB27.out) GB27.out : Below w.heap.size w w34)); clear HO_9; clear HO_10; clear HB; have HO_9 := n0_; have HO_10 := n1_; have HB := n2_; clear n0_ n1_ n2_; clear hg hw hp_) | (go_at_call 83; (with_reducible refine (parse_earlier.calls (hG := ?hg) a0 x11_2 t769 t770 _ A28.out).mono ?_); (case hg => exact gw_now hG (by repeat (first | (with_reducible first | exact HB.out | apply below_alloc | apply pw_below_drewN | apply below_drew1) | exact HB.out))); rintro e w35 ⟨rfl, hb⟩; have n0_ := Aside0.mk (Kd.R_below (by (with_reducible repeat (first | apply Kd.R_alloc | apply Kd.R_drewN | apply Kd.R_drew)); exact HO_9.out) hb); have n1_ := Aside0.mk (Kd.R_below (by (with_reducible repeat (first | apply Kd.R_alloc | apply Kd.R_drewN | apply Kd.R_drew)); exact HO_10.out) hb); have n2_ := Aside0.mk (below_step (by repeat (first | (with_reducible first | exact HB.out | apply below_alloc | apply pw_below_drewN | apply below_drew1) | exact HB.out)) hb); clear HO_9; clear HO_10; clear HB; have HO_9 := n0_; have HO_10 := n1_; have HB := n2_; clear n0_ n1_ n2_; (try clear hb); (try clear hb2); (try clear hk); (try clear hi)) | ((with_reducible refine gate_dst (N := 12) rfl ?_); refine box_event ?hg (N := 12) ?hd (cs := #[.int .i64 0, .int .i64 0]) (t := 63) ?hr ?_; (case hd => rfl); (case hg => rfl); (case hr => first | (go_simp; done) | (go_simp; rfl)); intro gb771 hg w36 hbox hb; have n0_ := Aside0.mk (Kd.R_below (by (with_reducible repeat (first | apply Kd.R_alloc | apply Kd.R_drewN | apply Kd.R_drew)); exact HO_9.out) hb); have n1_ := Aside0.mk (Kd.R_below (Kd.R_elderB (by (with_reducible repeat (first | apply Kd.R_alloc | apply Kd.R_drewN | apply Kd.R_drew)); exact HO_10.out) gb771 (Nat.le_of_eq hg.symm)) hb); have n2_ := Aside0.mk (below_step (by repeat (first | (with_reducible first | exact HB.out | apply below_alloc | apply pw_below_drewN | apply below_drew1) | exact HB.out)) hb); have n3_ := Aside0.mk (hbox); have n4_ := Aside0.mk ((by rw [hg]; exact (below_size (by repeat (first | (with_reducible first | exact HB.out | apply below_alloc | apply pw_below_drewN | apply below_drew1) | exact HB.out))) : w.heap.size ≤ gb771)); have n5_ := Aside0.mk ((by rw [hg]; exact (below_size (by repeat (first | (with_reducible first | exact HB.out | apply below_alloc | apply pw_below_drewN | apply below_drew1) | exact HB.out))) : w.heap.size ≤ gb771)); clear HO_9; clear HO_10; clear HB; have HO_9 := n0_; have HO_10 := n1_; have HB := n2_; have BK771 := n3_; have GW771 := n4_; have GE771 := n5_; clear n0_ n1_ n2_ n3_ n4_ n5_; clear hb hbox hg; have hcz37_0 : w36.cell? ⟨gb771, 0, none⟩ = some (.int .i64 0) := (blk_cell BK771.out 0).trans rfl; have hcz37_1 : w36.cell? ⟨gb771, 1, none⟩ = some (.int .i64 0) := (blk_cell BK771.out 1).trans rfl; have hfz37_0 := blk_frozen BK771.out 0; have hfz37_1 := blk_frozen BK771.out 1))
                repeat (go_quiet (fail); try go_wp2)
                go_roundg k2
                case measure => have := HJ3.out; have := HK2.out; omega
                case rel => exact ⟨(y767), (y768), (wrap64 (x11_2 - 1)), (by first | rfl | (simp; done) | (simp [*]; done)), H', ⟨by have := HJ3.out; have := HK2.out; omega⟩, ⟨by (with_reducible repeat (first | apply Kd.R_alloc | apply Kd.R_drewN | apply Kd.R_drew)); exact Kd.R_mono (Kd.R_far (p := ⟨gb771, 1, none⟩) (Kd.R_far (p := ⟨gb771, 0, none⟩) (Kd.R_types HO_9.out BK771.out (by decide)) (fun _ hk => hk.2) (.int .i64 t769)) (fun _ hk => hk.2) (.int .i64 t770)) (fun _ hk => trivial)⟩, ⟨by (with_reducible repeat (first | apply Kd.R_alloc | apply Kd.R_drewN | apply Kd.R_drew)); exact Kd.R_mono (Kd.R_far (p := ⟨gb771, 1, none⟩) (Kd.R_far (p := ⟨gb771, 0, none⟩) (Kd.R_mono HO_10.out (fun k_ hk => (⟨hk, hk.2⟩ : _ ∧ k_ ≠ gb771))) (fun _ hk => hk.2) (.int .i64 t769)) (fun _ hk => hk.2) (.int .i64 t770)) (fun _ hk => trivial)⟩, ⟨by repeat (first | (with_reducible first | exact HB.out | apply below_alloc | apply pw_below_drewN | apply below_drew1 | refine below_set ?_ GE771.out) | exact HB.out)⟩⟩
               ·rw [if_neg c29] at H
                have c29b0 : decide (t769 < 0) = false := decide_eq_false c29
                clear c29
                have H' := Aside0.mk H
                clear H
                obtain ⟨Ao38, co38, eo38⟩ := Kd.R_slice HO_9.out
                subst eo38
                have p766 : 0 ≤ ((ji20) : Int) := of_decide_eq_true (by first | (with_reducible assumption) | assumption)
                have q766 : (ji20) < (x9_2.length : Int) := of_decide_eq_true (by first | (with_reducible assumption) | assumption)
                obtain ⟨ad766, e766, hx766_0⟩ := Kd.at_int (Kd.R_reads' HO_9.out).2.2 (ji20) p766 q766
                cases e766
                replace p766 := eq_true p766
                replace q766 := eq_true q766
                have p25 : 0 ≤ (x11_2 : Int) := of_decide_eq_true (by first | (with_reducible assumption) | assumption)
                have q25 : (x11_2 : Int) < ((x9_2.length : Int) : Int) := of_decide_eq_true (by first | (with_reducible assumption) | assumption)
                obtain ⟨go25, co25, eo25, gb25, gl25, cl25, HG25⟩ := Kd.R_form HO_9.out (by omega)
                (first | cases eo25 | (injection eo25 with ea_ en_ ec_; (first | subst ea_ | (injection ea_ with ea_; subst ea_)); subst ec_; clear en_))
                have GB25 := Aside0.mk gb25
                have GG25 := Aside0.mk HG25
                clear gb25 gl25 HG25
                (first | simp only [add_plain] at hx766_0 | skip)
                obtain ⟨hx25_0, hf25_0⟩ := Kd.R_celln 0 HO_9.out (x11_2 : Int) p25 q25
                replace p25 := eq_true p25
                replace q25 := eq_true q25
                have HP39 := Kd.R_putg HO_9.out (x11_2 : Int) (wrap64 (a1 + (rd x9_2 (ji20))))
                go_wp2_with (first | ((with_reducible refine gate_store (t := 3) (p := 53) rfl ?_); (try (rw [drewN_self wr]; generalize hq_ : World.drewN wr _ = wr; have n0_ := Aside0.mk (Kd.R_at hq_ HO_9.out); have n1_ := Aside0.mk (Kd.R_at hq_ HO_10.out); have n2_ := Aside0.mk (below_at hq_ HB.out); clear hq_ HO_9 HO_10 HB; have HO_9 := n0_; have HO_10 := n1_; have HB := n2_; clear n0_ n1_ n2_; (try (have HP39 := Kd.R_putg HO_9.out (x11_2 : Int) (wrap64 (a1 + (rd x9_2 (ji20)))))))); refine store_event (t := 3) (p := 53) (v := ?vo_w40) (w1 := (wr.setCell ⟨go25, (x11_2 : Int).toNat, none⟩ (.int .i64 (wrap64 (a1 + (rd x9_2 (ji20))))))) ?hg ?ho ?hn ?hr ?_; (case ho => rfl); (case hg => rfl); (case hn => rfl); (case hr => first | (go_simp; done) | (go_simp; rfl)); intro w40 hw; have hg : wr.grownBy w40 (some go25) := (by rw [hw]; exact HP39.2); have hp_ : Kd.R (Kd.int .i64) 3 w40 w.heap.size (fun _ => True) (.slice (some ⟨go25, 0, none⟩) x9_2.length co38) y767 := (by rw [hw, Ny767.out]; exact HP39.1); clear HP39; have n0_ := Aside0.mk (hp_); have n1_ := Aside0.mk (Kd.R_over' (v := (.slice (some ⟨go25, 0, none⟩) x9_2.length co38)) (by (with_reducible repeat (first | apply Kd.R_alloc | apply Kd.R_drewN | apply Kd.R_drew)); exact HO_10.out) (Kd.R_typed HO_9.out) (by decide) hg); have n2_ := Aside0.mk ((by rw [hw]; exact below_set (HB.out) GB25.out : Below w.heap.size w w40)); clear HO_9; clear HO_10; clear HB; have HO_9 := n0_; have HO_10 := n1_; have HB := n2_; clear n0_ n1_ n2_; clear hg hw hp_; have p27 : 0 ≤ (x11_2 : Int) := of_decide_eq_true (by first | (with_reducible assumption) | assumption); have q27 : (x11_2 : Int) < ((x10_2.length : Int) : Int) := of_decide_eq_true (by first | (with_reducible assumption) | assumption); obtain ⟨go27, co27, eo27, gb27, gl27, cl27, HG27⟩ := Kd.R_form HO_10.out (by omega); (first | cases eo27 | (injection eo27 with ea_ en_ ec_; (first | subst ea_ | (injection ea_ with ea_; subst ea_)); subst ec_; clear en_)); have GB27 := Aside0.mk gb27; have GG27 := Aside0.mk HG27; clear gb27 gl27 HG27; obtain ⟨ce27, hcl27, hM27, hcc27, hfr27⟩ := Kd.R_elem HO_10.out z63 (x11_2 : Int) p27 q27; obtain rfl := k63_openM hM27; have hx27_0 : w40.cell? ⟨go27, (x11_2 : Int).toNat * 2, none⟩ = some (.int .i64 ((rd_T63 x10_2 x11_2).f0)) := hcc27 0 _ rfl; have hx27_1 : w40.cell? ⟨go27, (x11_2 : Int).toNat * 2 + 1, none⟩ = some (.int .i64 ((rd_T63 x10_2 x11_2).f1)) := hcc27 1 _ rfl; have hf27_0 : w40.frozen? ⟨go27, (x11_2 : Int).toNat * 2, none⟩ = false := hfr27 0; have hf27_1 : w40.frozen? ⟨go27, (x11_2 : Int).toNat * 2 + 1, none⟩ = false := hfr27 1; clear hcl27 hcc27 hfr27 hM27; replace p27 := eq_true p27; replace q27 := eq_true q27; have HX41 := Aside0.mk (show Kd.R k63 63 w40 w.heap.size (fun _ => True) (.slice (some ⟨go27, 0, none⟩) x10_2.length co27) x10_2 from (by (with_reducible repeat (first | apply Kd.R_alloc | apply Kd.R_drewN | apply Kd.R_drew)); exact HO_10.out)); obtain ⟨ce41, hcl41, hM41, hcc41, hfr41⟩ := Kd.R_elem HX41.out z63 (x11_2 : Int) (of_decide_eq_true (by first | (with_reducible assumption) | assumption)) (by have h_ : (x11_2 : Int) < ((x10_2.length : Int) : Int) := of_decide_eq_true (by first | (with_reducible assumption) | assumption); first | exact h_ | (have e_ := (Kd.R_reads' HO_10.out).1; omega) | simpa using h_); obtain rfl := k63_openM hM41; have HP41 := Kd.R_seg HX41.out (x11_2 : Int) (of_decide_eq_true (by first | (with_reducible assumption) | assumption)) (by have h_ : (x11_2 : Int) < ((x10_2.length : Int) : Int) := of_decide_eq_true (by first | (with_reducible assumption) | assumption); first | exact h_ | (have e_ := (Kd.R_reads' HO_10.out).1; omega) | simpa using h_) (seg := [.int .i64 (-1), .int .i64 1]) (j := 0) hcl41 hcc41 (show 2 ≤ 2 from by decide) (x' := (⟨(-1), 1⟩ : S63)) (k63_mkM _ _ _ (⟨(-1), 1⟩ : S63) ) (fun _ hk => hk); have hx41_0 := hcc41 0 _ rfl; (try simp only [show (k63).sz = 2 from rfl, Nat.mul_one, Nat.add_zero] at hx41_0); have hf41_0 := hfr41 0; (try simp only [show (k63).sz = 2 from rfl, Nat.mul_one, Nat.add_zero] at hf41_0); have hx41_1 := hcc41 1 _ rfl; (try simp only [show (k63).sz = 2 from rfl, Nat.mul_one, Nat.add_zero] at hx41_1); have hf41_1 := hfr41 1; (try simp only [show (k63).sz = 2 from rfl, Nat.mul_one, Nat.add_zero] at hf41_1); clear hcl41 hcc41 hfr41 hM41) | ((with_reducible refine gate_store (t := 63) (p := 54) rfl ?_); (try (rw [drewN_self w40]; generalize hq_ : World.drewN w40 _ = w40; have n0_ := Aside0.mk (Kd.R_at hq_ HO_9.out); have n1_ := Aside0.mk (Kd.R_at hq_ HO_10.out); have n2_ := Aside0.mk (below_at hq_ HB.out); clear hq_ HO_9 HO_10 HB; have HO_9 := n0_; have HO_10 := n1_; have HB := n2_; clear n0_ n1_ n2_; (try (have HX41 := Aside0.mk (show Kd.R k63 63 w40 w.heap.size (fun _ => True) (.slice (some ⟨go27, 0, none⟩) x10_2.length co27) x10_2 from (by (with_reducible repeat (first | apply Kd.R_alloc | apply Kd.R_drewN | apply Kd.R_drew)); exact HO_10.out)))); (try (obtain ⟨ce41, hcl41, hM41, hcc41, hfr41⟩ := Kd.R_elem HX41.out z63 (x11_2 : Int) (of_decide_eq_true (by first | (with_reducible assumption) | assumption)) (by have h_ : (x11_2 : Int) < ((x10_2.length : Int) : Int) := of_decide_eq_true (by first | (with_reducible assumption) | assumption); first | exact h_ | (have e_ := (Kd.R_reads' HO_10.out).1; omega) | simpa using h_))); (try (obtain rfl := k63_openM hM41)); (try (have HP41 := Kd.R_seg HX41.out (x11_2 : Int) (of_decide_eq_true (by first | (with_reducible assumption) | assumption)) (by have h_ : (x11_2 : Int) < ((x10_2.length : Int) : Int) := of_decide_eq_true (by first | (with_reducible assumption) | assumption); first | exact h_ | (have e_ := (Kd.R_reads' HO_10.out).1; omega) | simpa using h_) (seg := [.int .i64 (-1), .int .i64 1]) (j := 0) hcl41 hcc41 (show 2 ≤ 2 from by decide) (x' := (⟨(-1), 1⟩ : S63)) (k63_mkM _ _ _ (⟨(-1), 1⟩ : S63) ) (fun _ hk => hk))); (try (have hx41_0 := hcc41 0 _ rfl)); (try (try simp only [show (k63).sz = 2 from rfl, Nat.mul_one, Nat.add_zero] at hx41_0)); (try (have hf41_0 := hfr41 0)); (try (try simp only [show (k63).sz = 2 from rfl, Nat.mul_one, Nat.add_zero] at hf41_0)); (try (have hx41_1 := hcc41 1 _ rfl)); (try (try simp only [show (k63).sz = 2 from rfl, Nat.mul_one, Nat.add_zero] at hx41_1)); (try (have hf41_1 := hfr41 1)); (try (try simp only [show (k63).sz = 2 from rfl, Nat.mul_one, Nat.add_zero] at hf41_1)); (try (clear hcl41 hcc41 hfr41 hM41)))); refine store_event (t := 63) (p := 54) (v := ?vo_w42) (w1 := ((w40.setCell ⟨go27, (x11_2 : Int).toNat * 2, none⟩ (.int .i64 (-1))).setCell ⟨go27, (x11_2 : Int).toNat * 2 + 1, none⟩ (.int .i64 1))) ?hg ?ho ?hn ?hr ?_; (case ho => rfl); (case hg => rfl); (case hn => rfl); (case hr => first | (go_simp; done) | (go_simp; rfl)); intro w42 hw; have hg : w40.grownBy w42 (some go27) := (by rw [hw]; exact HP41.2); have hp_ : Kd.R k63 63 w42 w.heap.size (fun _ => True) (.slice (some ⟨go27, 0, none⟩) x10_2.length co27) y768 := (by rw [hw, Ny768.out]; exact HP41.1); clear HP41; have n0_ := Aside0.mk (Kd.R_over' (v := (.slice (some ⟨go27, 0, none⟩) x10_2.length co27)) (by (with_reducible repeat (first | apply Kd.R_alloc | apply Kd.R_drewN | apply Kd.R_drew)); exact HO_9.out) (Kd.R_typed HO_10.out) (by decide) hg); have n1_ := Aside0.mk (hp_); have n2_ := Aside0.mk ((by rw [hw]; exact below_set (below_set (HB.out) GB27.out) GB27.out : Below w.heap.size w w42)); clear HO_9; clear HO_10; clear HB; have HO_9 := n0_; have HO_10 := n1_; have HB := n2_; clear n0_ n1_ n2_; clear hg hw hp_) | (go_at_call 83; (with_reducible refine (parse_earlier.calls (hG := ?hg) a0 x11_2 t769 t770 _ A28.out).mono ?_); (case hg => exact gw_now hG (by repeat (first | (with_reducible first | exact HB.out | apply below_alloc | apply pw_below_drewN | apply below_drew1) | exact HB.out))); rintro e w43 ⟨rfl, hb⟩; have n0_ := Aside0.mk (Kd.R_below (by (with_reducible repeat (first | apply Kd.R_alloc | apply Kd.R_drewN | apply Kd.R_drew)); exact HO_9.out) hb); have n1_ := Aside0.mk (Kd.R_below (by (with_reducible repeat (first | apply Kd.R_alloc | apply Kd.R_drewN | apply Kd.R_drew)); exact HO_10.out) hb); have n2_ := Aside0.mk (below_step (by repeat (first | (with_reducible first | exact HB.out | apply below_alloc | apply pw_below_drewN | apply below_drew1) | exact HB.out)) hb); clear HO_9; clear HO_10; clear HB; have HO_9 := n0_; have HO_10 := n1_; have HB := n2_; clear n0_ n1_ n2_; (try clear hb); (try clear hb2); (try clear hk); (try clear hi)) | ((with_reducible refine gate_dst (N := 12) rfl ?_); refine box_event ?hg (N := 12) ?hd (cs := #[.int .i64 0, .int .i64 0]) (t := 63) ?hr ?_; (case hd => rfl); (case hg => rfl); (case hr => first | (go_simp; done) | (go_simp; rfl)); intro gb771 hg w44 hbox hb; have n0_ := Aside0.mk (Kd.R_below (by (with_reducible repeat (first | apply Kd.R_alloc | apply Kd.R_drewN | apply Kd.R_drew)); exact HO_9.out) hb); have n1_ := Aside0.mk (Kd.R_below (Kd.R_elderB (by (with_reducible repeat (first | apply Kd.R_alloc | apply Kd.R_drewN | apply Kd.R_drew)); exact HO_10.out) gb771 (Nat.le_of_eq hg.symm)) hb); have n2_ := Aside0.mk (below_step (by repeat (first | (with_reducible first | exact HB.out | apply below_alloc | apply pw_below_drewN | apply below_drew1) | exact HB.out)) hb); have n3_ := Aside0.mk (hbox); have n4_ := Aside0.mk ((by rw [hg]; exact (below_size (by repeat (first | (with_reducible first | exact HB.out | apply below_alloc | apply pw_below_drewN | apply below_drew1) | exact HB.out))) : w.heap.size ≤ gb771)); have n5_ := Aside0.mk ((by rw [hg]; exact (below_size (by repeat (first | (with_reducible first | exact HB.out | apply below_alloc | apply pw_below_drewN | apply below_drew1) | exact HB.out))) : w.heap.size ≤ gb771)); clear HO_9; clear HO_10; clear HB; have HO_9 := n0_; have HO_10 := n1_; have HB := n2_; have BK771 := n3_; have GW771 := n4_; have GE771 := n5_; clear n0_ n1_ n2_ n3_ n4_ n5_; clear hb hbox hg; have hcz45_0 : w44.cell? ⟨gb771, 0, none⟩ = some (.int .i64 0) := (blk_cell BK771.out 0).trans rfl; have hcz45_1 : w44.cell? ⟨gb771, 1, none⟩ = some (.int .i64 0) := (blk_cell BK771.out 1).trans rfl; have hfz45_0 := blk_frozen BK771.out 0; have hfz45_1 := blk_frozen BK771.out 1))
                repeat (go_quiet (fail); try go_wp2)
                go_loopg [63] k2 (fun kq v63 w' => ∃ (x9_3 : List Int) (x10_3 : List (S63)) (x63_3 : Int) (x772000_3 : Int) (x772001_3 : Int), v63 = .int .i64 x63_3 ∧ Aside0 (parse_CheapP.l1 kq a0 a1 a2 x9_3 x10_3 x11_2 t770 x63_3 x772000_3 x772001_3 = some (r1, r2, r3)) ∧ Aside0 (kq ≤ k2) ∧ Aside0 (Kd.R (Kd.int .i64) 3 w' w.heap.size (fun _ => True) (.slice (some ⟨go25, 0, none⟩) x9_2.length co38) x9_3) ∧ Aside0 (Kd.R k63 63 w' w.heap.size (fun k_ => k_ ≠ gb771) (.slice (some ⟨go27, 0, none⟩) x10_2.length co27) x10_3) ∧ Aside0 (w'.heap[gb771]? = some (.cells #[.int .i64 x772000_3, .int .i64 x772001_3] 63 (0, 0))) ∧ Aside0 (Below w.heap.size w w'))
                case atStart => exact ⟨(y767), (y768), (0), (t769), (t770), (by first | rfl | (simp; done) | (simp [*]; done)), H', ⟨Nat.le_refl _⟩, ⟨by (with_reducible repeat (first | apply Kd.R_alloc | apply Kd.R_drewN | apply Kd.R_drew)); exact Kd.R_mono (Kd.R_far (p := ⟨gb771, 1, none⟩) (Kd.R_far (p := ⟨gb771, 0, none⟩) (Kd.R_types HO_9.out BK771.out (by decide)) (fun _ hk => hk.2) (.int .i64 t769)) (fun _ hk => hk.2) (.int .i64 t770)) (fun _ hk => trivial)⟩, ⟨by (with_reducible repeat (first | apply Kd.R_alloc | apply Kd.R_drewN | apply Kd.R_drew)); exact Kd.R_mono (Kd.R_far (p := ⟨gb771, 1, none⟩) (Kd.R_far (p := ⟨gb771, 0, none⟩) (Kd.R_mono HO_10.out (fun k_ hk => (⟨hk, hk.2⟩ : _ ∧ k_ ≠ gb771))) (fun _ hk => hk.2) (.int .i64 t769)) (fun _ hk => hk.2) (.int .i64 t770)) (fun _ hk => hk.1.2)⟩, ⟨by (with_reducible repeat (first | refine blk_drewN ?_ _ | refine blk_drew ?_ | refine blk_alloc ?_ _)); refine blk_put (cs := #[.int .i64 t769, .int .i64 0]) ?_ 1 _ rfl; (with_reducible repeat (first | refine blk_drewN ?_ _ | refine blk_drew ?_ | refine blk_alloc ?_ _)); refine blk_put (cs := #[.int .i64 0, .int .i64 0]) ?_ 0 _ rfl; (with_reducible repeat (first | refine blk_drewN ?_ _ | refine blk_drew ?_ | refine blk_alloc ?_ _)); exact BK771.out⟩, ⟨by repeat (first | (with_reducible first | exact HB.out | apply below_alloc | apply pw_below_drewN | apply below_drew1 | refine below_set ?_ GE771.out) | exact HB.out)⟩⟩
                case round =>
                 clear H'
                 try clear c1
                 try clear c2
                 try clear p2
                 try clear q2
                 try clear hx2
                 try clear c3
                 try clear hx3
                 try clear hf3
                 try clear c4
                 try clear hx4
                 try clear hf4
                 try clear c5
                 try clear c6
                 try clear p6
                 try clear p7
                 try clear q7
                 try clear hx7
                 try clear c10
                 try clear c12
                 try clear c12b0
                 try clear c12b1
                 try clear c13
                 try clear c13b0
                 try clear c13b1
                 try clear c14
                 try clear c14b0
                 try clear c14b1
                 try clear c19
                 try clear c19b0
                 try clear c21
                 try clear c21b0
                 try clear c22
                 try clear c22b0
                 try clear c23
                 try clear c23b0
                 try clear c24
                 try clear c24b0
                 try clear p25
                 try clear q25
                 try clear hx25
                 try clear hf25
                 try clear c26
                 try clear c26b0
                 try clear c27
                 try clear p27
                 try clear q27
                 try clear hx27
                 try clear hf27
                 try clear c29
                 try clear c29b0
                 try clear c33
                 try clear hx33
                 try clear hf33
                 try clear c41
                 try clear hx41
                 try clear hf41
                 try clear hcz37_0
                 try clear hcz37_1
                 try clear hcz45_0
                 try clear hcz45_1
                 try clear hfz37_0
                 try clear hfz37_1
                 try clear hfz45_0
                 try clear hfz45_1
                 try clear hx25_0
                 try clear hx27_0
                 try clear hx27_1
                 try clear hx33_0
                 try clear hx33_1
                 try clear hx41_0
                 try clear hx41_1
                 try clear hx766_0
                 try clear p2
                 try clear p25
                 try clear p27
                 try clear p6
                 try clear p766
                 try clear q25
                 try clear q27
                 try clear q766
                 obtain ⟨x9_3, x10_3, x63_3, x772000_3, x772001_3, rfl, HA, HK3, HO_9, HO_10, BK771, HB⟩ := hrel
                 have hl9_3 := (Kd.R_reads' HO_9.out).1
                 rw [hl9_3] at HO_9
                 (try simp only [hl9_3])
                 (try simp only [hl9_3] at BK771)
                 (try simp only [hl9_3] at HO_10)
                 have hl10_3 := (Kd.R_reads' HO_10.out).1
                 rw [hl10_3] at HO_10
                 (try simp only [hl10_3])
                 (try simp only [hl10_3] at BK771)
                 (try simp only [hl10_3] at HO_9)
                 cases gk with
                 | zero => exact absurd HA.out (by simp [parse_CheapP.l1])
                 | succ k3 =>
                  have H := HA.out
                  clear HA
                  simp only [parse_CheapP.l1] at H
                  by_cases c46 : x63_3 < t770
                  ·rw [if_pos c46] at H
                   have c46b0 : decide (x63_3 < t770) = true := decide_eq_true c46
                   clear c46
                   obtain ⟨ji47, hji47⟩ : ∃ j_ : Int, (wrap64 ((wrap64 (x11_2 + x63_3)) + 1)) = j_ := ⟨_, rfl⟩
                   replace H : (if 0 ≤ (ji47) then (if (ji47) < (x9_3.length : Int) then (if 0 ≤ x11_2 then (if x11_2 < (x9_3.length : Int) then (if (wrap64 (a2 + (rd x9_3 (ji47)))) < (rd x9_3 x11_2) then (if x11_2 < (x10_3.length : Int) then (parse_CheapP.l1 k3 a0 a1 a2 (x9_3.set (x11_2 : Int).toNat (wrap64 (a2 + (rd x9_3 (ji47))))) (x10_3.set (x11_2 : Int).toNat (⟨x772000_3, wrap64 (x63_3 + 1)⟩ : S63)) x11_2 t770 (wrap64 (x63_3 + 1)) x772000_3 x772001_3) else (none)) else (parse_CheapP.l1 k3 a0 a1 a2 x9_3 x10_3 x11_2 t770 (wrap64 (x63_3 + 1)) x772000_3 x772001_3)) else (none)) else (none)) else (none)) else (none)) = some (r1, r2, r3) := by first | (rw [hji47] at H; exact H) | (simp only [hji47] at H ⊢; exact H)
                   have hji47w : (IntKind.i64.wrap ((wrap64 (x11_2 + x63_3)) + 1)) = ji47 := (i64_w _).trans hji47
                   by_cases c48 : 0 ≤ (ji47)
                   ·rw [if_pos c48] at H
                    have c48b0 : decide (0 ≤ (ji47)) = true := decide_eq_true c48
                    clear c48
                    by_cases c49 : (ji47) < (x9_3.length : Int)
                    ·rw [if_pos c49] at H
                     have c49b0 : decide ((ji47) < (x9_3.length : Int)) = true := decide_eq_true c49
                     clear c49
                     by_cases c50 : 0 ≤ x11_2
                     ·rw [if_pos c50] at H
                      have c50b0 : decide (0 ≤ x11_2) = true := decide_eq_true c50
                      clear c50
                      by_cases c51 : x11_2 < (x9_3.length : Int)
                      ·rw [if_pos c51] at H
                       have c51b0 : decide (x11_2 < (x9_3.length : Int)) = true := decide_eq_true c51
                       clear c51
                       by_cases c52 : (wrap64 (a2 + (rd x9_3 (ji47)))) < (rd x9_3 x11_2)
                       ·rw [if_pos c52] at H
                        have c52b0 : decide ((wrap64 (a2 + (rd x9_3 (ji47)))) < (rd x9_3 x11_2)) = true := decide_eq_true c52
                        clear c52
                        obtain ⟨y774, hy774⟩ : ∃ y_ : List Int, y_ = (x9_3.set (x11_2 : Int).toNat (wrap64 (a2 + (rd x9_3 (ji47))))) := ⟨_, rfl⟩
                        replace H : (if x11_2 < (x10_3.length : Int) then (parse_CheapP.l1 k3 a0 a1 a2 y774 (x10_3.set (x11_2 : Int).toNat (⟨x772000_3, wrap64 (x63_3 + 1)⟩ : S63)) x11_2 t770 (wrap64 (x63_3 + 1)) x772000_3 x772001_3) else (none)) = some (r1, r2, r3) := by first | (rw [hy774]; with_reducible exact H) | (have H2_ := (Option.bind_some _ _).symm.trans H; rw [hy774]; with_reducible exact H2_) | (have H2_ := (Option.bind_some _ _).symm.trans H; with_reducible exact H2_) | with_reducible exact H | (rw [hy774]; exact H) | exact H
                        have Ny774 := Aside0.mk hy774
                        clear hy774
                        by_cases c54 : x11_2 < (x10_3.length : Int)
                        ·rw [if_pos c54] at H
                         have c54b0 : decide (x11_2 < (x10_3.length : Int)) = true := decide_eq_true c54
                         clear c54
                         obtain ⟨y775, hy775⟩ : ∃ y_ : List (S63), y_ = (x10_3.set (x11_2 : Int).toNat (⟨x772000_3, wrap64 (x63_3 + 1)⟩ : S63)) := ⟨_, rfl⟩
                         replace H : (parse_CheapP.l1 k3 a0 a1 a2 y774 y775 x11_2 t770 (wrap64 (x63_3 + 1)) x772000_3 x772001_3) = some (r1, r2, r3) := by first | (rw [hy775]; with_reducible exact H) | (have H2_ := (Option.bind_some _ _).symm.trans H; rw [hy775]; with_reducible exact H2_) | (have H2_ := (Option.bind_some _ _).symm.trans H; with_reducible exact H2_) | with_reducible exact H | (rw [hy775]; exact H) | exact H
                         have Ny775 := Aside0.mk hy775
                         clear hy775
                         have H' := Aside0.mk H
                         clear H
                         have p772 : 0 ≤ ((ji47) : Int) := of_decide_eq_true (by first | (with_reducible assumption) | assumption)
                         have q772 : (ji47) < (x9_3.length : Int) := of_decide_eq_true (by first | (with_reducible assumption) | assumption)
                         obtain ⟨ad772, e772, hx772_0⟩ := Kd.at_int (Kd.R_reads' HO_9.out).2.2 (ji47) p772 q772
                         obtain rfl : (⟨go25, 0, none⟩ : Addr) = ad772 := (by injection e772)
                         (first | simp only [add_plain] at hx772_0 | simp only [add_at] at hx772_0 | simp only [Addr.add, Nat.zero_add] at hx772_0 | skip)
                         replace p772 := eq_true p772
                         replace q772 := eq_true q772
                         have p773 : 0 ≤ (x11_2 : Int) := of_decide_eq_true (by first | (with_reducible assumption) | assumption)
                         have q773 : x11_2 < (x9_3.length : Int) := of_decide_eq_true (by first | (with_reducible assumption) | assumption)
                         obtain ⟨ad773, e773, hx773_0⟩ := Kd.at_int (Kd.R_reads' HO_9.out).2.2 x11_2 p773 q773
                         obtain rfl : (⟨go25, 0, none⟩ : Addr) = ad773 := (by injection e773)
                         (first | simp only [add_plain] at hx773_0 | simp only [add_at] at hx773_0 | simp only [Addr.add, Nat.zero_add] at hx773_0 | skip)
                         replace p773 := eq_true p773
                         replace q773 := eq_true q773
                         have hcz56_0 : wr.cell? ⟨gb771, 0, none⟩ = some (.int .i64 x772000_3) := (blk_cell BK771.out 0).trans rfl
                         have hcz56_1 : wr.cell? ⟨gb771, 1, none⟩ = some (.int .i64 x772001_3) := (blk_cell BK771.out 1).trans rfl
                         have hfz56_0 := blk_frozen BK771.out 0
                         have hfz56_1 := blk_frozen BK771.out 1
                         have p53 : 0 ≤ (x11_2 : Int) := of_decide_eq_true (by first | (with_reducible assumption) | assumption)
                         have q53 : (x11_2 : Int) < ((x9_3.length : Int) : Int) := of_decide_eq_true (by first | (with_reducible assumption) | assumption)
                         obtain ⟨hx53_0, hf53_0⟩ := Kd.R_celln 0 HO_9.out (x11_2 : Int) p53 q53
                         replace p53 := eq_true p53
                         replace q53 := eq_true q53
                         have HP57 := Kd.R_putg HO_9.out (x11_2 : Int) (wrap64 (a2 + (rd x9_3 (ji47))))
                         go_upto_region 16 with (fail)
                         refine start_ (n := 14) (S := fun w' => w'.cell? ⟨gb771, 0, none⟩ = some (.int .i64 x772000_3)) (ds := []) #[false, false, false, false, false, false, false, false, false, false, false, false, false, false] (by kernel_rfl) rfl rfl (hcz56_0) (fun hHeld => ?_)
                         refine pure_ (i := 0) (N := some 81) (v := ?_) (a' := ?_) #[true, false, false, false, false, false, false, false, false, false, false, false, false, false] rfl rfl (by kernel_rfl) (fun _ _ _ h => h) (Or.inl ⟨by rfl, ?_⟩) ?_ ?_
                         rotate_left
                         ·intro w'
                          go_simp
                          with_reducible rfl
                         rotate_left
                         ·simp only [Act.put, List.setIfInBounds_toArray, List.set_cons_zero, List.set_cons_succ, i64_w, i32_w]
                          rfl
                         refine pure_ (i := 1) (N := some 82) (v := ?_) (a' := ?_) #[true, true, false, false, false, false, false, false, false, false, false, false, false, false] rfl rfl (by kernel_rfl) (fun _ _ _ h => h) (Or.inl ⟨by rfl, ?_⟩) ?_ ?_
                         rotate_left
                         ·intro w'
                          go_simp
                          with_reducible rfl
                         rotate_left
                         ·simp only [Act.put, List.setIfInBounds_toArray, List.set_cons_zero, List.set_cons_succ, i64_w, i32_w]
                          rfl
                         refine pure_ (i := 2) (N := some 83) (v := ?_) (a' := ?_) #[true, true, true, false, false, false, false, false, false, false, false, false, false, false] rfl rfl (by kernel_rfl) (fun _ _ _ h => h) (Or.inl ⟨by rfl, ?_⟩) ?_ ?_
                         rotate_left
                         ·intro w'
                          go_simp
                          with_reducible rfl
                         rotate_left
                         ·simp only [Act.put, List.setIfInBounds_toArray, List.set_cons_zero, List.set_cons_succ, i64_w, i32_w]
                          rfl
                         refine pure_ (i := 3) (N := some 84) (v := ?_) (a' := ?_) #[true, true, true, true, false, false, false, false, false, false, false, false, false, false] rfl rfl (by kernel_rfl) (fun _ _ _ h => h) (Or.inl ⟨by rfl, ?_⟩) ?_ ?_
                         rotate_left
                         ·intro w'
                          go_simp
                          with_reducible rfl
                         rotate_left
                         ·simp only [Act.put, List.setIfInBounds_toArray, List.set_cons_zero, List.set_cons_succ, i64_w, i32_w]
                          rfl
                         refine pure_ (i := 4) (N := some 85) (v := ?_) (a' := ?_) #[true, true, true, true, true, false, false, false, false, false, false, false, false, false] rfl rfl (by kernel_rfl) (fun _ _ _ h => h) (Or.inl ⟨by rfl, ?_⟩) ?_ ?_
                         rotate_left
                         ·intro w'
                          go_simp
                          with_reducible rfl
                         rotate_left
                         ·simp only [Act.put, List.setIfInBounds_toArray, List.set_cons_zero, List.set_cons_succ, i64_w, i32_w]
                          rfl
                         refine pure_ (i := 5) (N := some 86) (v := ?_) (a' := ?_) #[true, true, true, true, true, true, false, false, false, false, false, false, false, false] rfl rfl (by kernel_rfl) (fun _ _ _ h => h) (Or.inl ⟨by rfl, ?_⟩) ?_ ?_
                         rotate_left
                         ·intro w'
                          go_simp
                          with_reducible rfl
                         rotate_left
                         ·simp only [Act.put, List.setIfInBounds_toArray, List.set_cons_zero, List.set_cons_succ, i64_w, i32_w]
                          rfl
                         refine pure_ (i := 7) (N := some 88) (v := ?_) (a' := ?_) #[true, true, true, true, true, true, false, true, false, false, false, false, false, false] rfl rfl (by kernel_rfl) (fun _ _ _ h => h) (Or.inl ⟨by rfl, ?_⟩) ?_ ?_
                         rotate_left
                         ·intro w'
                          go_simp
                          with_reducible rfl
                         rotate_left
                         ·simp only [Act.put, List.setIfInBounds_toArray, List.set_cons_zero, List.set_cons_succ, i64_w, i32_w]
                          rfl
                         refine pure_ (i := 8) (N := some 89) (v := ?_) (a' := ?_) #[true, true, true, true, true, true, false, true, true, false, false, false, false, false] rfl rfl (by kernel_rfl) (fun _ _ _ h => h) (Or.inl ⟨by rfl, ?_⟩) ?_ ?_
                         rotate_left
                         ·intro w'
                          go_simp
                          with_reducible rfl
                         rotate_left
                         ·simp only [Act.put, List.setIfInBounds_toArray, List.set_cons_zero, List.set_cons_succ, i64_w, i32_w]
                          rfl
                         refine pure_ (i := 10) (N := some 91) (v := ?_) (a' := ?_) #[true, true, true, true, true, true, false, true, true, false, true, false, false, false] rfl rfl (by kernel_rfl) (fun _ _ _ h => h) (Or.inl ⟨by rfl, ?_⟩) ?_ ?_
                         rotate_left
                         ·intro w'
                          go_simp
                          with_reducible rfl
                         rotate_left
                         ·simp only [Act.put, List.setIfInBounds_toArray, List.set_cons_zero, List.set_cons_succ, i64_w, i32_w]
                          rfl
                         refine take_ (i := 6) (N := some 87) (v := ?_) (a' := ?_) #[true, true, true, true, true, true, true, true, true, false, true, false, false, false] rfl rfl (by kernel_rfl) (fun _ _ _ h => h) (Or.inl ⟨by rfl, ?_⟩) hHeld ?_ ?_
                         rotate_left
                         ·intro w' s0
                          go_simp
                          with_reducible rfl
                         rotate_left
                         ·simp only [Act.put, List.setIfInBounds_toArray, List.set_cons_zero, List.set_cons_succ, i64_w, i32_w]
                          rfl
                         refine pure_ (i := 9) (N := some 90) (v := ?_) (a' := ?_) #[true, true, true, true, true, true, true, true, true, true, true, false, false, false] rfl rfl (by kernel_rfl) (fun _ _ _ h => h) (Or.inl ⟨by rfl, ?_⟩) ?_ ?_
                         rotate_left
                         ·intro w'
                          go_simp
                          with_reducible rfl
                         rotate_left
                         ·simp only [Act.put, List.setIfInBounds_toArray, List.set_cons_zero, List.set_cons_succ, i64_w, i32_w]
                          rfl
                         refine one_ (i := 11) (N := none) #[true, true, true, true, true, true, true, true, true, true, true, true, false, false] rfl rfl (by kernel_rfl) (by decide) (fun K hK => ?_)
                         refine skip_ (w1 := ?_) (by rfl) rfl ?_ ?_
                         rotate_left
                         ·go_simp
                          rfl
                         have HP57 := Kd.R_putg HO_9.out (x11_2 : Int) (wrap64 (a2 + (rd x9_3 (ji47))))
                         obtain ⟨w58, hw⟩ : ∃ w_, w_ = (wr.setCell ⟨go25, (x11_2 : Int).toNat, none⟩ (.int .i64 (wrap64 (a2 + (rd x9_3 (ji47)))))).drew := ⟨_, rfl⟩
                         rw [← hw]
                         have hg : wr.grownBy w58 (some go25) := (by rw [hw]; exact ⟨HP57.2.os, HP57.2.tape, HP57.2.output, HP57.2.size, HP57.2.block⟩)
                         have hp_ : Kd.R (Kd.int .i64) 3 w58 w.heap.size (fun _ => True) (.slice (some ⟨go25, 0, none⟩) x9_3.length co38) y774 := (by rw [hw, Ny774.out]; exact Kd.R_drew HP57.1)
                         clear HP57
                         have n0_ := Aside0.mk (hp_)
                         have n1_ := Aside0.mk (Kd.R_over' (v := (.slice (some ⟨go25, 0, none⟩) x9_3.length co38)) (by (with_reducible repeat (first | apply Kd.R_alloc | apply Kd.R_drewN | apply Kd.R_drew)); exact HO_10.out) (Kd.R_typed HO_9.out) (by decide) hg)
                         have n2_ := Aside0.mk (blk_grown (g := gb771) (o := .cells #[.int .i64 x772000_3, .int .i64 x772001_3] 63 (0, 0)) (by (with_reducible repeat (first | refine blk_drewN ?_ _ | refine blk_drew ?_ | refine blk_alloc ?_ _)); exact BK771.out) hg (Kd.R_ne HO_9.out BK771.out (by decide)))
                         have n3_ := Aside0.mk ((by rw [hw]; exact below_drew1 (below_set (HB.out) GB25.out) : Below w.heap.size w w58))
                         clear HO_9
                         clear HO_10
                         clear BK771
                         clear HB
                         have HO_9 := n0_
                         have HO_10 := n1_
                         have BK771 := n2_
                         have HB := n3_
                         clear n0_ n1_ n2_ n3_
                         clear hg hw hp_
                         have p55 : 0 ≤ (x11_2 : Int) := of_decide_eq_true (by first | (with_reducible assumption) | assumption)
                         have q55 : (x11_2 : Int) < ((x10_3.length : Int) : Int) := of_decide_eq_true (by first | (with_reducible assumption) | assumption)
                         obtain ⟨ce55, hcl55, hM55, hcc55, hfr55⟩ := Kd.R_elem HO_10.out z63 (x11_2 : Int) p55 q55
                         obtain rfl := k63_openM hM55
                         have hx55_0 : w58.cell? ⟨go27, (x11_2 : Int).toNat * 2, none⟩ = some (.int .i64 ((rd_T63 x10_3 x11_2).f0)) := hcc55 0 _ rfl
                         have hx55_1 : w58.cell? ⟨go27, (x11_2 : Int).toNat * 2 + 1, none⟩ = some (.int .i64 ((rd_T63 x10_3 x11_2).f1)) := hcc55 1 _ rfl
                         have hf55_0 : w58.frozen? ⟨go27, (x11_2 : Int).toNat * 2, none⟩ = false := hfr55 0
                         have hf55_1 : w58.frozen? ⟨go27, (x11_2 : Int).toNat * 2 + 1, none⟩ = false := hfr55 1
                         clear hcl55 hcc55 hfr55 hM55
                         replace p55 := eq_true p55
                         replace q55 := eq_true q55
                         have HX59 := Aside0.mk (show Kd.R k63 63 w58 w.heap.size (fun k_ => k_ ≠ gb771) (.slice (some ⟨go27, 0, none⟩) x10_3.length co27) x10_3 from (by (with_reducible repeat (first | apply Kd.R_alloc | apply Kd.R_drewN | apply Kd.R_drew)); exact HO_10.out))
                         obtain ⟨ce59, hcl59, hM59, hcc59, hfr59⟩ := Kd.R_elem HX59.out z63 (x11_2 : Int) (of_decide_eq_true (by first | (with_reducible assumption) | assumption)) (by have h_ : (x11_2 : Int) < ((x10_3.length : Int) : Int) := of_decide_eq_true (by first | (with_reducible assumption) | assumption); first | exact h_ | (have e_ := (Kd.R_reads' HO_10.out).1; omega) | simpa using h_)
                         obtain rfl := k63_openM hM59
                         have HP59 := Kd.R_seg HX59.out (x11_2 : Int) (of_decide_eq_true (by first | (with_reducible assumption) | assumption)) (by have h_ : (x11_2 : Int) < ((x10_3.length : Int) : Int) := of_decide_eq_true (by first | (with_reducible assumption) | assumption); first | exact h_ | (have e_ := (Kd.R_reads' HO_10.out).1; omega) | simpa using h_) (seg := [.int .i64 x772000_3, .int .i64 (wrap64 (x63_3 + 1))]) (j := 0) hcl59 hcc59 (show 2 ≤ 2 from by decide) (x' := (⟨x772000_3, wrap64 (x63_3 + 1)⟩ : S63)) (k63_mkM _ _ _ (⟨x772000_3, wrap64 (x63_3 + 1)⟩ : S63) ) (fun _ hk => hk)
                         have hx59_0 := hcc59 0 _ rfl
                         (try simp only [show (k63).sz = 2 from rfl, Nat.mul_one, Nat.add_zero] at hx59_0)
                         have hf59_0 := hfr59 0
                         (try simp only [show (k63).sz = 2 from rfl, Nat.mul_one, Nat.add_zero] at hf59_0)
                         have hx59_1 := hcc59 1 _ rfl
                         (try simp only [show (k63).sz = 2 from rfl, Nat.mul_one, Nat.add_zero] at hx59_1)
                         have hf59_1 := hfr59 1
                         (try simp only [show (k63).sz = 2 from rfl, Nat.mul_one, Nat.add_zero] at hf59_1)
                         clear hcl59 hcc59 hfr59 hM59
                         have hcz58 : w58.cell? ⟨gb771, 0, none⟩ = some (.int .i64 x772000_3) := (blk_cell BK771.out 0).trans rfl
                         refine hK.out _ _ (hcz58) (fun hHeld => ?_)
                         clear hK K
                         refine pure_ (i := 12) (N := some 92) (v := ?_) (a' := ?_) #[true, true, true, true, true, true, true, true, true, true, true, true, true, false] rfl rfl (by kernel_rfl) (fun _ _ _ h => h) (Or.inl ⟨by rfl, ?_⟩) ?_ ?_
                         rotate_left
                         ·intro w'
                          go_simp
                          with_reducible rfl
                         rotate_left
                         ·simp only [Act.put, List.setIfInBounds_toArray, List.set_cons_zero, List.set_cons_succ, i64_w, i32_w]
                          rfl
                         refine one_ (i := 13) (N := none) #[true, true, true, true, true, true, true, true, true, true, true, true, true, true] rfl rfl (by kernel_rfl) (by decide) (fun K hK => ?_)
                         refine skip_ (w1 := ?_) (by rfl) rfl ?_ ?_
                         rotate_left
                         ·go_simp
                          rfl
                         obtain ⟨w60, hw⟩ : ∃ w_, w_ = ((w58.setCell ⟨go27, (x11_2 : Int).toNat * 2, none⟩ (.int .i64 x772000_3)).setCell ⟨go27, (x11_2 : Int).toNat * 2 + 1, none⟩ (.int .i64 (wrap64 (x63_3 + 1)))) := ⟨_, rfl⟩
                         rw [← hw]
                         have hg : w58.grownBy w60 (some go27) := (by rw [hw]; exact HP59.2)
                         have hp_ : Kd.R k63 63 w60 w.heap.size (fun k_ => k_ ≠ gb771) (.slice (some ⟨go27, 0, none⟩) x10_3.length co27) y775 := (by rw [hw, Ny775.out]; exact HP59.1)
                         clear HP59
                         have n0_ := Aside0.mk (Kd.R_over' (v := (.slice (some ⟨go27, 0, none⟩) x10_3.length co27)) (by (with_reducible repeat (first | apply Kd.R_alloc | apply Kd.R_drewN | apply Kd.R_drew)); exact HO_9.out) (Kd.R_typed HO_10.out) (by decide) hg)
                         have n1_ := Aside0.mk (hp_)
                         have n2_ := Aside0.mk (blk_grown (g := gb771) (o := .cells #[.int .i64 x772000_3, .int .i64 x772001_3] 63 (0, 0)) (by (with_reducible repeat (first | refine blk_drewN ?_ _ | refine blk_drew ?_ | refine blk_alloc ?_ _)); exact BK771.out) hg (Kd.R_away HO_10.out (fun _ hk => hk)))
                         have n3_ := Aside0.mk ((by rw [hw]; exact below_set (below_set (HB.out) GB27.out) GB27.out : Below w.heap.size w w60))
                         clear HO_9
                         clear HO_10
                         clear BK771
                         clear HB
                         have HO_9 := n0_
                         have HO_10 := n1_
                         have BK771 := n2_
                         have HB := n3_
                         clear n0_ n1_ n2_ n3_
                         clear hg hw hp_
                         have hcz60 : w60.cell? ⟨gb771, 0, none⟩ = some (.int .i64 x772000_3) := (blk_cell BK771.out 0).trans rfl
                         refine hK.out _ _ (hcz60) (fun hHeld => ?_)
                         clear hK K
                         refine done_ (by kernel_rfl) ?_
                         go_wp2
                         (try simp only [← hl9_3, ← hl10_3])
                         go_roundg k3
                         case measure => have := HJ3.out; have := HK2.out; have := HK3.out; omega
                         case rel => exact ⟨(y774), (y775), (wrap64 (x63_3 + 1)), (x772000_3), (x772001_3), (by first | rfl | (simp; done) | (simp [*]; done)), H', ⟨by have := HJ3.out; have := HK2.out; have := HK3.out; omega⟩, ⟨by (try simp only [hl9_3]); (try simp only [hl10_3]); (with_reducible repeat (first | apply Kd.R_alloc | apply Kd.R_drewN | apply Kd.R_drew)); exact HO_9.out⟩, ⟨by (try simp only [hl9_3]); (try simp only [hl10_3]); (with_reducible repeat (first | apply Kd.R_alloc | apply Kd.R_drewN | apply Kd.R_drew)); exact HO_10.out⟩, ⟨by (try simp only [hl9_3]); (try simp only [hl10_3]); (with_reducible repeat (first | refine blk_drewN ?_ _ | refine blk_drew ?_ | refine blk_alloc ?_ _)); exact BK771.out⟩, ⟨by repeat (first | (with_reducible first | exact HB.out | apply below_alloc | apply pw_below_drewN | apply below_drew1 | refine below_set ?_ GE771.out) | exact HB.out)⟩⟩
                        ·rw [if_neg c54] at H
                         exact absurd H (by simp)
                       ·rw [if_neg c52] at H
                        have c52b0 : decide ((wrap64 (a2 + (rd x9_3 (ji47)))) < (rd x9_3 x11_2)) = false := decide_eq_false c52
                        clear c52
                        have H' := Aside0.mk H
                        clear H
                        have p772 : 0 ≤ ((ji47) : Int) := of_decide_eq_true (by first | (with_reducible assumption) | assumption)
                        have q772 : (ji47) < (x9_3.length : Int) := of_decide_eq_true (by first | (with_reducible assumption) | assumption)
                        obtain ⟨ad772, e772, hx772_0⟩ := Kd.at_int (Kd.R_reads' HO_9.out).2.2 (ji47) p772 q772
                        obtain rfl : (⟨go25, 0, none⟩ : Addr) = ad772 := (by injection e772)
                        (first | simp only [add_plain] at hx772_0 | simp only [add_at] at hx772_0 | simp only [Addr.add, Nat.zero_add] at hx772_0 | skip)
                        replace p772 := eq_true p772
                        replace q772 := eq_true q772
                        have p773 : 0 ≤ (x11_2 : Int) := of_decide_eq_true (by first | (with_reducible assumption) | assumption)
                        have q773 : x11_2 < (x9_3.length : Int) := of_decide_eq_true (by first | (with_reducible assumption) | assumption)
                        obtain ⟨ad773, e773, hx773_0⟩ := Kd.at_int (Kd.R_reads' HO_9.out).2.2 x11_2 p773 q773
                        obtain rfl : (⟨go25, 0, none⟩ : Addr) = ad773 := (by injection e773)
                        (first | simp only [add_plain] at hx773_0 | simp only [add_at] at hx773_0 | simp only [Addr.add, Nat.zero_add] at hx773_0 | skip)
                        replace p773 := eq_true p773
                        replace q773 := eq_true q773
                        go_wp2
                        repeat (go_quiet (fail); try go_wp2)
                        (try simp only [← hl9_3, ← hl10_3])
                        go_roundg k3
                        case measure => have := HJ3.out; have := HK2.out; have := HK3.out; omega
                        case rel => exact ⟨(x9_3), (x10_3), (wrap64 (x63_3 + 1)), (x772000_3), (x772001_3), (by first | rfl | (simp; done) | (simp [*]; done)), H', ⟨by have := HJ3.out; have := HK2.out; have := HK3.out; omega⟩, ⟨by (try simp only [hl9_3]); (try simp only [hl10_3]); (with_reducible repeat (first | apply Kd.R_alloc | apply Kd.R_drewN | apply Kd.R_drew)); exact HO_9.out⟩, ⟨by (try simp only [hl9_3]); (try simp only [hl10_3]); (with_reducible repeat (first | apply Kd.R_alloc | apply Kd.R_drewN | apply Kd.R_drew)); exact HO_10.out⟩, ⟨by (try simp only [hl9_3]); (try simp only [hl10_3]); (with_reducible repeat (first | refine blk_drewN ?_ _ | refine blk_drew ?_ | refine blk_alloc ?_ _)); exact BK771.out⟩, ⟨by repeat (first | (with_reducible first | exact HB.out | apply below_alloc | apply pw_below_drewN | apply below_drew1 | refine below_set ?_ GE771.out) | exact HB.out)⟩⟩
                      ·rw [if_neg c51] at H
                       exact absurd H (by simp)
                     ·rw [if_neg c50] at H
                      exact absurd H (by simp)
                    ·rw [if_neg c49] at H
                     exact absurd H (by simp)
                   ·rw [if_neg c48] at H
                    exact absurd H (by simp)
                  ·rw [if_neg c46] at H
                   have c46b0 : decide (x63_3 < t770) = false := decide_eq_false c46
                   clear c46
                   have H' := Aside0.mk H
                   clear H
                   go_wp2
                   repeat (go_quiet (fail); try go_wp2)
                   (try simp only [← hl9_3, ← hl10_3])
                   go_roundg k3
                   case measure => have := HJ3.out; have := HK2.out; have := HK3.out; omega
                   case rel => exact ⟨(x9_3), (x10_3), (wrap64 (x11_2 - 1)), (by first | rfl | (simp; done) | (simp [*]; done)), H', ⟨by have := HJ3.out; have := HK2.out; have := HK3.out; omega⟩, ⟨by (try simp only [hl9_3]); (try simp only [hl10_3]); (with_reducible repeat (first | apply Kd.R_alloc | apply Kd.R_drewN | apply Kd.R_drew)); exact HO_9.out⟩, ⟨by (try simp only [hl9_3]); (try simp only [hl10_3]); (with_reducible repeat (first | apply Kd.R_alloc | apply Kd.R_drewN | apply Kd.R_drew)); exact Kd.R_mono HO_10.out (fun _ hk => trivial)⟩, ⟨by repeat (first | (with_reducible first | exact HB.out | apply below_alloc | apply pw_below_drewN | apply below_drew1 | refine below_set ?_ GE771.out) | exact HB.out)⟩⟩
              ·rw [if_neg c26] at H
               exact absurd H (by simp)
             ·rw [if_neg c24] at H
              exact absurd H (by simp)
            ·rw [if_neg c23] at H
             exact absurd H (by simp)
           ·rw [if_neg c22] at H
            exact absurd H (by simp)
          ·rw [if_neg c21] at H
           exact absurd H (by simp)
         ·rw [if_neg c19] at H
          have c19b0 : decide (0 ≤ x11_2) = false := decide_eq_false c19
          clear c19
          have H' := Aside0.mk H
          clear H
          go_wp2
          repeat (go_quiet (fail); try go_wp2)
          go_loopg [15, 16] k2 (fun kq v15 v16 w' => ∃ (x15_3 : List (S63)) (x16_3 : Int), v16 = .int .i64 x16_3 ∧ Aside0 (parse_CheapP.l2 kq a0 x9_2 x10_2 x15_3 x16_3 = some (r1, r2, r3)) ∧ Aside0 (kq ≤ k2) ∧ Aside0 (Kd.R (Kd.int .i64) 3 w' w.heap.size (fun _ => True) v761 x9_2) ∧ Aside0 (Kd.R k63 63 w' w.heap.size (fun k_ => some k_ ≠ (v15 : Value).ownBlock) v764 x10_2) ∧ Aside0 (Kd.R k63 63 w' w.heap.size (fun k_ => some k_ ≠ (v764 : Value).ownBlock) v15 x15_3) ∧ Aside0 (Below w.heap.size w w'))
          case atStart => exact ⟨(([] : List (S63))), (0), (by first | rfl | (simp; done) | (simp [*]; done)), H', ⟨Nat.le_refl _⟩, ⟨by (with_reducible repeat (first | apply Kd.R_alloc | apply Kd.R_drewN | apply Kd.R_drew)); exact HO_9.out⟩, ⟨by (with_reducible repeat (first | apply Kd.R_alloc | apply Kd.R_drewN | apply Kd.R_drew)); exact Kd.R_mono HO_10.out (fun _ hk => (by simp [Value.ownBlock]))⟩, ⟨by first | exact Kd.R_nil _ _ _ _ _ | exact Kd.N_nil _ _ _ _ _ | exact Kd.V_nil _ _ _ _ _ | exact Kd.Q_nil _ _ _ _ _ | exact Kd.S_nil _ _ _ _ _⟩, ⟨by repeat (first | (with_reducible first | exact HB.out | apply below_alloc | apply pw_below_drewN | apply below_drew1) | exact HB.out)⟩⟩
          case round =>
           clear H'
           try clear c1
           try clear c2
           try clear p2
           try clear q2
           try clear hx2
           try clear c3
           try clear hx3
           try clear hf3
           try clear c4
           try clear hx4
           try clear hf4
           try clear c5
           try clear p5
           try clear q5
           try clear hx5
           try clear hf5
           try clear c6
           try clear p6
           try clear p7
           try clear q7
           try clear hx7
           try clear c10
           try clear c12
           try clear c12b0
           try clear c12b1
           try clear c13
           try clear c13b0
           try clear c13b1
           try clear c14
           try clear c14b0
           try clear c14b1
           try clear c19
           try clear c19b0
           try clear c21
           try clear c21b0
           try clear c22
           try clear c22b0
           try clear c23
           try clear c23b0
           try clear c24
           try clear c24b0
           try clear p25
           try clear q25
           try clear hx25
           try clear hf25
           try clear c26
           try clear c26b0
           try clear c27
           try clear p27
           try clear q27
           try clear hx27
           try clear hf27
           try clear c29
           try clear c29b0
           try clear c33
           try clear hx33
           try clear hf33
           try clear c41
           try clear hx41
           try clear hf41
           try clear c46
           try clear c46b0
           try clear c48
           try clear c48b0
           try clear c49
           try clear c49b0
           try clear c50
           try clear c50b0
           try clear c51
           try clear c51b0
           try clear c52
           try clear c52b0
           try clear p53
           try clear q53
           try clear hx53
           try clear hf53
           try clear c54
           try clear c54b0
           try clear c55
           try clear p55
           try clear q55
           try clear hx55
           try clear hf55
           try clear c59
           try clear hx59
           try clear hf59
           try clear hcz37_0
           try clear hcz37_1
           try clear hcz45_0
           try clear hcz45_1
           try clear hcz56_0
           try clear hcz56_1
           try clear hfz37_0
           try clear hfz37_1
           try clear hfz45_0
           try clear hfz45_1
           try clear hfz56_0
           try clear hfz56_1
           try clear hx25_0
           try clear hx27_0
           try clear hx27_1
           try clear hx33_0
           try clear hx33_1
           try clear hx41_0
           try clear hx41_1
           try clear hx53_0
           try clear hx55_0
           try clear hx55_1
           try clear hx59_0
           try clear hx59_1
           try clear hx766_0
           try clear hx772_0
           try clear hx773_0
           try clear p2
           try clear p25
           try clear p27
           try clear p53
           try clear p55
           try clear p6
           try clear p7
           try clear p766
           try clear p772
           try clear p773
           try clear q2
           try clear q25
           try clear q27
           try clear q53
           try clear q55
           try clear q7
           try clear q766
           try clear q772
           try clear q773
           obtain ⟨x15_3, x16_3, rfl, HA, HK3, HO_9, HO_10, HO_15, HB⟩ := hrel
           cases gk with
           | zero => exact absurd HA.out (by simp [parse_CheapP.l2])
           | succ k3 =>
            have H := HA.out
            clear HA
            simp only [parse_CheapP.l2] at H
            by_cases c61 : x16_3 < (a0.size : Int)
            ·rw [if_pos c61] at H
             have c61b0 : decide (x16_3 < (a0.size : Int)) = true := decide_eq_true c61
             clear c61
             by_cases c62 : 0 ≤ x16_3
             ·rw [if_pos c62] at H
              have c62b0 : decide (0 ≤ x16_3) = true := decide_eq_true c62
              clear c62
              by_cases c63 : x16_3 < (x10_2.length : Int)
              ·rw [if_pos c63] at H
               have c63b0 : decide (x16_3 < (x10_2.length : Int)) = true := decide_eq_true c63
               clear c63
               by_cases c64 : x15_3.length < 8796093022208
               ·rw [if_pos c64] at H
                have LMc64 := Aside0.mk c64
                clear c64
                obtain ⟨y777, hy777⟩ : ∃ y_ : List (S63), y_ = (x15_3 ++ [(⟨(rd_T63 x10_2 x16_3).f0, (rd_T63 x10_2 x16_3).f1⟩ : S63)]) := ⟨_, rfl⟩
                replace H : (parse_CheapP.l2 k3 a0 x9_2 x10_2 y777 (wrap64 (x16_3 + ((rd_T63 x10_2 x16_3).f1)))) = some (r1, r2, r3) := by first | (rw [hy777]; with_reducible exact H) | (have H2_ := (Option.bind_some _ _).symm.trans H; rw [hy777]; with_reducible exact H2_) | (have H2_ := (Option.bind_some _ _).symm.trans H; with_reducible exact H2_) | with_reducible exact H | (rw [hy777]; exact H) | exact H
                have Ny777 := Aside0.mk hy777
                clear hy777
                have H' := Aside0.mk H
                clear H
                obtain ⟨Ao65, co65, eo65⟩ := Kd.R_slice HO_10.out
                subst eo65
                have p776 : 0 ≤ (x16_3 : Int) := of_decide_eq_true (by first | (with_reducible assumption) | assumption)
                have q776 : x16_3 < (x10_2.length : Int) := of_decide_eq_true (by first | (with_reducible assumption) | assumption)
                obtain ⟨ad776, e776, hx776_0, hx776_1⟩ := at_T63 (Kd.R_reads' HO_10.out).2.2 x16_3 p776 q776
                cases e776
                replace p776 := eq_true p776
                replace q776 := eq_true q776
                go_wp2_with (first | ((with_reducible refine gate_builtin (b := .append) (xs := #[.tmp 105, .tmp 110]) rfl ?_); at_builtin; refine Kd.R_append k63 (w0 := w) w.heap.size rfl (.tmp 105) (.tmp 110) 23 63 (.agg #[(.int .i64 0), (.int .i64 0)]) 16 rfl Tryd.underlying23 info63 rfl (by decide) (by omega) u15 x15_3 (⟨(rd_T63 x10_2 x16_3).f0, (rd_T63 x10_2 x16_3).f1⟩ : S63) [.int .i64 ((rd_T63 x10_2 x16_3).f0), .int .i64 ((rd_T63 x10_2 x16_3).f1)] (fun k_ => some k_ ≠ (.slice (some ad776) x10_2.length co65 : Value).ownBlock) (fun _ => False) rfl rfl ?aP (fun _ hk => hk.elim) ?aF ?aO ?aB ?aS ?aL ?_; (case aP => exact k63_mkM _ _ _ (⟨(rd_T63 x10_2 x16_3).f0, (rd_T63 x10_2 x16_3).f1⟩ : S63)); (case aB => exact (by repeat (first | (with_reducible first | exact HB.out | apply below_alloc | apply pw_below_drewN | apply below_drew1) | exact HB.out))); (case aF => exact (fun k_ hk => Kd.fresh' (Kd.R_lt (by (with_reducible repeat (first | apply Kd.R_alloc | apply Kd.R_drewN | apply Kd.R_drew)); exact HO_10.out)) k_ hk)); (case aO => exact (by (with_reducible repeat (first | apply Kd.R_alloc | apply Kd.R_drewN | apply Kd.R_drew)); exact HO_15.out)); (case aS => exact (below_size (by repeat (first | (with_reducible first | exact HB.out | apply below_alloc | apply pw_below_drewN | apply below_drew1) | exact HB.out)))); (case aL => have := LMc64.out; omega); intro v778 w66 ho hb hg hat; rw [← Ny777.out] at ho; have n0_ := Aside0.mk (Kd.R_over' (by (with_reducible repeat (first | apply Kd.R_alloc | apply Kd.R_drewN | apply Kd.R_drew)); exact HO_9.out) (Kd.R_typed (by (with_reducible repeat (first | apply Kd.R_alloc | apply Kd.R_drewN | apply Kd.R_drew)); exact HO_15.out)) (by decide) hg); have n1_ := Aside0.mk (Kd.R_after (ok := (fun _ => True)) (by (with_reducible repeat (first | apply Kd.R_alloc | apply Kd.R_drewN | apply Kd.R_drew)); exact Kd.R_mono HO_10.out (fun _ hk => ⟨trivial, hk⟩)) hg hat); have n2_ := Aside0.mk (hb); have n3_ := Aside0.mk (ho); clear HO_9; clear HO_10; clear HB; clear HO_15; have HO_9 := n0_; have HO_10 := n1_; have HB := n2_; have HO779 := n3_; clear n0_ n1_ n2_ n3_; clear ho hb hg hat; have p780 : 0 ≤ (x16_3 : Int) := of_decide_eq_true (by first | (with_reducible assumption) | assumption); have q780 : x16_3 < (x10_2.length : Int) := of_decide_eq_true (by first | (with_reducible assumption) | assumption); obtain ⟨ad780, e780, hx780_0, hx780_1⟩ := at_T63 (Kd.R_reads' HO_10.out).2.2 x16_3 p780 q780; obtain rfl : ad776 = ad780 := (by injection e780); replace p780 := eq_true p780; replace q780 := eq_true q780))
                repeat (go_quiet (fail); try go_wp2)
                go_roundg k3
                case measure => have := HJ3.out; have := HK2.out; have := HK3.out; omega
                case rel => exact ⟨(y777), (wrap64 (x16_3 + ((rd_T63 x10_2 x16_3).f1))), (by first | rfl | (simp; done) | (simp [*]; done)), H', ⟨by have := HJ3.out; have := HK2.out; have := HK3.out; omega⟩, ⟨by (with_reducible repeat (first | apply Kd.R_alloc | apply Kd.R_drewN | apply Kd.R_drew)); exact HO_9.out⟩, ⟨by (with_reducible repeat (first | apply Kd.R_alloc | apply Kd.R_drewN | apply Kd.R_drew)); exact Kd.R_mono HO_10.out (fun _ hk => hk.2)⟩, ⟨by (with_reducible repeat (first | apply Kd.R_alloc | apply Kd.R_drewN | apply Kd.R_drew)); exact HO779.out⟩, ⟨by repeat (first | (with_reducible first | exact HB.out | apply below_alloc | apply pw_below_drewN | apply below_drew1) | exact HB.out)⟩⟩
               ·rw [if_neg c64] at H
                exact absurd H (by simp)
              ·rw [if_neg c63] at H
               exact absurd H (by simp)
             ·rw [if_neg c62] at H
              exact absurd H (by simp)
            ·rw [if_neg c61] at H
             have c61b0 : decide (x16_3 < (a0.size : Int)) = false := decide_eq_false c61
             clear c61
             by_cases c67 : 0 < (x9_2.length : Int)
             ·rw [if_pos c67] at H
              have c67b0 : decide (0 < (x9_2.length : Int)) = true := decide_eq_true c67
              have c67b1 : decide (0 < x9_2.length) = true := decide_eq_true (by omega)
              clear c67
              simp only [Option.some.injEq, Prod.mk.injEq] at H
              obtain ⟨rfl, rfl, rfl⟩ := H
              obtain ⟨Ao68, co68, eo68⟩ := Kd.R_slice HO_9.out
              subst eo68
              have p781 : 0 ≤ (0 : Int) := (by omega)
              have q781 : 0 < (x9_2.length : Int) := of_decide_eq_true (by first | (with_reducible assumption) | assumption)
              obtain ⟨ad781, e781, hx781_0⟩ := Kd.at_int (Kd.R_reads' HO_9.out).2.2 0 p781 q781
              cases e781
              have qi781 : (0 < x9_2.length) = True := eq_true (by omega)
              (try rw [show ((0 : Int)).toNat = 0 from rfl] at hx781_0)
              (try rw [Addr.add_zero'] at hx781_0)
              replace p781 := eq_true p781
              replace q781 := eq_true q781
              go_wp2
              repeat (go_quiet (fail); try go_wp2)
              go_ret3
              exact ⟨_, by first | rfl | (simp [errW_none, errW_some] <;> rfl) | (simp only [← hji11]; first | rfl | (simp [errW_none, errW_some] <;> rfl)) | (simp [*, errW_none, errW_some] <;> rfl), by (with_reducible repeat (first | apply Kd.R_alloc | apply Kd.R_drewN | apply Kd.R_drew)); exact Kd.R_mono HO_15.out (fun _ hk => trivial), by repeat (first | (with_reducible first | exact HB.out | apply below_alloc | apply pw_below_drewN | apply below_drew1) | exact HB.out)⟩
             ·rw [if_neg c67] at H
              exact absurd H (by simp)
      ·rw [if_neg c14] at H
       exact absurd H (by simp)
     ·rw [if_neg c13] at H
      exact absurd H (by simp)
    ·rw [if_neg c12] at H
     exact absurd H (by simp)

end Go.Proofs.YtpeeflkodpnbpaaDoor.Pr
-- indented by one
