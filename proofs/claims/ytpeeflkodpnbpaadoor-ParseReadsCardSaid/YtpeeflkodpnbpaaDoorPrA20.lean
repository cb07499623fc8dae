-- Laid by wip/tools/inj.py of this project, which drives the kit's printer. Lean checks it.
import Derived.Test.YtpeeflkodpnbpaaDoorPr0
import Derived.Test.YtpeeflkodpnbpaaDoorPrA1
import Derived.Test.YtpeeflkodpnbpaaDoorPrA9
namespace Go.Proofs.YtpeeflkodpnbpaaDoor.Pr
open Go.RowKit Go.Proofs.YtpeeflkodpnbpaaDoorW.PrintWords Go.Proofs.YtpeeflkodpnbpaaDoorW.PrintLast Go.Proofs.YtpeeflkodpnbpaaDoorW.PrintMore
attribute [local go_sem] max2_int min2_int max_two min_two max_three min_three max_four min_four   -- for this text's walks alone
set_option linter.unusedVariables false
set_option linter.unusedSimpArgs false

theorem unl_size3 {a b e : ByteArray} {i j : Nat} (h : j ≤ e.size) : ((a ++ (b ++ e.extract i j)).size : Int) = (a.size : Int) + ((b.size : Int) + ((j - i : Nat) : Int)) := by
 rw [ByteArray.size_append, ByteArray.size_append, ByteArray.size_extract]; omega
theorem unl_size2 {a e : ByteArray} {i j : Nat} (h : j ≤ e.size) : ((a ++ e.extract i j).size : Int) = (a.size : Int) + ((j - i : Nat) : Int) := by
 rw [ByteArray.size_append, ByteArray.size_extract]; omega
/-! ### numnahref09_Unlearn: function 61 -/
mutual
def numnahref09_Unlearn.l0 : Nat → List (S63) → ByteArray → ByteArray → List ByteArray → Int → Option (ByteArray × Bool)
 | 0, _, _, _, _, _ => none
 | k + 1, x0, x1, x6, x7, x8 => if x8 < (x0.length : Int) then (if 0 ≤ x8 then (if ((rd_T63 x0 x8).f0) < 0 then (numnahref09_Unlearn.j1 k x0 x1 x6 x7 x8 true) else (numnahref09_Unlearn.j1 k x0 x1 x6 x7 x8 (decide (((rd_T63 x0 x8).f0) > x8)))) else (none)) else ((numnahref09_Learning.f k x6).bind fun t862 => ((numnahref09_Same.f k t862 x0).bind fun t865 => (some (x6, t865))))
def numnahref09_Unlearn.j1 : Nat → List (S63) → ByteArray → ByteArray → List ByteArray → Int → Bool → Option (ByteArray × Bool)
 | 0, _, _, _, _, _, _ => none
 | k + 1, x0, x1, x6, x7, x8, x35 => if x35 = true then (some ((⟨#[]⟩ : ByteArray), false)) else (if 0 ≤ x8 then (if x8 ≤ (wrap64 (x8 + 1)) then (if (wrap64 (x8 + 1)) ≤ (x1.size : Int) then (if x8 < (x0.length : Int) then (if ((rd_T63 x0 x8).f0) > 0 then (if 0 ≤ (wrap64 (((rd_T63 x0 x8).f0) - 1)) then (if (wrap64 (((rd_T63 x0 x8).f0) - 1)) < (x7.length : Int) then (if (rdOf ByteArray.empty x7 (wrap64 (((rd_T63 x0 x8).f0) - 1))).size + (x1.extract (x8 : Int).toNat ((wrap64 (x8 + 1)) : Int).toNat).size ≤ 9223372036854775807 then (if x7.length < 8796093022208 then (if x6.size + ((rdOf ByteArray.empty x7 (wrap64 (((rd_T63 x0 x8).f0) - 1))) ++ (x1.extract (x8 : Int).toNat ((wrap64 (x8 + 1)) : Int).toNat)).size ≤ 9223372036854775807 then (if ((x6 ++ ((rdOf ByteArray.empty x7 (wrap64 (((rd_T63 x0 x8).f0) - 1))) ++ (x1.extract (x8 : Int).toNat ((wrap64 (x8 + 1)) : Int).toNat))).size : Int) > 160 then (some ((⟨#[]⟩ : ByteArray), false)) else (numnahref09_Unlearn.l0 k x0 x1 (x6 ++ ((rdOf ByteArray.empty x7 (wrap64 (((rd_T63 x0 x8).f0) - 1))) ++ (x1.extract (x8 : Int).toNat ((wrap64 (x8 + 1)) : Int).toNat))) (x7 ++ [(rdOf ByteArray.empty x7 (wrap64 (((rd_T63 x0 x8).f0) - 1))) ++ (x1.extract (x8 : Int).toNat ((wrap64 (x8 + 1)) : Int).toNat)]) (wrap64 (x8 + 1)))) else (none)) else (none)) else (none)) else (none)) else (none)) else (if x7.length < 8796093022208 then (if x6.size + (x1.extract (x8 : Int).toNat ((wrap64 (x8 + 1)) : Int).toNat).size ≤ 9223372036854775807 then (if ((x6 ++ (x1.extract (x8 : Int).toNat ((wrap64 (x8 + 1)) : Int).toNat)).size : Int) > 160 then (some ((⟨#[]⟩ : ByteArray), false)) else (numnahref09_Unlearn.l0 k x0 x1 (x6 ++ (x1.extract (x8 : Int).toNat ((wrap64 (x8 + 1)) : Int).toNat)) (x7 ++ [x1.extract (x8 : Int).toNat ((wrap64 (x8 + 1)) : Int).toNat]) (wrap64 (x8 + 1)))) else (none)) else (none))) else (none)) else (none)) else (none)) else (none))
end
def numnahref09_Unlearn.f (k : Nat) (l0 : List (S63)) (a1 : ByteArray) : Option (ByteArray × Bool) := if (a1.size : Int) = (l0.length : Int) then (numnahref09_Unlearn.l0 k l0 a1 (⟨#[]⟩ : ByteArray) ([] : List ByteArray) 0) else (some ((⟨#[]⟩ : ByteArray), false))
theorem numnahref09_Unlearn.mono_l : ∀ k, (∀ y0 y1 y2 y3 y4, LeO (numnahref09_Unlearn.l0 k y0 y1 y2 y3 y4) (numnahref09_Unlearn.l0 (k + 1) y0 y1 y2 y3 y4)) ∧ (∀ y0 y1 y2 y3 y4 y5, LeO (numnahref09_Unlearn.j1 k y0 y1 y2 y3 y4 y5) (numnahref09_Unlearn.j1 (k + 1) y0 y1 y2 y3 y4 y5))
 | 0 => ⟨fun _ _ _ _ _ r h => by simp [numnahref09_Unlearn.l0] at h, fun _ _ _ _ _ _ r h => by simp [numnahref09_Unlearn.j1] at h⟩
 | k + 1 => by
  obtain ⟨ih0, ih1⟩ := numnahref09_Unlearn.mono_l k
  refine ⟨?_, ?_⟩
  ·intro y0 y1 y2 y3 y4
   unfold numnahref09_Unlearn.l0
   repeat' first
   | (with_reducible exact ih0 _ _ _ _ _)
   | (with_reducible exact ih1 _ _ _ _ _ _)
   | (with_reducible exact numnahref09_Learning.mono _ _)
   | (with_reducible exact numnahref09_Same.mono _ _ _)
   | (with_reducible exact LeO.refl _)
   | (with_reducible exact LeO.none _)
   | (with_reducible refine LeO.ite ?_ ?_)
   | (with_reducible refine LeO.bind ?_ (fun _ => ?_))
   | exact ih0 _ _ _ _ _
   | exact ih1 _ _ _ _ _ _
   | exact numnahref09_Learning.mono _ _
   | exact numnahref09_Same.mono _ _ _
   | exact LeO.none _
   | refine LeO.ite ?_ ?_
   | refine LeO.bind ?_ (fun _ => ?_)
  ·intro y0 y1 y2 y3 y4 y5
   unfold numnahref09_Unlearn.j1
   repeat' first
   | (with_reducible exact ih0 _ _ _ _ _)
   | (with_reducible exact ih1 _ _ _ _ _ _)
   | (with_reducible exact numnahref09_Learning.mono _ _)
   | (with_reducible exact numnahref09_Same.mono _ _ _)
   | (with_reducible exact LeO.refl _)
   | (with_reducible exact LeO.none _)
   | (with_reducible refine LeO.ite ?_ ?_)
   | (with_reducible refine LeO.bind ?_ (fun _ => ?_))
   | exact ih0 _ _ _ _ _
   | exact ih1 _ _ _ _ _ _
   | exact numnahref09_Learning.mono _ _
   | exact numnahref09_Same.mono _ _ _
   | exact LeO.none _
   | refine LeO.ite ?_ ?_
   | refine LeO.bind ?_ (fun _ => ?_)
theorem numnahref09_Unlearn.mono : ∀ a0 a1 k, LeO (numnahref09_Unlearn.f k a0 a1) (numnahref09_Unlearn.f (k + 1) a0 a1) := by
 intro a0 a1 k
 obtain ⟨ih0, ih1⟩ := numnahref09_Unlearn.mono_l k
 unfold numnahref09_Unlearn.f
 repeat' first
   | (with_reducible exact ih0 _ _ _ _ _)
   | (with_reducible exact ih1 _ _ _ _ _ _)
   | (with_reducible exact numnahref09_Learning.mono _ _)
   | (with_reducible exact numnahref09_Same.mono _ _ _)
   | (with_reducible exact LeO.refl _)
   | (with_reducible exact LeO.none _)
   | (with_reducible refine LeO.ite ?_ ?_)
   | (with_reducible refine LeO.bind ?_ (fun _ => ?_))
   | exact ih0 _ _ _ _ _
   | exact ih1 _ _ _ _ _ _
   | exact numnahref09_Learning.mono _ _
   | exact numnahref09_Same.mono _ _ _
   | exact LeO.none _
   | refine LeO.ite ?_ ?_
   | refine LeO.bind ?_ (fun _ => ?_)
set_option maxHeartbeats 8000000 in
set_option maxRecDepth 100000 in
theorem numnahref09_Unlearn.calls (k : Nat) (A0 : Option Addr) (c0 : Nat) (l0 : List (S63)) (a1 : ByteArray) (r1 : ByteArray) (r2 : Bool) (w : World) (hr0 : Kd.C k63 w A0 l0.length l0) (hc0 : l0.length ≤ c0) (h : numnahref09_Unlearn.f k l0 a1 = some (r1, r2)) :
  Calls Tryd.prog 61 #[.slice A0 l0.length c0, .string a1] w fun e w' => e = .returned (.tuple #[.string r1, .bool r2]) ∧ Below w.heap.size w w' := by
 have HR0 := Aside0.mk hr0
 have HC0 := Aside0.mk hc0
 clear hr0 hc0
 have HB := Aside0.mk (Below.refl w.heap.size w)
 have H : (if (a1.size : Int) = (l0.length : Int) then (numnahref09_Unlearn.l0 k l0 a1 (⟨#[]⟩ : ByteArray) ([] : List ByteArray) 0) else (some ((⟨#[]⟩ : ByteArray), false))) = some (r1, r2) := h
 clear h
 by_cases c3 : (a1.size : Int) = (l0.length : Int)
 ·rw [if_pos c3] at H
  have c3b0 : ((a1.size : Int) == (l0.length : Int)) = true := beq_iff_eq.mpr c3
  have c3b1 : ((a1.size : Int) != (l0.length : Int)) = false := bne_eq_false_iff_eq.mpr c3
  have c3b2 : (a1.size == l0.length) = true := by first | simpa using c3 | (simp at c3 ⊢; omega)
  clear c3
  have H' := Aside0.mk H
  clear H
  go_enter Tryd.func61, Tryd.ntmps61
  go_wp2
  go_loopg [6, 7, 8] k (fun kq v6 v7 v8 w' => ∃ (x6_1 : ByteArray) (x7_1 : List ByteArray) (x8_1 : Int), v6 = .string x6_1 ∧ v8 = .int .i64 x8_1 ∧ Aside0 (numnahref09_Unlearn.l0 kq l0 a1 x6_1 x7_1 x8_1 = some (r1, r2)) ∧ Aside0 (kq ≤ k) ∧ Aside0 (Kd.R Kd.string 9 w' w.heap.size (fun _ => True) v7 x7_1) ∧ Aside0 (Below w.heap.size w w'))
  case atStart => exact ⟨((⟨#[]⟩ : ByteArray)), (([] : List ByteArray)), (0), (by first | rfl | (simp; done) | (simp [*]; done)), (by first | rfl | (simp; done) | (simp [*]; done)), H', ⟨Nat.le_refl _⟩, ⟨by first | exact Kd.R_nil _ _ _ _ _ | exact Kd.N_nil _ _ _ _ _ | exact Kd.V_nil _ _ _ _ _ | exact Kd.Q_nil _ _ _ _ _ | exact Kd.S_nil _ _ _ _ _⟩, ⟨by repeat (first | (with_reducible first | exact HB.out | apply below_alloc | apply pw_below_drewN | apply below_drew1) | exact HB.out)⟩⟩
  case round =>
   clear H'
   try clear p2
   try clear c3
   try clear c3b0
   try clear c3b1
   try clear c3b2
   obtain ⟨x6_1, x7_1, x8_1, rfl, rfl, HA, HK1, HO_7, HB⟩ := hrel
   cases gk with
   | zero => exact absurd HA.out (by simp [numnahref09_Unlearn.l0])
   | succ k1 =>
    have H := HA.out
    clear HA
    simp only [numnahref09_Unlearn.l0] at H
    by_cases c4 : x8_1 < (l0.length : Int)
    ·rw [if_pos c4] at H
     have c4b0 : decide (x8_1 < (l0.length : Int)) = true := decide_eq_true c4
     clear c4
     have HC5 := Aside0.mk H
     clear H
     go_upto_region 8 with (fail)
     go_cut [35] (fun v35 wc => ∃ (kq : Nat) (x35_4 : Bool), v35 = .bool x35_4 ∧ Aside0 (numnahref09_Unlearn.j1 kq l0 a1 x6_1 x7_1 x8_1 x35_4 = some (r1, r2)) ∧ Aside0 (kq ≤ k1) ∧ Aside0 (Kd.R Kd.string 9 wc w.heap.size (fun _ => True) u7 x7_1) ∧ Aside0 (Below w.heap.size w wc))
     case first =>
      have H := HC5.out
      clear HC5
      by_cases c6 : 0 ≤ x8_1
      ·rw [if_pos c6] at H
       have c6b0 : decide (0 ≤ x8_1) = true := decide_eq_true c6
       clear c6
       (first | rw [c6b0] | (simp only [i64_w, i32_w]; rw [c6b0]) | skip)
       by_cases c7 : ((rd_T63 l0 x8_1).f0) < 0
       ·rw [if_pos c7] at H
        have c7b0 : decide (((rd_T63 l0 x8_1).f0) < 0) = true := decide_eq_true c7
        clear c7
        have H' := Aside0.mk H
        clear H
        have p866 : 0 ≤ (x8_1 : Int) := of_decide_eq_true (by first | (with_reducible assumption) | assumption)
        have q866 : x8_1 < (l0.length : Int) := of_decide_eq_true (by first | (with_reducible assumption) | assumption)
        obtain ⟨ad866, e866, hx866_0, hx866_1⟩ := at_T63 HR0.out x8_1 p866 q866
        cases e866
        replace hx866_0 := (HB.out.cell (World.block_lt_of_cell? w _ hx866_0)).trans hx866_0
        replace hx866_1 := (HB.out.cell (World.block_lt_of_cell? w _ hx866_1)).trans hx866_1
        replace p866 := eq_true p866
        replace q866 := eq_true q866
        go_wp2
        go_meet
        case rel => exact ⟨_, (true), (by first | rfl | (simp; done) | (simp [*]; done)), H', ⟨by have := HK1.out; first | omega | exact Nat.le_refl _⟩, ⟨by (with_reducible repeat (first | apply Kd.R_alloc | apply Kd.R_drewN | apply Kd.R_drew)); exact HO_7.out⟩, ⟨by repeat (first | (with_reducible first | exact HB.out | apply below_alloc | apply pw_below_drewN | apply below_drew1) | exact HB.out)⟩⟩
       ·rw [if_neg c7] at H
        have c7b0 : decide (((rd_T63 l0 x8_1).f0) < 0) = false := decide_eq_false c7
        clear c7
        have H' := Aside0.mk H
        clear H
        have p866 : 0 ≤ (x8_1 : Int) := of_decide_eq_true (by first | (with_reducible assumption) | assumption)
        have q866 : x8_1 < (l0.length : Int) := of_decide_eq_true (by first | (with_reducible assumption) | assumption)
        obtain ⟨ad866, e866, hx866_0, hx866_1⟩ := at_T63 HR0.out x8_1 p866 q866
        cases e866
        replace hx866_0 := (HB.out.cell (World.block_lt_of_cell? w _ hx866_0)).trans hx866_0
        replace hx866_1 := (HB.out.cell (World.block_lt_of_cell? w _ hx866_1)).trans hx866_1
        replace p866 := eq_true p866
        replace q866 := eq_true q866
        have p867 : 0 ≤ (x8_1 : Int) := of_decide_eq_true (by first | (with_reducible assumption) | assumption)
        have q867 : x8_1 < (l0.length : Int) := of_decide_eq_true (by first | (with_reducible assumption) | assumption)
        obtain ⟨ad867, e867, hx867_0, hx867_1⟩ := at_T63 HR0.out x8_1 p867 q867
        obtain rfl : ad866 = ad867 := (by injection e867)
        replace hx867_0 := (HB.out.cell (World.block_lt_of_cell? w _ hx867_0)).trans hx867_0
        replace hx867_1 := (HB.out.cell (World.block_lt_of_cell? w _ hx867_1)).trans hx867_1
        replace p867 := eq_true p867
        replace q867 := eq_true q867
        go_wp2
        go_meet
        case rel => exact ⟨_, (decide (((rd_T63 l0 x8_1).f0) > x8_1)), (by first | rfl | (simp; done) | (simp [*]; done)), H', ⟨by have := HK1.out; first | omega | exact Nat.le_refl _⟩, ⟨by (with_reducible repeat (first | apply Kd.R_alloc | apply Kd.R_drewN | apply Kd.R_drew)); exact HO_7.out⟩, ⟨by repeat (first | (with_reducible first | exact HB.out | apply below_alloc | apply pw_below_drewN | apply below_drew1) | exact HB.out)⟩⟩
      ·rw [if_neg c6] at H
       exact absurd H (by simp)
     case rest =>
      clear HC5
      try clear p2
      try clear c3
      try clear c3b0
      try clear c3b1
      try clear c3b2
      try clear c4
      try clear c4b0
      try clear c6
      try clear c6b0
      try clear c7
      try clear c7b0
      try clear hx866_0
      try clear hx866_1
      try clear hx867_0
      try clear hx867_1
      try clear p2
      try clear p866
      try clear p867
      try clear q866
      try clear q867
      obtain ⟨kq, x35_4, rfl, HA, HJ4, HO_7, HB⟩ := hcut
      cases kq with
      | zero => exact absurd HA.out (by simp [numnahref09_Unlearn.j1])
      | succ kj4 =>
       have H := HA.out
       clear HA
       simp only [numnahref09_Unlearn.j1] at H
       by_cases c8 : x35_4 = true
       ·subst c8
        have H1 : (some ((⟨#[]⟩ : ByteArray), false)) = some (r1, r2) := by rw [if_pos rfl] at H; exact H
        clear H
        have H := H1
        clear H1
        simp only [Option.some.injEq, Prod.mk.injEq] at H
        obtain ⟨rfl, rfl⟩ := H
        go_wp2
        go_ret2
        exact ⟨by first | rfl | (simp [errW_none, errW_some] <;> rfl) | (simp [*, errW_none, errW_some] <;> rfl), by repeat (first | (with_reducible first | exact HB.out | apply below_alloc | apply pw_below_drewN | apply below_drew1) | exact HB.out)⟩
       ·replace c8 := Bool.eq_false_iff.mpr c8
        subst c8
        have H1 : (if 0 ≤ x8_1 then (if x8_1 ≤ (wrap64 (x8_1 + 1)) then (if (wrap64 (x8_1 + 1)) ≤ (a1.size : Int) then (if x8_1 < (l0.length : Int) then (if ((rd_T63 l0 x8_1).f0) > 0 then (if 0 ≤ (wrap64 (((rd_T63 l0 x8_1).f0) - 1)) then (if (wrap64 (((rd_T63 l0 x8_1).f0) - 1)) < (x7_1.length : Int) then (if (rdOf ByteArray.empty x7_1 (wrap64 (((rd_T63 l0 x8_1).f0) - 1))).size + (a1.extract (x8_1 : Int).toNat ((wrap64 (x8_1 + 1)) : Int).toNat).size ≤ 9223372036854775807 then (if x7_1.length < 8796093022208 then (if x6_1.size + ((rdOf ByteArray.empty x7_1 (wrap64 (((rd_T63 l0 x8_1).f0) - 1))) ++ (a1.extract (x8_1 : Int).toNat ((wrap64 (x8_1 + 1)) : Int).toNat)).size ≤ 9223372036854775807 then (if ((x6_1 ++ ((rdOf ByteArray.empty x7_1 (wrap64 (((rd_T63 l0 x8_1).f0) - 1))) ++ (a1.extract (x8_1 : Int).toNat ((wrap64 (x8_1 + 1)) : Int).toNat))).size : Int) > 160 then (some ((⟨#[]⟩ : ByteArray), false)) else (numnahref09_Unlearn.l0 kj4 l0 a1 (x6_1 ++ ((rdOf ByteArray.empty x7_1 (wrap64 (((rd_T63 l0 x8_1).f0) - 1))) ++ (a1.extract (x8_1 : Int).toNat ((wrap64 (x8_1 + 1)) : Int).toNat))) (x7_1 ++ [(rdOf ByteArray.empty x7_1 (wrap64 (((rd_T63 l0 x8_1).f0) - 1))) ++ (a1.extract (x8_1 : Int).toNat ((wrap64 (x8_1 + 1)) : Int).toNat)]) (wrap64 (x8_1 + 1)))) else (none)) else (none)) else (none)) else (none)) else (none)) else (if x7_1.length < 8796093022208 then (if x6_1.size + (a1.extract (x8_1 : Int).toNat ((wrap64 (x8_1 + 1)) : Int).toNat).size ≤ 9223372036854775807 then (if ((x6_1 ++ (a1.extract (x8_1 : Int).toNat ((wrap64 (x8_1 + 1)) : Int).toNat)).size : Int) > 160 then (some ((⟨#[]⟩ : ByteArray), false)) else (numnahref09_Unlearn.l0 kj4 l0 a1 (x6_1 ++ (a1.extract (x8_1 : Int).toNat ((wrap64 (x8_1 + 1)) : Int).toNat)) (x7_1 ++ [a1.extract (x8_1 : Int).toNat ((wrap64 (x8_1 + 1)) : Int).toNat]) (wrap64 (x8_1 + 1)))) else (none)) else (none))) else (none)) else (none)) else (none)) else (none)) = some (r1, r2) := by rw [if_neg (show ¬ (false = true) by decide)] at H; exact H
        clear H
        have H := H1
        clear H1
        by_cases c9 : 0 ≤ x8_1
        ·rw [if_pos c9] at H
         have c9b0 := eq_true c9
         have c9b1 : decide (0 ≤ x8_1) = true := decide_eq_true c9
         clear c9
         by_cases c10 : x8_1 ≤ (wrap64 (x8_1 + 1))
         ·rw [if_pos c10] at H
          have c10b0 := eq_true c10
          have c10b1 : decide (x8_1 ≤ (wrap64 (x8_1 + 1))) = true := decide_eq_true c10
          by_cases c11 : (wrap64 (x8_1 + 1)) ≤ (a1.size : Int)
          ·rw [if_pos c11] at H
           have c11b0 := eq_true c11
           have c11b1 : decide ((wrap64 (x8_1 + 1)) ≤ (a1.size : Int)) = true := decide_eq_true c11
           by_cases c12 : x8_1 < (l0.length : Int)
           ·rw [if_pos c12] at H
            have c12b0 : decide (x8_1 < (l0.length : Int)) = true := decide_eq_true c12
            clear c12
            by_cases c13 : ((rd_T63 l0 x8_1).f0) > 0
            ·rw [if_pos c13] at H
             have c13b0 : decide (0 < ((rd_T63 l0 x8_1).f0)) = true := decide_eq_true c13
             clear c13
             obtain ⟨ji14, hji14⟩ : ∃ j_ : Int, (wrap64 (((rd_T63 l0 x8_1).f0) - 1)) = j_ := ⟨_, rfl⟩
             replace H : (if 0 ≤ (ji14) then (if (ji14) < (x7_1.length : Int) then (if (rdOf ByteArray.empty x7_1 (ji14)).size + (a1.extract (x8_1 : Int).toNat ((wrap64 (x8_1 + 1)) : Int).toNat).size ≤ 9223372036854775807 then (if x7_1.length < 8796093022208 then (if x6_1.size + ((rdOf ByteArray.empty x7_1 (ji14)) ++ (a1.extract (x8_1 : Int).toNat ((wrap64 (x8_1 + 1)) : Int).toNat)).size ≤ 9223372036854775807 then (if ((x6_1 ++ ((rdOf ByteArray.empty x7_1 (ji14)) ++ (a1.extract (x8_1 : Int).toNat ((wrap64 (x8_1 + 1)) : Int).toNat))).size : Int) > 160 then (some ((⟨#[]⟩ : ByteArray), false)) else (numnahref09_Unlearn.l0 kj4 l0 a1 (x6_1 ++ ((rdOf ByteArray.empty x7_1 (ji14)) ++ (a1.extract (x8_1 : Int).toNat ((wrap64 (x8_1 + 1)) : Int).toNat))) (x7_1 ++ [(rdOf ByteArray.empty x7_1 (ji14)) ++ (a1.extract (x8_1 : Int).toNat ((wrap64 (x8_1 + 1)) : Int).toNat)]) (wrap64 (x8_1 + 1)))) else (none)) else (none)) else (none)) else (none)) else (none)) = some (r1, r2) := by first | (rw [hji14] at H; exact H) | (simp only [hji14] at H ⊢; exact H)
             have hji14w : (IntKind.i64.wrap (((rd_T63 l0 x8_1).f0) - 1)) = ji14 := (i64_w _).trans hji14
             by_cases c15 : 0 ≤ (ji14)
             ·rw [if_pos c15] at H
              have c15b0 : decide (0 ≤ (ji14)) = true := decide_eq_true c15
              clear c15
              by_cases c16 : (ji14) < (x7_1.length : Int)
              ·rw [if_pos c16] at H
               have c16b0 : decide ((ji14) < (x7_1.length : Int)) = true := decide_eq_true c16
               clear c16
               by_cases c17 : (rdOf ByteArray.empty x7_1 (ji14)).size + (a1.extract (x8_1 : Int).toNat ((wrap64 (x8_1 + 1)) : Int).toNat).size ≤ 9223372036854775807
               ·rw [if_pos c17] at H
                have c17b0 := eq_true c17
                have c17b1 : decide ((rdOf ByteArray.empty x7_1 (ji14)).size + (a1.extract (x8_1 : Int).toNat ((wrap64 (x8_1 + 1)) : Int).toNat).size ≤ 9223372036854775807) = true := decide_eq_true c17
                try have c17b2 : (9223372036854775807 < (rdOf ByteArray.empty x7_1 (ji14)).size + (a1.extract (x8_1 : Int).toNat ((wrap64 (x8_1 + 1)) : Int).toNat).size) = False := eq_false (Nat.not_lt.2 c17)
                by_cases c18 : x7_1.length < 8796093022208
                ·rw [if_pos c18] at H
                 have LMc18 := Aside0.mk c18
                 clear c18
                 obtain ⟨y871, hy871⟩ : ∃ y_ : List ByteArray, y_ = (x7_1 ++ [(rdOf ByteArray.empty x7_1 (ji14)) ++ (a1.extract (x8_1 : Int).toNat ((wrap64 (x8_1 + 1)) : Int).toNat)]) := ⟨_, rfl⟩
                 replace H : (if x6_1.size + ((rdOf ByteArray.empty x7_1 (ji14)) ++ (a1.extract (x8_1 : Int).toNat ((wrap64 (x8_1 + 1)) : Int).toNat)).size ≤ 9223372036854775807 then (if ((x6_1 ++ ((rdOf ByteArray.empty x7_1 (ji14)) ++ (a1.extract (x8_1 : Int).toNat ((wrap64 (x8_1 + 1)) : Int).toNat))).size : Int) > 160 then (some ((⟨#[]⟩ : ByteArray), false)) else (numnahref09_Unlearn.l0 kj4 l0 a1 (x6_1 ++ ((rdOf ByteArray.empty x7_1 (ji14)) ++ (a1.extract (x8_1 : Int).toNat ((wrap64 (x8_1 + 1)) : Int).toNat))) y871 (wrap64 (x8_1 + 1)))) else (none)) = some (r1, r2) := by first | (rw [hy871]; with_reducible exact H) | (have H2_ := (Option.bind_some _ _).symm.trans H; rw [hy871]; with_reducible exact H2_) | (have H2_ := (Option.bind_some _ _).symm.trans H; with_reducible exact H2_) | with_reducible exact H | (rw [hy871]; exact H) | exact H
                 have Ny871 := Aside0.mk hy871
                 clear hy871
                 by_cases c19 : x6_1.size + ((rdOf ByteArray.empty x7_1 (ji14)) ++ (a1.extract (x8_1 : Int).toNat ((wrap64 (x8_1 + 1)) : Int).toNat)).size ≤ 9223372036854775807
                 ·rw [if_pos c19] at H
                  have c19b0 := eq_true c19
                  have c19b1 : decide (x6_1.size + ((rdOf ByteArray.empty x7_1 (ji14)) ++ (a1.extract (x8_1 : Int).toNat ((wrap64 (x8_1 + 1)) : Int).toNat)).size ≤ 9223372036854775807) = true := decide_eq_true c19
                  try have c19b2 : (9223372036854775807 < x6_1.size + ((rdOf ByteArray.empty x7_1 (ji14)) ++ (a1.extract (x8_1 : Int).toNat ((wrap64 (x8_1 + 1)) : Int).toNat)).size) = False := eq_false (Nat.not_lt.2 c19)
                  by_cases c20 : ((x6_1 ++ ((rdOf ByteArray.empty x7_1 (ji14)) ++ (a1.extract (x8_1 : Int).toNat ((wrap64 (x8_1 + 1)) : Int).toNat))).size : Int) > 160
                  ·rw [if_pos c20] at H
                   have c20b0 : decide (160 < ((x6_1 ++ ((rdOf ByteArray.empty x7_1 (ji14)) ++ (a1.extract (x8_1 : Int).toNat ((wrap64 (x8_1 + 1)) : Int).toNat))).size : Int)) = true := decide_eq_true c20
                   have c20w0 : decide (160 < ((x6_1.size : Int) + (((rdOf ByteArray.empty x7_1 (ji14)).size : Int) + (((wrap64 (x8_1 + 1)).toNat - x8_1.toNat : Nat) : Int)))) = true := decide_eq_true (by have h_ := c20; rw [unl_size3 (Int.toNat_le.2 c11)] at h_; exact h_)
                   have c20b1 : decide (160 < (x6_1 ++ ((rdOf ByteArray.empty x7_1 (ji14)) ++ (a1.extract (x8_1 : Int).toNat ((wrap64 (x8_1 + 1)) : Int).toNat))).size) = true := decide_eq_true (by omega)
                   clear c20
                   simp only [Option.some.injEq, Prod.mk.injEq] at H
                   obtain ⟨rfl, rfl⟩ := H
                   have p868 : 0 ≤ (x8_1 : Int) := of_decide_eq_true (by first | (with_reducible assumption) | assumption)
                   have q868 : x8_1 < (l0.length : Int) := of_decide_eq_true (by first | (with_reducible assumption) | assumption)
                   obtain ⟨ad868, e868, hx868_0, hx868_1⟩ := at_T63 HR0.out x8_1 p868 q868
                   cases e868
                   replace hx868_0 := (HB.out.cell (World.block_lt_of_cell? w _ hx868_0)).trans hx868_0
                   replace hx868_1 := (HB.out.cell (World.block_lt_of_cell? w _ hx868_1)).trans hx868_1
                   replace p868 := eq_true p868
                   replace q868 := eq_true q868
                   have p869 : 0 ≤ (x8_1 : Int) := of_decide_eq_true (by first | (with_reducible assumption) | assumption)
                   have q869 : x8_1 < (l0.length : Int) := of_decide_eq_true (by first | (with_reducible assumption) | assumption)
                   obtain ⟨ad869, e869, hx869_0, hx869_1⟩ := at_T63 HR0.out x8_1 p869 q869
                   obtain rfl : ad868 = ad869 := (by injection e869)
                   replace hx869_0 := (HB.out.cell (World.block_lt_of_cell? w _ hx869_0)).trans hx869_0
                   replace hx869_1 := (HB.out.cell (World.block_lt_of_cell? w _ hx869_1)).trans hx869_1
                   replace p869 := eq_true p869
                   replace q869 := eq_true q869
                   obtain ⟨Ao21, co21, eo21⟩ := Kd.R_slice HO_7.out
                   subst eo21
                   have p870 : 0 ≤ ((ji14) : Int) := of_decide_eq_true (by first | (with_reducible assumption) | assumption)
                   have q870 : (ji14) < (x7_1.length : Int) := of_decide_eq_true (by first | (with_reducible assumption) | assumption)
                   obtain ⟨ad870, e870, hx870_0⟩ := Kd.at_string (Kd.R_reads' HO_7.out).2.2 (ji14) p870 q870
                   cases e870
                   replace p870 := eq_true p870
                   replace q870 := eq_true q870
                   go_wp2_with (first | ((with_reducible refine gate_builtin (b := .append) (xs := #[.tmp 58, .tmp 60]) rfl ?_); at_builtin; refine Kd.R_append Kd.string (w0 := w) w.heap.size rfl (.tmp 58) (.tmp 60) 87 9 (.string ⟨#[]⟩) 16 rfl Tryd.underlying87 info9 rfl (by decide) (by omega) (.slice (some ad870) x7_1.length co21) x7_1 ((rdOf ByteArray.empty x7_1 (ji14)) ++ (a1.extract (x8_1 : Int).toNat ((wrap64 (x8_1 + 1)) : Int).toNat)) [.string ((rdOf ByteArray.empty x7_1 (ji14)) ++ (a1.extract (x8_1 : Int).toNat ((wrap64 (x8_1 + 1)) : Int).toNat))] (fun _ => True) (fun _ => False) rfl rfl ?aP (fun _ hk => hk.elim) ?aF ?aO ?aB ?aS ?aL ?_; (case aP => exact rfl); (case aB => exact (by repeat (first | (with_reducible first | exact HB.out | apply below_alloc | apply pw_below_drewN | apply below_drew1) | exact HB.out))); (case aF => exact (fun _ _ => trivial)); (case aO => exact (by (with_reducible repeat (first | apply Kd.R_alloc | apply Kd.R_drewN | apply Kd.R_drew)); exact HO_7.out)); (case aS => exact (below_size (by repeat (first | (with_reducible first | exact HB.out | apply below_alloc | apply pw_below_drewN | apply below_drew1) | exact HB.out)))); (case aL => have := LMc18.out; omega); intro v872 w22 ho hb hg hat; rw [← Ny871.out] at ho; have n0_ := Aside0.mk (hb); have n1_ := Aside0.mk (ho); clear HB; clear HO_7; have HB := n0_; have HO873 := n1_; clear n0_ n1_; clear ho hb hg hat))
                   go_ret2
                   exact ⟨by first | rfl | (simp [errW_none, errW_some] <;> rfl) | (simp only [← hji14]; first | rfl | (simp [errW_none, errW_some] <;> rfl)) | (simp [*, errW_none, errW_some] <;> rfl), by repeat (first | (with_reducible first | exact HB.out | apply below_alloc | apply pw_below_drewN | apply below_drew1) | exact HB.out)⟩
                  ·rw [if_neg c20] at H
                   have c20b0 : decide (160 < ((x6_1 ++ ((rdOf ByteArray.empty x7_1 (ji14)) ++ (a1.extract (x8_1 : Int).toNat ((wrap64 (x8_1 + 1)) : Int).toNat))).size : Int)) = false := decide_eq_false c20
                   have c20w0 : decide (160 < ((x6_1.size : Int) + (((rdOf ByteArray.empty x7_1 (ji14)).size : Int) + (((wrap64 (x8_1 + 1)).toNat - x8_1.toNat : Nat) : Int)))) = false := decide_eq_false (by have h_ := c20; rw [unl_size3 (Int.toNat_le.2 c11)] at h_; exact h_)
                   have c20b1 : decide (160 < (x6_1 ++ ((rdOf ByteArray.empty x7_1 (ji14)) ++ (a1.extract (x8_1 : Int).toNat ((wrap64 (x8_1 + 1)) : Int).toNat))).size) = false := decide_eq_false (by omega)
                   clear c20
                   have H' := Aside0.mk H
                   clear H
                   have p868 : 0 ≤ (x8_1 : Int) := of_decide_eq_true (by first | (with_reducible assumption) | assumption)
                   have q868 : x8_1 < (l0.length : Int) := of_decide_eq_true (by first | (with_reducible assumption) | assumption)
                   obtain ⟨ad868, e868, hx868_0, hx868_1⟩ := at_T63 HR0.out x8_1 p868 q868
                   cases e868
                   replace hx868_0 := (HB.out.cell (World.block_lt_of_cell? w _ hx868_0)).trans hx868_0
                   replace hx868_1 := (HB.out.cell (World.block_lt_of_cell? w _ hx868_1)).trans hx868_1
                   replace p868 := eq_true p868
                   replace q868 := eq_true q868
                   have p869 : 0 ≤ (x8_1 : Int) := of_decide_eq_true (by first | (with_reducible assumption) | assumption)
                   have q869 : x8_1 < (l0.length : Int) := of_decide_eq_true (by first | (with_reducible assumption) | assumption)
                   obtain ⟨ad869, e869, hx869_0, hx869_1⟩ := at_T63 HR0.out x8_1 p869 q869
                   obtain rfl : ad868 = ad869 := (by injection e869)
                   replace hx869_0 := (HB.out.cell (World.block_lt_of_cell? w _ hx869_0)).trans hx869_0
                   replace hx869_1 := (HB.out.cell (World.block_lt_of_cell? w _ hx869_1)).trans hx869_1
                   replace p869 := eq_true p869
                   replace q869 := eq_true q869
                   obtain ⟨Ao23, co23, eo23⟩ := Kd.R_slice HO_7.out
                   subst eo23
                   have p870 : 0 ≤ ((ji14) : Int) := of_decide_eq_true (by first | (with_reducible assumption) | assumption)
                   have q870 : (ji14) < (x7_1.length : Int) := of_decide_eq_true (by first | (with_reducible assumption) | assumption)
                   obtain ⟨ad870, e870, hx870_0⟩ := Kd.at_string (Kd.R_reads' HO_7.out).2.2 (ji14) p870 q870
                   cases e870
                   replace p870 := eq_true p870
                   replace q870 := eq_true q870
                   go_wp2_with (first | ((with_reducible refine gate_builtin (b := .append) (xs := #[.tmp 58, .tmp 60]) rfl ?_); at_builtin; refine Kd.R_append Kd.string (w0 := w) w.heap.size rfl (.tmp 58) (.tmp 60) 87 9 (.string ⟨#[]⟩) 16 rfl Tryd.underlying87 info9 rfl (by decide) (by omega) (.slice (some ad870) x7_1.length co23) x7_1 ((rdOf ByteArray.empty x7_1 (ji14)) ++ (a1.extract (x8_1 : Int).toNat ((wrap64 (x8_1 + 1)) : Int).toNat)) [.string ((rdOf ByteArray.empty x7_1 (ji14)) ++ (a1.extract (x8_1 : Int).toNat ((wrap64 (x8_1 + 1)) : Int).toNat))] (fun _ => True) (fun _ => False) rfl rfl ?aP (fun _ hk => hk.elim) ?aF ?aO ?aB ?aS ?aL ?_; (case aP => exact rfl); (case aB => exact (by repeat (first | (with_reducible first | exact HB.out | apply below_alloc | apply pw_below_drewN | apply below_drew1) | exact HB.out))); (case aF => exact (fun _ _ => trivial)); (case aO => exact (by (with_reducible repeat (first | apply Kd.R_alloc | apply Kd.R_drewN | apply Kd.R_drew)); exact HO_7.out)); (case aS => exact (below_size (by repeat (first | (with_reducible first | exact HB.out | apply below_alloc | apply pw_below_drewN | apply below_drew1) | exact HB.out)))); (case aL => have := LMc18.out; omega); intro v872 w24 ho hb hg hat; rw [← Ny871.out] at ho; have n0_ := Aside0.mk (hb); have n1_ := Aside0.mk (ho); clear HB; clear HO_7; have HB := n0_; have HO873 := n1_; clear n0_ n1_; clear ho hb hg hat))
                   go_roundg kj4
                   case measure => have := HK1.out; have := HJ4.out; omega
                   case rel => exact ⟨(x6_1 ++ ((rdOf ByteArray.empty x7_1 (ji14)) ++ (a1.extract (x8_1 : Int).toNat ((wrap64 (x8_1 + 1)) : Int).toNat))), (y871), (wrap64 (x8_1 + 1)), (by first | rfl | (simp; done) | (simp only [← hji14] <;> (first | rfl | simp)) | (simp [*]; done)), (by first | rfl | (simp; done) | (simp [*]; done)), H', ⟨by have := HK1.out; have := HJ4.out; omega⟩, ⟨by (with_reducible repeat (first | apply Kd.R_alloc | apply Kd.R_drewN | apply Kd.R_drew)); exact HO873.out⟩, ⟨by repeat (first | (with_reducible first | exact HB.out | apply below_alloc | apply pw_below_drewN | apply below_drew1) | exact HB.out)⟩⟩
                 ·rw [if_neg c19] at H
                  exact absurd H (by simp)
                ·rw [if_neg c18] at H
                 exact absurd H (by simp)
               ·rw [if_neg c17] at H
                exact absurd H (by simp)
              ·rw [if_neg c16] at H
               exact absurd H (by simp)
             ·rw [if_neg c15] at H
              exact absurd H (by simp)
            ·rw [if_neg c13] at H
             have c13b0 : decide (0 < ((rd_T63 l0 x8_1).f0)) = false := decide_eq_false c13
             clear c13
             by_cases c25 : x7_1.length < 8796093022208
             ·rw [if_pos c25] at H
              have LMc25 := Aside0.mk c25
              clear c25
              obtain ⟨y874, hy874⟩ : ∃ y_ : List ByteArray, y_ = (x7_1 ++ [a1.extract (x8_1 : Int).toNat ((wrap64 (x8_1 + 1)) : Int).toNat]) := ⟨_, rfl⟩
              replace H : (if x6_1.size + (a1.extract (x8_1 : Int).toNat ((wrap64 (x8_1 + 1)) : Int).toNat).size ≤ 9223372036854775807 then (if ((x6_1 ++ (a1.extract (x8_1 : Int).toNat ((wrap64 (x8_1 + 1)) : Int).toNat)).size : Int) > 160 then (some ((⟨#[]⟩ : ByteArray), false)) else (numnahref09_Unlearn.l0 kj4 l0 a1 (x6_1 ++ (a1.extract (x8_1 : Int).toNat ((wrap64 (x8_1 + 1)) : Int).toNat)) y874 (wrap64 (x8_1 + 1)))) else (none)) = some (r1, r2) := by first | (rw [hy874]; with_reducible exact H) | (have H2_ := (Option.bind_some _ _).symm.trans H; rw [hy874]; with_reducible exact H2_) | (have H2_ := (Option.bind_some _ _).symm.trans H; with_reducible exact H2_) | with_reducible exact H | (rw [hy874]; exact H) | exact H
              have Ny874 := Aside0.mk hy874
              clear hy874
              by_cases c26 : x6_1.size + (a1.extract (x8_1 : Int).toNat ((wrap64 (x8_1 + 1)) : Int).toNat).size ≤ 9223372036854775807
              ·rw [if_pos c26] at H
               have c26b0 := eq_true c26
               have c26b1 : decide (x6_1.size + (a1.extract (x8_1 : Int).toNat ((wrap64 (x8_1 + 1)) : Int).toNat).size ≤ 9223372036854775807) = true := decide_eq_true c26
               try have c26b2 : (9223372036854775807 < x6_1.size + (a1.extract (x8_1 : Int).toNat ((wrap64 (x8_1 + 1)) : Int).toNat).size) = False := eq_false (Nat.not_lt.2 c26)
               by_cases c27 : ((x6_1 ++ (a1.extract (x8_1 : Int).toNat ((wrap64 (x8_1 + 1)) : Int).toNat)).size : Int) > 160
               ·rw [if_pos c27] at H
                have c27b0 : decide (160 < ((x6_1 ++ (a1.extract (x8_1 : Int).toNat ((wrap64 (x8_1 + 1)) : Int).toNat)).size : Int)) = true := decide_eq_true c27
                have c27w0 : decide (160 < ((x6_1.size : Int) + (((wrap64 (x8_1 + 1)).toNat - x8_1.toNat : Nat) : Int))) = true := decide_eq_true (by have h_ := c27; rw [unl_size2 (Int.toNat_le.2 c11)] at h_; exact h_)
                have c27b1 : decide (160 < (x6_1 ++ (a1.extract (x8_1 : Int).toNat ((wrap64 (x8_1 + 1)) : Int).toNat)).size) = true := decide_eq_true (by omega)
                clear c27
                simp only [Option.some.injEq, Prod.mk.injEq] at H
                obtain ⟨rfl, rfl⟩ := H
                have p868 : 0 ≤ (x8_1 : Int) := of_decide_eq_true (by first | (with_reducible assumption) | assumption)
                have q868 : x8_1 < (l0.length : Int) := of_decide_eq_true (by first | (with_reducible assumption) | assumption)
                obtain ⟨ad868, e868, hx868_0, hx868_1⟩ := at_T63 HR0.out x8_1 p868 q868
                cases e868
                replace hx868_0 := (HB.out.cell (World.block_lt_of_cell? w _ hx868_0)).trans hx868_0
                replace hx868_1 := (HB.out.cell (World.block_lt_of_cell? w _ hx868_1)).trans hx868_1
                replace p868 := eq_true p868
                replace q868 := eq_true q868
                go_wp2_with (first | ((with_reducible refine gate_builtin (b := .append) (xs := #[.tmp 58, .tmp 60]) rfl ?_); at_builtin; refine Kd.R_append Kd.string (w0 := w) w.heap.size rfl (.tmp 58) (.tmp 60) 87 9 (.string ⟨#[]⟩) 16 rfl Tryd.underlying87 info9 rfl (by decide) (by omega) u7 x7_1 (a1.extract (x8_1 : Int).toNat ((wrap64 (x8_1 + 1)) : Int).toNat) [.string (a1.extract (x8_1 : Int).toNat ((wrap64 (x8_1 + 1)) : Int).toNat)] (fun _ => True) (fun _ => False) rfl rfl ?aP (fun _ hk => hk.elim) ?aF ?aO ?aB ?aS ?aL ?_; (case aP => exact rfl); (case aB => exact (by repeat (first | (with_reducible first | exact HB.out | apply below_alloc | apply pw_below_drewN | apply below_drew1) | exact HB.out))); (case aF => exact (fun _ _ => trivial)); (case aO => exact (by (with_reducible repeat (first | apply Kd.R_alloc | apply Kd.R_drewN | apply Kd.R_drew)); exact HO_7.out)); (case aS => exact (below_size (by repeat (first | (with_reducible first | exact HB.out | apply below_alloc | apply pw_below_drewN | apply below_drew1) | exact HB.out)))); (case aL => have := LMc25.out; omega); intro v875 w28 ho hb hg hat; rw [← Ny874.out] at ho; have n0_ := Aside0.mk (hb); have n1_ := Aside0.mk (ho); clear HB; clear HO_7; have HB := n0_; have HO876 := n1_; clear n0_ n1_; clear ho hb hg hat))
                go_ret2
                exact ⟨by first | rfl | (simp [errW_none, errW_some] <;> rfl) | (simp [*, errW_none, errW_some] <;> rfl), by repeat (first | (with_reducible first | exact HB.out | apply below_alloc | apply pw_below_drewN | apply below_drew1) | exact HB.out)⟩
               ·rw [if_neg c27] at H
                have c27b0 : decide (160 < ((x6_1 ++ (a1.extract (x8_1 : Int).toNat ((wrap64 (x8_1 + 1)) : Int).toNat)).size : Int)) = false := decide_eq_false c27
                have c27w0 : decide (160 < ((x6_1.size : Int) + (((wrap64 (x8_1 + 1)).toNat - x8_1.toNat : Nat) : Int))) = false := decide_eq_false (by have h_ := c27; rw [unl_size2 (Int.toNat_le.2 c11)] at h_; exact h_)
                have c27b1 : decide (160 < (x6_1 ++ (a1.extract (x8_1 : Int).toNat ((wrap64 (x8_1 + 1)) : Int).toNat)).size) = false := decide_eq_false (by omega)
                clear c27
                have H' := Aside0.mk H
                clear H
                have p868 : 0 ≤ (x8_1 : Int) := of_decide_eq_true (by first | (with_reducible assumption) | assumption)
                have q868 : x8_1 < (l0.length : Int) := of_decide_eq_true (by first | (with_reducible assumption) | assumption)
                obtain ⟨ad868, e868, hx868_0, hx868_1⟩ := at_T63 HR0.out x8_1 p868 q868
                cases e868
                replace hx868_0 := (HB.out.cell (World.block_lt_of_cell? w _ hx868_0)).trans hx868_0
                replace hx868_1 := (HB.out.cell (World.block_lt_of_cell? w _ hx868_1)).trans hx868_1
                replace p868 := eq_true p868
                replace q868 := eq_true q868
                go_wp2_with (first | ((with_reducible refine gate_builtin (b := .append) (xs := #[.tmp 58, .tmp 60]) rfl ?_); at_builtin; refine Kd.R_append Kd.string (w0 := w) w.heap.size rfl (.tmp 58) (.tmp 60) 87 9 (.string ⟨#[]⟩) 16 rfl Tryd.underlying87 info9 rfl (by decide) (by omega) u7 x7_1 (a1.extract (x8_1 : Int).toNat ((wrap64 (x8_1 + 1)) : Int).toNat) [.string (a1.extract (x8_1 : Int).toNat ((wrap64 (x8_1 + 1)) : Int).toNat)] (fun _ => True) (fun _ => False) rfl rfl ?aP (fun _ hk => hk.elim) ?aF ?aO ?aB ?aS ?aL ?_; (case aP => exact rfl); (case aB => exact (by repeat (first | (with_reducible first | exact HB.out | apply below_alloc | apply pw_below_drewN | apply below_drew1) | exact HB.out))); (case aF => exact (fun _ _ => trivial)); (case aO => exact (by (with_reducible repeat (first | apply Kd.R_alloc | apply Kd.R_drewN | apply Kd.R_drew)); exact HO_7.out)); (case aS => exact (below_size (by repeat (first | (with_reducible first | exact HB.out | apply below_alloc | apply pw_below_drewN | apply below_drew1) | exact HB.out)))); (case aL => have := LMc25.out; omega); intro v875 w29 ho hb hg hat; rw [← Ny874.out] at ho; have n0_ := Aside0.mk (hb); have n1_ := Aside0.mk (ho); clear HB; clear HO_7; have HB := n0_; have HO876 := n1_; clear n0_ n1_; clear ho hb hg hat))
                go_roundg kj4
                case measure => have := HK1.out; have := HJ4.out; omega
                case rel => exact ⟨(x6_1 ++ (a1.extract (x8_1 : Int).toNat ((wrap64 (x8_1 + 1)) : Int).toNat)), (y874), (wrap64 (x8_1 + 1)), (by first | rfl | (simp; done) | (simp [*]; done)), (by first | rfl | (simp; done) | (simp [*]; done)), H', ⟨by have := HK1.out; have := HJ4.out; omega⟩, ⟨by (with_reducible repeat (first | apply Kd.R_alloc | apply Kd.R_drewN | apply Kd.R_drew)); exact HO876.out⟩, ⟨by repeat (first | (with_reducible first | exact HB.out | apply below_alloc | apply pw_below_drewN | apply below_drew1) | exact HB.out)⟩⟩
              ·rw [if_neg c26] at H
               exact absurd H (by simp)
             ·rw [if_neg c25] at H
              exact absurd H (by simp)
           ·rw [if_neg c12] at H
            exact absurd H (by simp)
          ·rw [if_neg c11] at H
           exact absurd H (by simp)
         ·rw [if_neg c10] at H
          exact absurd H (by simp)
        ·rw [if_neg c9] at H
         exact absurd H (by simp)
    ·rw [if_neg c4] at H
     have c4b0 : decide (x8_1 < (l0.length : Int)) = false := decide_eq_false c4
     clear c4
     replace H := Option.bind_eq_some_iff.mp H
     obtain ⟨t862, A300, H⟩ := H
     replace H : ((numnahref09_Same.f k1 t862 l0).bind fun t865 => (some (x6_1, t865))) = some (r1, r2) := H
     have A30 := Aside0.mk A300
     clear A300
     replace H := Option.bind_eq_some_iff.mp H
     obtain ⟨t865, A310, H⟩ := H
     replace H : (some (x6_1, t865)) = some (r1, r2) := H
     have A31 := Aside0.mk A310
     clear A310
     simp only [Option.some.injEq, Prod.mk.injEq] at H
     obtain ⟨rfl, rfl⟩ := H
     go_wp2_with (first | ((with_reducible refine gate_callee (f := 28) rfl ?_); refine goesL_ (some 70) rfl rfl Tryd.func28 (by kernel_rfl) rfl #[.string x6_1] rfl (by (try simp only [List.map_toArray, List.map_cons, List.map_nil]); first | done | rfl | (simp only [List.length_drop, List.length_take]; rfl)) ?_; (with_reducible refine (numnahref09_Learning.calls k1 x6_1 t862 _ A30.out).mono ?_); rintro e w32 ⟨v863, rfl, ho0, hb⟩; refine ⟨_, rfl, ?_⟩; have n0_ := Aside0.mk (Kd.R_below (by (with_reducible repeat (first | apply Kd.R_alloc | apply Kd.R_drewN | apply Kd.R_drew)); exact HO_7.out) hb); have n1_ := Aside0.mk (Kd.R_lower ho0 (below_size (by repeat (first | (with_reducible first | exact HB.out | apply below_alloc | apply pw_below_drewN | apply below_drew1) | exact HB.out)))); have n2_ := Aside0.mk (below_step (by repeat (first | (with_reducible first | exact HB.out | apply below_alloc | apply pw_below_drewN | apply below_drew1) | exact HB.out)) hb); clear HO_7; clear HB; have HO_7 := n0_; have HO864 := n1_; have HB := n2_; clear n0_ n1_ n2_; (try clear hb); (try clear hb2); (try clear hk); (try clear hi); (try clear ho0); obtain ⟨Ao33, co33, eo33⟩ := Kd.R_slice HO864.out; subst eo33) | ((with_reducible refine gate_callee (f := 26) rfl ?_); refine goesL_ (some 72) rfl rfl Tryd.func26 (by kernel_rfl) rfl #[.slice Ao33 t862.length co33, .slice A0 l0.length c0] rfl (by (try simp only [List.map_toArray, List.map_cons, List.map_nil]); first | done | rfl | (simp only [List.length_drop, List.length_take]; rfl)) ?_; (with_reducible refine (numnahref09_Same.calls k1 _ _ t862 _ _ l0 t865 _ ?side1 ?side2 ?side3 ?side4 A31.out).mono ?_); (case side1 => repeat (first | exact (Kd.R_reads' HO864.out).2.2 | (with_reducible refine Kd.C_alloc ?_ _) | (with_reducible refine Kd.C_drewN ?_ _) | (with_reducible refine Kd.C_drew ?_))); (case side2 => exact (Kd.R_reads' HO864.out).2.1); (case side3 => repeat (first | exact (Kd.C_below HR0.out HB.out) | (with_reducible refine Kd.C_alloc ?_ _) | (with_reducible refine Kd.C_drewN ?_ _) | (with_reducible refine Kd.C_drew ?_))); (case side4 => exact HC0.out); rintro e w' ⟨rfl, ⟨nd, rfl⟩⟩; refine ⟨_, rfl, ?_⟩))
     go_ret2
     exact ⟨by first | rfl | (simp [errW_none, errW_some] <;> rfl) | (simp [*, errW_none, errW_some] <;> rfl), by repeat (first | (with_reducible first | exact HB.out | apply below_alloc | apply pw_below_drewN | apply below_drew1) | exact HB.out)⟩
 ·rw [if_neg c3] at H
  have c3b0 : ((a1.size : Int) == (l0.length : Int)) = false := beq_eq_false_iff_ne.mpr c3
  have c3b1 : ((a1.size : Int) != (l0.length : Int)) = true := bne_iff_ne.mpr c3
  have c3b2 : (a1.size == l0.length) = false := by first | simpa using c3 | (simp at c3 ⊢; omega)
  simp only [Option.some.injEq, Prod.mk.injEq] at H
  obtain ⟨rfl, rfl⟩ := H
  go_enter Tryd.func61, Tryd.ntmps61
  go_wp2
  go_ret2
  exact ⟨by first | rfl | (simp [errW_none, errW_some] <;> rfl) | (simp [*, errW_none, errW_some] <;> rfl), by repeat (first | (with_reducible first | exact HB.out | apply below_alloc | apply pw_below_drewN | apply below_drew1) | exact HB.out)⟩

end Go.Proofs.YtpeeflkodpnbpaaDoor.Pr
-- indented by one
