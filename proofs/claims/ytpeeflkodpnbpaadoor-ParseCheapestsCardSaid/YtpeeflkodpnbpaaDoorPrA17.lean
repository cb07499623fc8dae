-- Laid by wip/tools/inj.py of this project, which drives the kit's printer. Lean checks it.
import Derived.Test.YtpeeflkodpnbpaaDoorPr0
namespace Go.Proofs.YtpeeflkodpnbpaaDoor.Pr
open Go.RowKit Go.Proofs.YtpeeflkodpnbpaaDoorW.PrintWords Go.Proofs.YtpeeflkodpnbpaaDoorW.PrintLast Go.Proofs.YtpeeflkodpnbpaaDoorW.PrintMore
attribute [local go_sem] max2_int min2_int max_two min_two max_three min_three max_four min_four   -- for this text's walks alone
set_option linter.unusedVariables false
set_option linter.unusedSimpArgs false

/-! ### numnahref09_Plan: function 57 -/
mutual
def numnahref09_Plan.l0 : Nat → ByteArray → List (S63) → Int → Int → Option (Bool)
 | 0, _, _, _, _ => none
 | k + 1, x0, x1, x5, x6 => if x6 < (x1.length : Int) then (if 0 ≤ x6 then (if ((rd_T63 x1 x6).f1) < 1 then (numnahref09_Plan.j1 k x0 x1 x5 x6 true ((rd_T63 x1 x6).f0) ((rd_T63 x1 x6).f1)) else (if ((rd_T63 x1 x6).f1) > (wrap64 ((x0.size : Int) - x5)) then (numnahref09_Plan.j1 k x0 x1 x5 x6 true ((rd_T63 x1 x6).f0) ((rd_T63 x1 x6).f1)) else (if ((rd_T63 x1 x6).f0) < (-1) then (numnahref09_Plan.j1 k x0 x1 x5 x6 true ((rd_T63 x1 x6).f0) ((rd_T63 x1 x6).f1)) else (if ((rd_T63 x1 x6).f0) ≥ x5 then (numnahref09_Plan.j1 k x0 x1 x5 x6 true ((rd_T63 x1 x6).f0) ((rd_T63 x1 x6).f1)) else (if ((rd_T63 x1 x6).f0) = (-1) then (numnahref09_Plan.j1 k x0 x1 x5 x6 (((rd_T63 x1 x6).f1) != 1) ((rd_T63 x1 x6).f0) ((rd_T63 x1 x6).f1)) else (numnahref09_Plan.j1 k x0 x1 x5 x6 false ((rd_T63 x1 x6).f0) ((rd_T63 x1 x6).f1))))))) else (none)) else (some (x5 == (x0.size : Int)))
def numnahref09_Plan.j1 : Nat → ByteArray → List (S63) → Int → Int → Bool → Int → Int → Option (Bool)
 | 0, _, _, _, _, _, _, _ => none
 | k + 1, x0, x1, x5, x6, x51, x801000, x801001 => if x51 = true then (some false) else (numnahref09_Plan.l1 k x0 x1 x5 x6 0 x801000 x801001)
def numnahref09_Plan.l1 : Nat → ByteArray → List (S63) → Int → Int → Int → Int → Int → Option (Bool)
 | 0, _, _, _, _, _, _, _ => none
 | k + 1, x0, x1, x5, x6, x8, x801000, x801001 => if x8 < x801001 then (numnahref09_Plan.j3 k x0 x1 x5 x6 x8 (decide (x801000 ≥ 0)) x801000 x801001) else (numnahref09_Plan.j3 k x0 x1 x5 x6 x8 false x801000 x801001)
def numnahref09_Plan.j3 : Nat → ByteArray → List (S63) → Int → Int → Int → Bool → Int → Int → Option (Bool)
 | 0, _, _, _, _, _, _, _, _ => none
 | k + 1, x0, x1, x5, x6, x8, x60, x801000, x801001 => if x60 = true then (if 0 ≤ (wrap64 (x801000 + x8)) then (if (wrap64 (x801000 + x8)) < (x0.size : Int) then (if 0 ≤ (wrap64 (x5 + x8)) then (if (wrap64 (x5 + x8)) < (x0.size : Int) then (if (bt x0 (wrap64 (x801000 + x8))) = (bt x0 (wrap64 (x5 + x8))) then (numnahref09_Plan.l1 k x0 x1 x5 x6 (wrap64 (x8 + 1)) x801000 x801001) else (some false)) else (none)) else (none)) else (none)) else (none)) else (numnahref09_Plan.l0 k x0 x1 (wrap64 (x5 + x801001)) (wrap64 (x6 + 1)))
end
def numnahref09_Plan.f (k : Nat) (a0 : ByteArray) (l1 : List (S63)) : Option (Bool) := numnahref09_Plan.l0 k a0 l1 0 0
theorem numnahref09_Plan.mono_l : ∀ k, (∀ y0 y1 y2 y3, LeO (numnahref09_Plan.l0 k y0 y1 y2 y3) (numnahref09_Plan.l0 (k + 1) y0 y1 y2 y3)) ∧ (∀ y0 y1 y2 y3 y4 y5 y6, LeO (numnahref09_Plan.j1 k y0 y1 y2 y3 y4 y5 y6) (numnahref09_Plan.j1 (k + 1) y0 y1 y2 y3 y4 y5 y6)) ∧ (∀ y0 y1 y2 y3 y4 y5 y6, LeO (numnahref09_Plan.l1 k y0 y1 y2 y3 y4 y5 y6) (numnahref09_Plan.l1 (k + 1) y0 y1 y2 y3 y4 y5 y6)) ∧ (∀ y0 y1 y2 y3 y4 y5 y6 y7, LeO (numnahref09_Plan.j3 k y0 y1 y2 y3 y4 y5 y6 y7) (numnahref09_Plan.j3 (k + 1) y0 y1 y2 y3 y4 y5 y6 y7))
 | 0 => ⟨fun _ _ _ _ r h => by simp [numnahref09_Plan.l0] at h, fun _ _ _ _ _ _ _ r h => by simp [numnahref09_Plan.j1] at h, fun _ _ _ _ _ _ _ r h => by simp [numnahref09_Plan.l1] at h, fun _ _ _ _ _ _ _ _ r h => by simp [numnahref09_Plan.j3] at h⟩
 | k + 1 => by
  obtain ⟨ih0, ih1, ih2, ih3⟩ := numnahref09_Plan.mono_l k
  refine ⟨?_, ?_, ?_, ?_⟩
  ·intro y0 y1 y2 y3
   unfold numnahref09_Plan.l0
   repeat' first
   | (with_reducible exact ih0 _ _ _ _)
   | (with_reducible exact ih1 _ _ _ _ _ _ _)
   | (with_reducible exact ih2 _ _ _ _ _ _ _)
   | (with_reducible exact ih3 _ _ _ _ _ _ _ _)
   | (with_reducible exact LeO.refl _)
   | (with_reducible exact LeO.none _)
   | (with_reducible refine LeO.ite ?_ ?_)
   | (with_reducible refine LeO.bind ?_ (fun _ => ?_))
   | exact ih0 _ _ _ _
   | exact ih1 _ _ _ _ _ _ _
   | exact ih2 _ _ _ _ _ _ _
   | exact ih3 _ _ _ _ _ _ _ _
   | exact LeO.none _
   | refine LeO.ite ?_ ?_
   | refine LeO.bind ?_ (fun _ => ?_)
  ·intro y0 y1 y2 y3 y4 y5 y6
   unfold numnahref09_Plan.j1
   repeat' first
   | (with_reducible exact ih0 _ _ _ _)
   | (with_reducible exact ih1 _ _ _ _ _ _ _)
   | (with_reducible exact ih2 _ _ _ _ _ _ _)
   | (with_reducible exact ih3 _ _ _ _ _ _ _ _)
   | (with_reducible exact LeO.refl _)
   | (with_reducible exact LeO.none _)
   | (with_reducible refine LeO.ite ?_ ?_)
   | (with_reducible refine LeO.bind ?_ (fun _ => ?_))
   | exact ih0 _ _ _ _
   | exact ih1 _ _ _ _ _ _ _
   | exact ih2 _ _ _ _ _ _ _
   | exact ih3 _ _ _ _ _ _ _ _
   | exact LeO.none _
   | refine LeO.ite ?_ ?_
   | refine LeO.bind ?_ (fun _ => ?_)
  ·intro y0 y1 y2 y3 y4 y5 y6
   unfold numnahref09_Plan.l1
   repeat' first
   | (with_reducible exact ih0 _ _ _ _)
   | (with_reducible exact ih1 _ _ _ _ _ _ _)
   | (with_reducible exact ih2 _ _ _ _ _ _ _)
   | (with_reducible exact ih3 _ _ _ _ _ _ _ _)
   | (with_reducible exact LeO.refl _)
   | (with_reducible exact LeO.none _)
   | (with_reducible refine LeO.ite ?_ ?_)
   | (with_reducible refine LeO.bind ?_ (fun _ => ?_))
   | exact ih0 _ _ _ _
   | exact ih1 _ _ _ _ _ _ _
   | exact ih2 _ _ _ _ _ _ _
   | exact ih3 _ _ _ _ _ _ _ _
   | exact LeO.none _
   | refine LeO.ite ?_ ?_
   | refine LeO.bind ?_ (fun _ => ?_)
  ·intro y0 y1 y2 y3 y4 y5 y6 y7
   unfold numnahref09_Plan.j3
   repeat' first
   | (with_reducible exact ih0 _ _ _ _)
   | (with_reducible exact ih1 _ _ _ _ _ _ _)
   | (with_reducible exact ih2 _ _ _ _ _ _ _)
   | (with_reducible exact ih3 _ _ _ _ _ _ _ _)
   | (with_reducible exact LeO.refl _)
   | (with_reducible exact LeO.none _)
   | (with_reducible refine LeO.ite ?_ ?_)
   | (with_reducible refine LeO.bind ?_ (fun _ => ?_))
   | exact ih0 _ _ _ _
   | exact ih1 _ _ _ _ _ _ _
   | exact ih2 _ _ _ _ _ _ _
   | exact ih3 _ _ _ _ _ _ _ _
   | exact LeO.none _
   | refine LeO.ite ?_ ?_
   | refine LeO.bind ?_ (fun _ => ?_)
theorem numnahref09_Plan.mono : ∀ a0 a1 k, LeO (numnahref09_Plan.f k a0 a1) (numnahref09_Plan.f (k + 1) a0 a1) := by
 intro a0 a1 k
 obtain ⟨ih0, ih1, ih2, ih3⟩ := numnahref09_Plan.mono_l k
 unfold numnahref09_Plan.f
 repeat' first
   | (with_reducible exact ih0 _ _ _ _)
   | (with_reducible exact ih1 _ _ _ _ _ _ _)
   | (with_reducible exact ih2 _ _ _ _ _ _ _)
   | (with_reducible exact ih3 _ _ _ _ _ _ _ _)
   | (with_reducible exact LeO.refl _)
   | (with_reducible exact LeO.none _)
   | (with_reducible refine LeO.ite ?_ ?_)
   | (with_reducible refine LeO.bind ?_ (fun _ => ?_))
   | exact ih0 _ _ _ _
   | exact ih1 _ _ _ _ _ _ _
   | exact ih2 _ _ _ _ _ _ _
   | exact ih3 _ _ _ _ _ _ _ _
   | exact LeO.none _
   | refine LeO.ite ?_ ?_
   | refine LeO.bind ?_ (fun _ => ?_)
set_option maxHeartbeats 8000000 in
set_option maxRecDepth 100000 in
theorem numnahref09_Plan.calls (k : Nat) (a0 : ByteArray) (A1 : Option Addr) (c1 : Nat) (l1 : List (S63)) (r : Bool) (w : World) (hr1 : Kd.C k63 w A1 l1.length l1) (hc1 : l1.length ≤ c1) (h : numnahref09_Plan.f k a0 l1 = some r) :
  Calls Tryd.prog 57 #[.string a0, .slice A1 l1.length c1] w fun e w' => e = .returned (.bool r) ∧ Below w.heap.size w w' := by
 have hu63 := Tryd.underlying63
 have HR1 := Aside0.mk hr1
 have HC1 := Aside0.mk hc1
 clear hr1 hc1
 have HB := Aside0.mk (Below.refl w.heap.size w)
 have H : (numnahref09_Plan.l0 k a0 l1 0 0) = some r := h
 clear h
 have H' := Aside0.mk H
 clear H
 go_enter Tryd.func57, Tryd.ntmps57
 go_wp2
 repeat (go_quiet (fail); try go_wp2)
 go_loopg [5, 6] k (fun kq v5 v6 w' => ∃ (x5_1 : Int) (x6_1 : Int), v5 = .int .i64 x5_1 ∧ v6 = .int .i64 x6_1 ∧ Aside0 (numnahref09_Plan.l0 kq a0 l1 x5_1 x6_1 = some r) ∧ Aside0 (kq ≤ k) ∧ Aside0 (Below w.heap.size w w'))
 case atStart => exact ⟨(0), (0), (by first | rfl | (simp; done) | (simp [*]; done)), (by first | rfl | (simp; done) | (simp [*]; done)), H', ⟨Nat.le_refl _⟩, ⟨by repeat (first | (with_reducible first | exact HB.out | apply below_alloc | apply pw_below_drewN | apply below_drew1) | exact HB.out)⟩⟩
 case round =>
  clear H'
  try clear c1
  try clear p2
  obtain ⟨x5_1, x6_1, rfl, rfl, HA, HK1, HB⟩ := hrel
  cases gk with
  | zero => exact absurd HA.out (by simp [numnahref09_Plan.l0])
  | succ k1 =>
   have H := HA.out
   clear HA
   simp only [numnahref09_Plan.l0] at H
   by_cases c3 : x6_1 < (l1.length : Int)
   ·rw [if_pos c3] at H
    have c3b0 : decide (x6_1 < (l1.length : Int)) = true := decide_eq_true c3
    clear c3
    by_cases c4 : 0 ≤ x6_1
    ·rw [if_pos c4] at H
     have c4b0 : decide (0 ≤ x6_1) = true := decide_eq_true c4
     clear c4
     have HC5 := Aside0.mk H
     clear H
     have p799 : 0 ≤ (x6_1 : Int) := of_decide_eq_true (by first | (with_reducible assumption) | assumption)
     have q799 : x6_1 < (l1.length : Int) := of_decide_eq_true (by first | (with_reducible assumption) | assumption)
     obtain ⟨ad799, e799, hx799_0, hx799_1⟩ := at_T63 HR1.out x6_1 p799 q799
     cases e799
     replace hx799_0 := (HB.out.cell (World.block_lt_of_cell? w _ hx799_0)).trans hx799_0
     replace hx799_1 := (HB.out.cell (World.block_lt_of_cell? w _ hx799_1)).trans hx799_1
     replace p799 := eq_true p799
     replace q799 := eq_true q799
     go_upto_region 6 with (first | ((with_reducible refine gate_dst (N := 7) rfl ?_); (try (refine gate_guard (by rfl) ?_; dsimp only)); refine box_event ?hg (N := 7) ?hd (cs := #[.int .i64 0, .int .i64 0]) (t := 63) ?hr ?_; (case hd => rfl); (case hg => rfl); (case hr => first | (go_simp; done) | (go_simp; rfl)); intro gb800 hg w6 hbox hb; have n0_ := Aside0.mk (below_step (by repeat (first | (with_reducible first | exact HB.out | apply below_alloc | apply pw_below_drewN | apply below_drew1) | exact HB.out)) hb); have n1_ := Aside0.mk (hbox); have n2_ := Aside0.mk ((by rw [hg]; exact (below_size (by repeat (first | (with_reducible first | exact HB.out | apply below_alloc | apply pw_below_drewN | apply below_drew1) | exact HB.out))) : w.heap.size ≤ gb800)); have n3_ := Aside0.mk ((by rw [hg]; exact (below_size (by repeat (first | (with_reducible first | exact HB.out | apply below_alloc | apply pw_below_drewN | apply below_drew1) | exact HB.out))) : w.heap.size ≤ gb800)); clear HB; have HB := n0_; have BK800 := n1_; have GW800 := n2_; have GE800 := n3_; clear n0_ n1_ n2_ n3_; clear hb hbox hg; have hcz7_0 : w6.cell? ⟨gb800, 0, none⟩ = some (.int .i64 0) := (blk_cell BK800.out 0).trans rfl; have hcz7_1 : w6.cell? ⟨gb800, 1, none⟩ = some (.int .i64 0) := (blk_cell BK800.out 1).trans rfl; have hfz7_0 := blk_frozen BK800.out 0; have hfz7_1 := blk_frozen BK800.out 1))
     repeat (go_quiet (first | ((with_reducible refine gate_dst (N := 7) rfl ?_); (try (refine gate_guard (by rfl) ?_; dsimp only)); refine box_event ?hg (N := 7) ?hd (cs := #[.int .i64 0, .int .i64 0]) (t := 63) ?hr ?_; (case hd => rfl); (case hg => rfl); (case hr => first | (go_simp; done) | (go_simp; rfl)); intro gb800 hg w6 hbox hb; have n0_ := Aside0.mk (below_step (by repeat (first | (with_reducible first | exact HB.out | apply below_alloc | apply pw_below_drewN | apply below_drew1) | exact HB.out)) hb); have n1_ := Aside0.mk (hbox); have n2_ := Aside0.mk ((by rw [hg]; exact (below_size (by repeat (first | (with_reducible first | exact HB.out | apply below_alloc | apply pw_below_drewN | apply below_drew1) | exact HB.out))) : w.heap.size ≤ gb800)); have n3_ := Aside0.mk ((by rw [hg]; exact (below_size (by repeat (first | (with_reducible first | exact HB.out | apply below_alloc | apply pw_below_drewN | apply below_drew1) | exact HB.out))) : w.heap.size ≤ gb800)); clear HB; have HB := n0_; have BK800 := n1_; have GW800 := n2_; have GE800 := n3_; clear n0_ n1_ n2_ n3_; clear hb hbox hg; have hcz7_0 : w6.cell? ⟨gb800, 0, none⟩ = some (.int .i64 0) := (blk_cell BK800.out 0).trans rfl; have hcz7_1 : w6.cell? ⟨gb800, 1, none⟩ = some (.int .i64 0) := (blk_cell BK800.out 1).trans rfl; have hfz7_0 := blk_frozen BK800.out 0; have hfz7_1 := blk_frozen BK800.out 1)); go_upto_region 6 with (first | ((with_reducible refine gate_dst (N := 7) rfl ?_); (try (refine gate_guard (by rfl) ?_; dsimp only)); refine box_event ?hg (N := 7) ?hd (cs := #[.int .i64 0, .int .i64 0]) (t := 63) ?hr ?_; (case hd => rfl); (case hg => rfl); (case hr => first | (go_simp; done) | (go_simp; rfl)); intro gb800 hg w6 hbox hb; have n0_ := Aside0.mk (below_step (by repeat (first | (with_reducible first | exact HB.out | apply below_alloc | apply pw_below_drewN | apply below_drew1) | exact HB.out)) hb); have n1_ := Aside0.mk (hbox); have n2_ := Aside0.mk ((by rw [hg]; exact (below_size (by repeat (first | (with_reducible first | exact HB.out | apply below_alloc | apply pw_below_drewN | apply below_drew1) | exact HB.out))) : w.heap.size ≤ gb800)); have n3_ := Aside0.mk ((by rw [hg]; exact (below_size (by repeat (first | (with_reducible first | exact HB.out | apply below_alloc | apply pw_below_drewN | apply below_drew1) | exact HB.out))) : w.heap.size ≤ gb800)); clear HB; have HB := n0_; have BK800 := n1_; have GW800 := n2_; have GE800 := n3_; clear n0_ n1_ n2_ n3_; clear hb hbox hg; have hcz7_0 : w6.cell? ⟨gb800, 0, none⟩ = some (.int .i64 0) := (blk_cell BK800.out 0).trans rfl; have hcz7_1 : w6.cell? ⟨gb800, 1, none⟩ = some (.int .i64 0) := (blk_cell BK800.out 1).trans rfl; have hfz7_0 := blk_frozen BK800.out 0; have hfz7_1 := blk_frozen BK800.out 1)))
     (try simp only [Act.put, List.setIfInBounds_toArray, List.set_cons_zero, List.set_cons_succ])
     go_cut [51] (fun v51 wc => ∃ (kq : Nat) (x51_4 : Bool), v51 = .bool x51_4 ∧ Aside0 (numnahref09_Plan.j1 kq a0 l1 x5_1 x6_1 x51_4 ((rd_T63 l1 x6_1).f0) ((rd_T63 l1 x6_1).f1) = some r) ∧ Aside0 (kq ≤ k1) ∧ Aside0 (wc.heap[gb800]? = some (.cells #[.int .i64 ((rd_T63 l1 x6_1).f0), .int .i64 ((rd_T63 l1 x6_1).f1)] 63 (0, 0))) ∧ Aside0 (Below w.heap.size w wc))
     case first =>
      have H := HC5.out
      clear HC5
      by_cases c8 : ((rd_T63 l1 x6_1).f1) < 1
      ·rw [if_pos c8] at H
       have c8b0 : decide (((rd_T63 l1 x6_1).f1) < 1) = true := decide_eq_true c8
       clear c8
       (first | rw [c8b0] | (simp only [i64_w, i32_w]; rw [c8b0]) | skip)
       have H' := Aside0.mk H
       clear H
       have hcz9_0 : w6.cell? ⟨gb800, 0, none⟩ = some (.int .i64 0) := (blk_cell BK800.out 0).trans rfl
       have hcz9_1 : w6.cell? ⟨gb800, 1, none⟩ = some (.int .i64 0) := (blk_cell BK800.out 1).trans rfl
       have hfz9_0 := blk_frozen BK800.out 0
       have hfz9_1 := blk_frozen BK800.out 1
       go_wp2
       repeat (go_quiet (fail); try go_wp2)
       go_meet
       case rel => exact ⟨_, (true), (by first | rfl | (simp; done) | (simp [*]; done)), H', ⟨by have := HK1.out; first | omega | exact Nat.le_refl _⟩, ⟨by (with_reducible repeat (first | refine blk_drewN ?_ _ | refine blk_drew ?_ | refine blk_alloc ?_ _)); refine blk_put (cs := #[.int .i64 ((rd_T63 l1 x6_1).f0), .int .i64 0]) ?_ 1 _ rfl; (with_reducible repeat (first | refine blk_drewN ?_ _ | refine blk_drew ?_ | refine blk_alloc ?_ _)); refine blk_put (cs := #[.int .i64 0, .int .i64 0]) ?_ 0 _ rfl; (with_reducible repeat (first | refine blk_drewN ?_ _ | refine blk_drew ?_ | refine blk_alloc ?_ _)); exact BK800.out⟩, ⟨by repeat (first | (with_reducible first | exact HB.out | apply below_alloc | apply pw_below_drewN | apply below_drew1 | refine below_set ?_ GE800.out) | exact HB.out)⟩⟩
      ·rw [if_neg c8] at H
       have c8b0 : decide (((rd_T63 l1 x6_1).f1) < 1) = false := decide_eq_false c8
       clear c8
       (first | rw [c8b0] | (simp only [i64_w, i32_w]; rw [c8b0]) | skip)
       by_cases c10 : ((rd_T63 l1 x6_1).f1) > (wrap64 ((a0.size : Int) - x5_1))
       ·rw [if_pos c10] at H
        have c10b0 : decide ((wrap64 ((a0.size : Int) - x5_1)) < ((rd_T63 l1 x6_1).f1)) = true := decide_eq_true c10
        clear c10
        have H' := Aside0.mk H
        clear H
        have hcz11_0 : w6.cell? ⟨gb800, 0, none⟩ = some (.int .i64 0) := (blk_cell BK800.out 0).trans rfl
        have hcz11_1 : w6.cell? ⟨gb800, 1, none⟩ = some (.int .i64 0) := (blk_cell BK800.out 1).trans rfl
        have hfz11_0 := blk_frozen BK800.out 0
        have hfz11_1 := blk_frozen BK800.out 1
        go_wp2
        repeat (go_quiet (fail); try go_wp2)
        go_meet
        case rel => exact ⟨_, (true), (by first | rfl | (simp; done) | (simp [*]; done)), H', ⟨by have := HK1.out; first | omega | exact Nat.le_refl _⟩, ⟨by (with_reducible repeat (first | refine blk_drewN ?_ _ | refine blk_drew ?_ | refine blk_alloc ?_ _)); refine blk_put (cs := #[.int .i64 ((rd_T63 l1 x6_1).f0), .int .i64 0]) ?_ 1 _ rfl; (with_reducible repeat (first | refine blk_drewN ?_ _ | refine blk_drew ?_ | refine blk_alloc ?_ _)); refine blk_put (cs := #[.int .i64 0, .int .i64 0]) ?_ 0 _ rfl; (with_reducible repeat (first | refine blk_drewN ?_ _ | refine blk_drew ?_ | refine blk_alloc ?_ _)); exact BK800.out⟩, ⟨by repeat (first | (with_reducible first | exact HB.out | apply below_alloc | apply pw_below_drewN | apply below_drew1 | refine below_set ?_ GE800.out) | exact HB.out)⟩⟩
       ·rw [if_neg c10] at H
        have c10b0 : decide ((wrap64 ((a0.size : Int) - x5_1)) < ((rd_T63 l1 x6_1).f1)) = false := decide_eq_false c10
        clear c10
        by_cases c12 : ((rd_T63 l1 x6_1).f0) < (-1)
        ·rw [if_pos c12] at H
         have c12b0 : decide (((rd_T63 l1 x6_1).f0) < (-1)) = true := decide_eq_true c12
         clear c12
         have H' := Aside0.mk H
         clear H
         have hcz13_0 : w6.cell? ⟨gb800, 0, none⟩ = some (.int .i64 0) := (blk_cell BK800.out 0).trans rfl
         have hcz13_1 : w6.cell? ⟨gb800, 1, none⟩ = some (.int .i64 0) := (blk_cell BK800.out 1).trans rfl
         have hfz13_0 := blk_frozen BK800.out 0
         have hfz13_1 := blk_frozen BK800.out 1
         go_wp2
         repeat (go_quiet (fail); try go_wp2)
         go_meet
         case rel => exact ⟨_, (true), (by first | rfl | (simp; done) | (simp [*]; done)), H', ⟨by have := HK1.out; first | omega | exact Nat.le_refl _⟩, ⟨by (with_reducible repeat (first | refine blk_drewN ?_ _ | refine blk_drew ?_ | refine blk_alloc ?_ _)); refine blk_put (cs := #[.int .i64 ((rd_T63 l1 x6_1).f0), .int .i64 0]) ?_ 1 _ rfl; (with_reducible repeat (first | refine blk_drewN ?_ _ | refine blk_drew ?_ | refine blk_alloc ?_ _)); refine blk_put (cs := #[.int .i64 0, .int .i64 0]) ?_ 0 _ rfl; (with_reducible repeat (first | refine blk_drewN ?_ _ | refine blk_drew ?_ | refine blk_alloc ?_ _)); exact BK800.out⟩, ⟨by repeat (first | (with_reducible first | exact HB.out | apply below_alloc | apply pw_below_drewN | apply below_drew1 | refine below_set ?_ GE800.out) | exact HB.out)⟩⟩
        ·rw [if_neg c12] at H
         have c12b0 : decide (((rd_T63 l1 x6_1).f0) < (-1)) = false := decide_eq_false c12
         clear c12
         by_cases c14 : ((rd_T63 l1 x6_1).f0) ≥ x5_1
         ·rw [if_pos c14] at H
          have c14b0 : decide (x5_1 ≤ ((rd_T63 l1 x6_1).f0)) = true := decide_eq_true c14
          clear c14
          have H' := Aside0.mk H
          clear H
          have hcz15_0 : w6.cell? ⟨gb800, 0, none⟩ = some (.int .i64 0) := (blk_cell BK800.out 0).trans rfl
          have hcz15_1 : w6.cell? ⟨gb800, 1, none⟩ = some (.int .i64 0) := (blk_cell BK800.out 1).trans rfl
          have hfz15_0 := blk_frozen BK800.out 0
          have hfz15_1 := blk_frozen BK800.out 1
          go_wp2
          repeat (go_quiet (fail); try go_wp2)
          go_meet
          case rel => exact ⟨_, (true), (by first | rfl | (simp; done) | (simp [*]; done)), H', ⟨by have := HK1.out; first | omega | exact Nat.le_refl _⟩, ⟨by (with_reducible repeat (first | refine blk_drewN ?_ _ | refine blk_drew ?_ | refine blk_alloc ?_ _)); refine blk_put (cs := #[.int .i64 ((rd_T63 l1 x6_1).f0), .int .i64 0]) ?_ 1 _ rfl; (with_reducible repeat (first | refine blk_drewN ?_ _ | refine blk_drew ?_ | refine blk_alloc ?_ _)); refine blk_put (cs := #[.int .i64 0, .int .i64 0]) ?_ 0 _ rfl; (with_reducible repeat (first | refine blk_drewN ?_ _ | refine blk_drew ?_ | refine blk_alloc ?_ _)); exact BK800.out⟩, ⟨by repeat (first | (with_reducible first | exact HB.out | apply below_alloc | apply pw_below_drewN | apply below_drew1 | refine below_set ?_ GE800.out) | exact HB.out)⟩⟩
         ·rw [if_neg c14] at H
          have c14b0 : decide (x5_1 ≤ ((rd_T63 l1 x6_1).f0)) = false := decide_eq_false c14
          clear c14
          by_cases c16 : ((rd_T63 l1 x6_1).f0) = (-1)
          ·rw [if_pos c16] at H
           have c16b0 : (((rd_T63 l1 x6_1).f0) == (-1)) = true := beq_iff_eq.mpr c16
           have c16b1 : (((rd_T63 l1 x6_1).f0) != (-1)) = false := bne_eq_false_iff_eq.mpr c16
           clear c16
           have H' := Aside0.mk H
           clear H
           have hcz17_0 : w6.cell? ⟨gb800, 0, none⟩ = some (.int .i64 0) := (blk_cell BK800.out 0).trans rfl
           have hcz17_1 : w6.cell? ⟨gb800, 1, none⟩ = some (.int .i64 0) := (blk_cell BK800.out 1).trans rfl
           have hfz17_0 := blk_frozen BK800.out 0
           have hfz17_1 := blk_frozen BK800.out 1
           go_wp2
           repeat (go_quiet (fail); try go_wp2)
           go_meet
           case rel => exact ⟨_, ((((rd_T63 l1 x6_1).f1) != 1)), (by first | rfl | (simp; done) | (simp [*]; done)), H', ⟨by have := HK1.out; first | omega | exact Nat.le_refl _⟩, ⟨by (with_reducible repeat (first | refine blk_drewN ?_ _ | refine blk_drew ?_ | refine blk_alloc ?_ _)); refine blk_put (cs := #[.int .i64 ((rd_T63 l1 x6_1).f0), .int .i64 0]) ?_ 1 _ rfl; (with_reducible repeat (first | refine blk_drewN ?_ _ | refine blk_drew ?_ | refine blk_alloc ?_ _)); refine blk_put (cs := #[.int .i64 0, .int .i64 0]) ?_ 0 _ rfl; (with_reducible repeat (first | refine blk_drewN ?_ _ | refine blk_drew ?_ | refine blk_alloc ?_ _)); exact BK800.out⟩, ⟨by repeat (first | (with_reducible first | exact HB.out | apply below_alloc | apply pw_below_drewN | apply below_drew1 | refine below_set ?_ GE800.out) | exact HB.out)⟩⟩
          ·rw [if_neg c16] at H
           have c16b0 : (((rd_T63 l1 x6_1).f0) == (-1)) = false := beq_eq_false_iff_ne.mpr c16
           have c16b1 : (((rd_T63 l1 x6_1).f0) != (-1)) = true := bne_iff_ne.mpr c16
           have H' := Aside0.mk H
           clear H
           have hcz18_0 : w6.cell? ⟨gb800, 0, none⟩ = some (.int .i64 0) := (blk_cell BK800.out 0).trans rfl
           have hcz18_1 : w6.cell? ⟨gb800, 1, none⟩ = some (.int .i64 0) := (blk_cell BK800.out 1).trans rfl
           have hfz18_0 := blk_frozen BK800.out 0
           have hfz18_1 := blk_frozen BK800.out 1
           go_wp2
           repeat (go_quiet (fail); try go_wp2)
           go_meet
           case rel => exact ⟨_, (false), (by first | rfl | (simp; done) | (simp [*]; done)), H', ⟨by have := HK1.out; first | omega | exact Nat.le_refl _⟩, ⟨by (with_reducible repeat (first | refine blk_drewN ?_ _ | refine blk_drew ?_ | refine blk_alloc ?_ _)); refine blk_put (cs := #[.int .i64 ((rd_T63 l1 x6_1).f0), .int .i64 0]) ?_ 1 _ rfl; (with_reducible repeat (first | refine blk_drewN ?_ _ | refine blk_drew ?_ | refine blk_alloc ?_ _)); refine blk_put (cs := #[.int .i64 0, .int .i64 0]) ?_ 0 _ rfl; (with_reducible repeat (first | refine blk_drewN ?_ _ | refine blk_drew ?_ | refine blk_alloc ?_ _)); exact BK800.out⟩, ⟨by repeat (first | (with_reducible first | exact HB.out | apply below_alloc | apply pw_below_drewN | apply below_drew1 | refine below_set ?_ GE800.out) | exact HB.out)⟩⟩
     case rest =>
      clear HC5
      try clear c1
      try clear p2
      try clear c3
      try clear c3b0
      try clear c4
      try clear c4b0
      try clear c5
      try clear p6
      try clear p7
      try clear q7
      try clear hx7
      try clear c8
      try clear c8b0
      try clear c10
      try clear c10b0
      try clear c12
      try clear c12b0
      try clear c14
      try clear c14b0
      try clear c16
      try clear c16b0
      try clear c16b1
      try clear hcz11_0
      try clear hcz11_1
      try clear hcz13_0
      try clear hcz13_1
      try clear hcz15_0
      try clear hcz15_1
      try clear hcz17_0
      try clear hcz17_1
      try clear hcz18_0
      try clear hcz18_1
      try clear hcz7_0
      try clear hcz7_1
      try clear hcz9_0
      try clear hcz9_1
      try clear hfz11_0
      try clear hfz11_1
      try clear hfz13_0
      try clear hfz13_1
      try clear hfz15_0
      try clear hfz15_1
      try clear hfz17_0
      try clear hfz17_1
      try clear hfz18_0
      try clear hfz18_1
      try clear hfz7_0
      try clear hfz7_1
      try clear hfz9_0
      try clear hfz9_1
      try clear hx799_0
      try clear hx799_1
      try clear p2
      try clear p799
      try clear q799
      obtain ⟨kq, x51_4, rfl, HA, HJ4, BK800, HB⟩ := hcut
      cases kq with
      | zero => exact absurd HA.out (by simp [numnahref09_Plan.j1])
      | succ kj4 =>
       have H := HA.out
       clear HA
       simp only [numnahref09_Plan.j1] at H
       by_cases c19 : x51_4 = true
       ·subst c19
        have H1 : (some false) = some r := by rw [if_pos rfl] at H; exact H
        clear H
        have H := H1
        clear H1
        obtain rfl := Option.some.inj H
        go_wp2
        repeat (go_quiet (fail); try go_wp2)
        go_ret
        exact ⟨by first | rfl | (simp [errW_none, errW_some] <;> rfl) | (simp [*, errW_none, errW_some] <;> rfl), by repeat (first | (with_reducible first | exact HB.out | apply below_alloc | apply pw_below_drewN | apply below_drew1 | refine below_set ?_ GE800.out) | exact HB.out)⟩
       ·replace c19 := Bool.eq_false_iff.mpr c19
        subst c19
        have H1 : (numnahref09_Plan.l1 kj4 a0 l1 x5_1 x6_1 0 ((rd_T63 l1 x6_1).f0) ((rd_T63 l1 x6_1).f1)) = some r := by rw [if_neg (show ¬ (false = true) by decide)] at H; exact H
        clear H
        have H := H1
        clear H1
        have H' := Aside0.mk H
        clear H
        go_wp2
        repeat (go_quiet (fail); try go_wp2)
        go_loopg [8] kj4 (fun kq v8 w' => ∃ (x8_3 : Int), v8 = .int .i64 x8_3 ∧ Aside0 (numnahref09_Plan.l1 kq a0 l1 x5_1 x6_1 x8_3 ((rd_T63 l1 x6_1).f0) ((rd_T63 l1 x6_1).f1) = some r) ∧ Aside0 (kq ≤ kj4) ∧ Aside0 (w'.heap[gb800]? = some (.cells #[.int .i64 ((rd_T63 l1 x6_1).f0), .int .i64 ((rd_T63 l1 x6_1).f1)] 63 (0, 0))) ∧ Aside0 (Below w.heap.size w w'))
        case atStart => exact ⟨(0), (by first | rfl | (simp; done) | (simp [*]; done)), H', ⟨Nat.le_refl _⟩, ⟨by (with_reducible repeat (first | refine blk_drewN ?_ _ | refine blk_drew ?_ | refine blk_alloc ?_ _)); exact BK800.out⟩, ⟨by repeat (first | (with_reducible first | exact HB.out | apply below_alloc | apply pw_below_drewN | apply below_drew1 | refine below_set ?_ GE800.out) | exact HB.out)⟩⟩
        case round =>
         clear H'
         try clear c1
         try clear p2
         try clear c3
         try clear c3b0
         try clear c4
         try clear c4b0
         try clear c5
         try clear p6
         try clear p7
         try clear q7
         try clear hx7
         try clear c8
         try clear c8b0
         try clear c10
         try clear c10b0
         try clear c12
         try clear c12b0
         try clear c14
         try clear c14b0
         try clear c16
         try clear c16b0
         try clear c16b1
         try clear c19
         try clear hcz11_0
         try clear hcz11_1
         try clear hcz13_0
         try clear hcz13_1
         try clear hcz15_0
         try clear hcz15_1
         try clear hcz17_0
         try clear hcz17_1
         try clear hcz18_0
         try clear hcz18_1
         try clear hcz7_0
         try clear hcz7_1
         try clear hcz9_0
         try clear hcz9_1
         try clear hfz11_0
         try clear hfz11_1
         try clear hfz13_0
         try clear hfz13_1
         try clear hfz15_0
         try clear hfz15_1
         try clear hfz17_0
         try clear hfz17_1
         try clear hfz18_0
         try clear hfz18_1
         try clear hfz7_0
         try clear hfz7_1
         try clear hfz9_0
         try clear hfz9_1
         try clear hx799_0
         try clear hx799_1
         try clear p2
         try clear p6
         try clear p7
         try clear p799
         try clear q7
         try clear q799
         obtain ⟨x8_3, rfl, HA, HK3, BK800, HB⟩ := hrel
         cases gk with
         | zero => exact absurd HA.out (by simp [numnahref09_Plan.l1])
         | succ k3 =>
          have H := HA.out
          clear HA
          simp only [numnahref09_Plan.l1] at H
          have HC20 := Aside0.mk H
          clear H
          go_upto_region 9 with (fail)
          repeat (go_quiet (fail); go_upto_region 9 with (fail))
          go_cut [60] (fun v60 wc => ∃ (kq : Nat) (x60_19 : Bool), v60 = .bool x60_19 ∧ Aside0 (numnahref09_Plan.j3 kq a0 l1 x5_1 x6_1 x8_3 x60_19 ((rd_T63 l1 x6_1).f0) ((rd_T63 l1 x6_1).f1) = some r) ∧ Aside0 (kq ≤ k3) ∧ Aside0 (wc.heap[gb800]? = some (.cells #[.int .i64 ((rd_T63 l1 x6_1).f0), .int .i64 ((rd_T63 l1 x6_1).f1)] 63 (0, 0))) ∧ Aside0 (Below w.heap.size w wc))
          case first =>
           have H := HC20.out
           clear HC20
           by_cases c21 : x8_3 < ((rd_T63 l1 x6_1).f1)
           ·rw [if_pos c21] at H
            have c21b0 : decide (x8_3 < ((rd_T63 l1 x6_1).f1)) = true := decide_eq_true c21
            clear c21
            (first | rw [c21b0] | (simp only [i64_w, i32_w]; rw [c21b0]) | skip)
            have H' := Aside0.mk H
            clear H
            have hcz22_0 : wr.cell? ⟨gb800, 0, none⟩ = some (.int .i64 ((rd_T63 l1 x6_1).f0)) := (blk_cell BK800.out 0).trans rfl
            have hcz22_1 : wr.cell? ⟨gb800, 1, none⟩ = some (.int .i64 ((rd_T63 l1 x6_1).f1)) := (blk_cell BK800.out 1).trans rfl
            have hfz22_0 := blk_frozen BK800.out 0
            have hfz22_1 := blk_frozen BK800.out 1
            go_wp2
            repeat (go_quiet (fail); try go_wp2)
            go_meet
            case rel => exact ⟨_, (decide (((rd_T63 l1 x6_1).f0) ≥ 0)), (by first | rfl | (simp; done) | (simp [*]; done)), H', ⟨by have := HK1.out; have := HJ4.out; have := HK3.out; first | omega | exact Nat.le_refl _⟩, ⟨by (with_reducible repeat (first | refine blk_drewN ?_ _ | refine blk_drew ?_ | refine blk_alloc ?_ _)); exact BK800.out⟩, ⟨by repeat (first | (with_reducible first | exact HB.out | apply below_alloc | apply pw_below_drewN | apply below_drew1 | refine below_set ?_ GE800.out) | exact HB.out)⟩⟩
           ·rw [if_neg c21] at H
            have c21b0 : decide (x8_3 < ((rd_T63 l1 x6_1).f1)) = false := decide_eq_false c21
            clear c21
            (first | rw [c21b0] | (simp only [i64_w, i32_w]; rw [c21b0]) | skip)
            have H' := Aside0.mk H
            clear H
            have hcz23_0 : wr.cell? ⟨gb800, 0, none⟩ = some (.int .i64 ((rd_T63 l1 x6_1).f0)) := (blk_cell BK800.out 0).trans rfl
            have hcz23_1 : wr.cell? ⟨gb800, 1, none⟩ = some (.int .i64 ((rd_T63 l1 x6_1).f1)) := (blk_cell BK800.out 1).trans rfl
            have hfz23_0 := blk_frozen BK800.out 0
            have hfz23_1 := blk_frozen BK800.out 1
            go_wp2
            repeat (go_quiet (fail); try go_wp2)
            go_meet
            case rel => exact ⟨_, (false), (by first | rfl | (simp; done) | (simp [*]; done)), H', ⟨by have := HK1.out; have := HJ4.out; have := HK3.out; first | omega | exact Nat.le_refl _⟩, ⟨by (with_reducible repeat (first | refine blk_drewN ?_ _ | refine blk_drew ?_ | refine blk_alloc ?_ _)); exact BK800.out⟩, ⟨by repeat (first | (with_reducible first | exact HB.out | apply below_alloc | apply pw_below_drewN | apply below_drew1 | refine below_set ?_ GE800.out) | exact HB.out)⟩⟩
          case rest =>
           clear HC20
           try clear c1
           try clear c2
           try clear p2
           try clear c3
           try clear c3b0
           try clear c4
           try clear c4b0
           try clear c5
           try clear p6
           try clear p7
           try clear q7
           try clear hx7
           try clear c8
           try clear c8b0
           try clear c10
           try clear c10b0
           try clear c12
           try clear c12b0
           try clear c14
           try clear c14b0
           try clear c16
           try clear c16b0
           try clear c16b1
           try clear c19
           try clear c21
           try clear c21b0
           try clear hcz11_0
           try clear hcz11_1
           try clear hcz13_0
           try clear hcz13_1
           try clear hcz15_0
           try clear hcz15_1
           try clear hcz17_0
           try clear hcz17_1
           try clear hcz18_0
           try clear hcz18_1
           try clear hcz22_0
           try clear hcz22_1
           try clear hcz23_0
           try clear hcz23_1
           try clear hcz7_0
           try clear hcz7_1
           try clear hcz9_0
           try clear hcz9_1
           try clear hfz11_0
           try clear hfz11_1
           try clear hfz13_0
           try clear hfz13_1
           try clear hfz15_0
           try clear hfz15_1
           try clear hfz17_0
           try clear hfz17_1
           try clear hfz18_0
           try clear hfz18_1
           try clear hfz22_0
           try clear hfz22_1
           try clear hfz23_0
           try clear hfz23_1
           try clear hfz7_0
           try clear hfz7_1
           try clear hfz9_0
           try clear hfz9_1
           try clear hx799_0
           try clear hx799_1
           try clear p2
           try clear p6
           try clear p7
           try clear p799
           try clear q7
           try clear q799
           obtain ⟨kq, x60_19, rfl, HA, HJ19, BK800, HB⟩ := hcut
           cases kq with
           | zero => exact absurd HA.out (by simp [numnahref09_Plan.j3])
           | succ kj19 =>
            have H := HA.out
            clear HA
            simp only [numnahref09_Plan.j3] at H
            by_cases c24 : x60_19 = true
            ·subst c24
             have H1 : (if 0 ≤ (wrap64 (((rd_T63 l1 x6_1).f0) + x8_3)) then (if (wrap64 (((rd_T63 l1 x6_1).f0) + x8_3)) < (a0.size : Int) then (if 0 ≤ (wrap64 (x5_1 + x8_3)) then (if (wrap64 (x5_1 + x8_3)) < (a0.size : Int) then (if (bt a0 (wrap64 (((rd_T63 l1 x6_1).f0) + x8_3))) = (bt a0 (wrap64 (x5_1 + x8_3))) then (numnahref09_Plan.l1 kj19 a0 l1 x5_1 x6_1 (wrap64 (x8_3 + 1)) ((rd_T63 l1 x6_1).f0) ((rd_T63 l1 x6_1).f1)) else (some false)) else (none)) else (none)) else (none)) else (none)) = some r := by rw [if_pos rfl] at H; exact H
             clear H
             have H := H1
             clear H1
             obtain ⟨ji25, hji25⟩ : ∃ j_ : Int, (wrap64 (((rd_T63 l1 x6_1).f0) + x8_3)) = j_ := ⟨_, rfl⟩
             replace H : (if 0 ≤ (ji25) then (if (ji25) < (a0.size : Int) then (if 0 ≤ (wrap64 (x5_1 + x8_3)) then (if (wrap64 (x5_1 + x8_3)) < (a0.size : Int) then (if (bt a0 (ji25)) = (bt a0 (wrap64 (x5_1 + x8_3))) then (numnahref09_Plan.l1 kj19 a0 l1 x5_1 x6_1 (wrap64 (x8_3 + 1)) ((rd_T63 l1 x6_1).f0) ((rd_T63 l1 x6_1).f1)) else (some false)) else (none)) else (none)) else (none)) else (none)) = some r := by first | (rw [hji25] at H; exact H) | (simp only [hji25] at H ⊢; exact H)
             have hji25w : (IntKind.i64.wrap (((rd_T63 l1 x6_1).f0) + x8_3)) = ji25 := (i64_w _).trans hji25
             by_cases c26 : 0 ≤ (ji25)
             ·rw [if_pos c26] at H
              have c26b0 : decide (0 ≤ (ji25)) = true := decide_eq_true c26
              clear c26
              by_cases c27 : (ji25) < (a0.size : Int)
              ·rw [if_pos c27] at H
               have c27b0 : decide ((ji25) < (a0.size : Int)) = true := decide_eq_true c27
               clear c27
               obtain ⟨ji29, hji29⟩ : ∃ j_ : Int, (wrap64 (x5_1 + x8_3)) = j_ := ⟨_, rfl⟩
               replace H : (if 0 ≤ (ji29) then (if (ji29) < (a0.size : Int) then (if (bt a0 (ji25)) = (bt a0 (ji29)) then (numnahref09_Plan.l1 kj19 a0 l1 x5_1 x6_1 (wrap64 (x8_3 + 1)) ((rd_T63 l1 x6_1).f0) ((rd_T63 l1 x6_1).f1)) else (some false)) else (none)) else (none)) = some r := by first | (rw [hji29] at H; exact H) | (simp only [hji29] at H ⊢; exact H)
               have hji29w : (IntKind.i64.wrap (x5_1 + x8_3)) = ji29 := (i64_w _).trans hji29
               by_cases c30 : 0 ≤ (ji29)
               ·rw [if_pos c30] at H
                have c30b0 : decide (0 ≤ (ji29)) = true := decide_eq_true c30
                clear c30
                by_cases c31 : (ji29) < (a0.size : Int)
                ·rw [if_pos c31] at H
                 have c31b0 : decide ((ji29) < (a0.size : Int)) = true := decide_eq_true c31
                 clear c31
                 by_cases c33 : (bt a0 (ji25)) = (bt a0 (ji29))
                 ·rw [if_pos c33] at H
                  have c33b0 : ((bt a0 (ji25)) == (bt a0 (ji29))) = true := beq_iff_eq.mpr c33
                  have c33b1 : ((bt a0 (ji25)) != (bt a0 (ji29))) = false := bne_eq_false_iff_eq.mpr c33
                  clear c33
                  have H' := Aside0.mk H
                  clear H
                  have hcz34_0 : wc.cell? ⟨gb800, 0, none⟩ = some (.int .i64 ((rd_T63 l1 x6_1).f0)) := (blk_cell BK800.out 0).trans rfl
                  have hcz34_1 : wc.cell? ⟨gb800, 1, none⟩ = some (.int .i64 ((rd_T63 l1 x6_1).f1)) := (blk_cell BK800.out 1).trans rfl
                  have hfz34_0 := blk_frozen BK800.out 0
                  have hfz34_1 := blk_frozen BK800.out 1
                  have p28 : 0 ≤ ((ji25) : Int) := of_decide_eq_true (by first | (with_reducible assumption) | assumption)
                  have q28 : (ji25) < (a0.size : Int) := of_decide_eq_true (by first | (with_reducible assumption) | assumption)
                  have hx28 := bt_at a0 (ji25)
                  replace p28 := eq_true p28
                  replace q28 := eq_true q28
                  have p32 : 0 ≤ ((ji29) : Int) := of_decide_eq_true (by first | (with_reducible assumption) | assumption)
                  have q32 : (ji29) < (a0.size : Int) := of_decide_eq_true (by first | (with_reducible assumption) | assumption)
                  have hx32 := bt_at a0 (ji29)
                  replace p32 := eq_true p32
                  replace q32 := eq_true q32
                  go_wp2
                  repeat (go_quiet (fail); try go_wp2)
                  go_roundg kj19
                  case measure => have := HK1.out; have := HJ4.out; have := HK3.out; have := HJ19.out; omega
                  case rel => exact ⟨(wrap64 (x8_3 + 1)), (by first | rfl | (simp; done) | (simp [*]; done)), H', ⟨by have := HK1.out; have := HJ4.out; have := HK3.out; have := HJ19.out; omega⟩, ⟨by (with_reducible repeat (first | refine blk_drewN ?_ _ | refine blk_drew ?_ | refine blk_alloc ?_ _)); exact BK800.out⟩, ⟨by repeat (first | (with_reducible first | exact HB.out | apply below_alloc | apply pw_below_drewN | apply below_drew1 | refine below_set ?_ GE800.out) | exact HB.out)⟩⟩
                 ·rw [if_neg c33] at H
                  have c33b0 : ((bt a0 (ji25)) == (bt a0 (ji29))) = false := beq_eq_false_iff_ne.mpr c33
                  have c33b1 : ((bt a0 (ji25)) != (bt a0 (ji29))) = true := bne_iff_ne.mpr c33
                  obtain rfl := Option.some.inj H
                  have hcz35_0 : wc.cell? ⟨gb800, 0, none⟩ = some (.int .i64 ((rd_T63 l1 x6_1).f0)) := (blk_cell BK800.out 0).trans rfl
                  have hcz35_1 : wc.cell? ⟨gb800, 1, none⟩ = some (.int .i64 ((rd_T63 l1 x6_1).f1)) := (blk_cell BK800.out 1).trans rfl
                  have hfz35_0 := blk_frozen BK800.out 0
                  have hfz35_1 := blk_frozen BK800.out 1
                  have p28 : 0 ≤ ((ji25) : Int) := of_decide_eq_true (by first | (with_reducible assumption) | assumption)
                  have q28 : (ji25) < (a0.size : Int) := of_decide_eq_true (by first | (with_reducible assumption) | assumption)
                  have hx28 := bt_at a0 (ji25)
                  replace p28 := eq_true p28
                  replace q28 := eq_true q28
                  have p32 : 0 ≤ ((ji29) : Int) := of_decide_eq_true (by first | (with_reducible assumption) | assumption)
                  have q32 : (ji29) < (a0.size : Int) := of_decide_eq_true (by first | (with_reducible assumption) | assumption)
                  have hx32 := bt_at a0 (ji29)
                  replace p32 := eq_true p32
                  replace q32 := eq_true q32
                  go_wp2
                  repeat (go_quiet (fail); try go_wp2)
                  go_ret
                  exact ⟨by first | rfl | (simp [errW_none, errW_some] <;> rfl) | (simp only [← hji25, ← hji29]; first | rfl | (simp [errW_none, errW_some] <;> rfl)) | (simp [*, errW_none, errW_some] <;> rfl), by repeat (first | (with_reducible first | exact HB.out | apply below_alloc | apply pw_below_drewN | apply below_drew1 | refine below_set ?_ GE800.out) | exact HB.out)⟩
                ·rw [if_neg c31] at H
                 exact absurd H (by simp)
               ·rw [if_neg c30] at H
                exact absurd H (by simp)
              ·rw [if_neg c27] at H
               exact absurd H (by simp)
             ·rw [if_neg c26] at H
              exact absurd H (by simp)
            ·replace c24 := Bool.eq_false_iff.mpr c24
             subst c24
             have H1 : (numnahref09_Plan.l0 kj19 a0 l1 (wrap64 (x5_1 + ((rd_T63 l1 x6_1).f1))) (wrap64 (x6_1 + 1))) = some r := by rw [if_neg (show ¬ (false = true) by decide)] at H; exact H
             clear H
             have H := H1
             clear H1
             have H' := Aside0.mk H
             clear H
             have hcz36_0 : wc.cell? ⟨gb800, 0, none⟩ = some (.int .i64 ((rd_T63 l1 x6_1).f0)) := (blk_cell BK800.out 0).trans rfl
             have hcz36_1 : wc.cell? ⟨gb800, 1, none⟩ = some (.int .i64 ((rd_T63 l1 x6_1).f1)) := (blk_cell BK800.out 1).trans rfl
             have hfz36_0 := blk_frozen BK800.out 0
             have hfz36_1 := blk_frozen BK800.out 1
             go_wp2
             repeat (go_quiet (fail); try go_wp2)
             go_roundg kj19
             case measure => have := HK1.out; have := HJ4.out; have := HK3.out; have := HJ19.out; omega
             case rel => exact ⟨(wrap64 (x5_1 + ((rd_T63 l1 x6_1).f1))), (wrap64 (x6_1 + 1)), (by first | rfl | (simp; done) | (simp [*]; done)), (by first | rfl | (simp; done) | (simp [*]; done)), H', ⟨by have := HK1.out; have := HJ4.out; have := HK3.out; have := HJ19.out; omega⟩, ⟨by repeat (first | (with_reducible first | exact HB.out | apply below_alloc | apply pw_below_drewN | apply below_drew1 | refine below_set ?_ GE800.out) | exact HB.out)⟩⟩
    ·rw [if_neg c4] at H
     exact absurd H (by simp)
   ·rw [if_neg c3] at H
    have c3b0 : decide (x6_1 < (l1.length : Int)) = false := decide_eq_false c3
    clear c3
    obtain rfl := Option.some.inj H
    go_wp2
    repeat (go_quiet (fail); try go_wp2)
    go_ret
    exact ⟨by first | rfl | (simp [errW_none, errW_some] <;> rfl) | (simp [*, errW_none, errW_some] <;> rfl), by repeat (first | (with_reducible first | exact HB.out | apply below_alloc | apply pw_below_drewN | apply below_drew1) | exact HB.out)⟩

end Go.Proofs.YtpeeflkodpnbpaaDoor.Pr
-- indented by one
