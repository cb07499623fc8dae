-- Laid by wip/tools/inj.py of this project, which drives the kit's printer. Lean checks it.
import Derived.Test.YtpeeflkodpnbpaaDoorPr0
import Derived.Test.YtpeeflkodpnbpaaDoorPrA16
namespace Go.Proofs.YtpeeflkodpnbpaaDoor.Pr
open Go.RowKit Go.Proofs.YtpeeflkodpnbpaaDoorW.PrintWords Go.Proofs.YtpeeflkodpnbpaaDoorW.PrintLast Go.Proofs.YtpeeflkodpnbpaaDoorW.PrintMore
attribute [local go_sem] max2_int min2_int max_two min_two max_three min_three max_four min_four   -- for this text's walks alone
set_option linter.unusedVariables false
set_option linter.unusedSimpArgs false

/-! ### parse_isPlan: function 88 -/
mutual
def parse_isPlan.l0 : Nat → ByteArray → Int → List (S63) → Int → Int → Option (Bool)
 | 0, _, _, _, _, _ => none
 | k + 1, x0, x5, x12, x13, x14 => if x14 < x13 then (if 0 ≤ x14 then (if x14 < (x12.length : Int) then (if (wrap64 (x5 + ((rd_T63 x12 x14).f1))) > (x0.size : Int) then (some false) else (parse_isPlan.l1 k x0 x5 x12 x13 x14 ((rd_T63 x12 x14).f1) 0 ((rd_T63 x12 x14).f0) ((rd_T63 x12 x14).f1))) else (none)) else (none)) else (some (x5 == (x0.size : Int)))
def parse_isPlan.l1 : Nat → ByteArray → Int → List (S63) → Int → Int → Int → Int → Int → Int → Option (Bool)
 | 0, _, _, _, _, _, _, _, _, _ => none
 | k + 1, x0, x5, x12, x13, x14, x26, x27, x794000, x794001 => if x27 < x26 then (if x794000 ≥ 0 then (if 0 ≤ (wrap64 (x794000 + x27)) then (if (wrap64 (x794000 + x27)) < (x0.size : Int) then (if 0 ≤ (wrap64 (x5 + x27)) then (if (wrap64 (x5 + x27)) < (x0.size : Int) then (if (bt x0 (wrap64 (x794000 + x27))) = (bt x0 (wrap64 (x5 + x27))) then (parse_isPlan.l1 k x0 x5 x12 x13 x14 x26 (wrap64 (x27 + 1)) x794000 x794001) else (some false)) else (none)) else (none)) else (none)) else (none)) else (parse_isPlan.l1 k x0 x5 x12 x13 x14 x26 (wrap64 (x27 + 1)) x794000 x794001)) else (parse_isPlan.l0 k x0 (wrap64 (x5 + x794001)) x12 x13 (wrap64 (x14 + 1)))
end
def parse_isPlan.f (k : Nat) (a0 : ByteArray) (l1 : List (S63)) : Option (Bool) := (parse_areFactors.f k l1).bind fun t791 => (if t791 = true then (parse_isPlan.l0 k a0 0 l1 (l1.length : Int) 0) else (some false))
theorem parse_isPlan.mono_l : ∀ k, (∀ y0 y1 y2 y3 y4, LeO (parse_isPlan.l0 k y0 y1 y2 y3 y4) (parse_isPlan.l0 (k + 1) y0 y1 y2 y3 y4)) ∧ (∀ y0 y1 y2 y3 y4 y5 y6 y7 y8, LeO (parse_isPlan.l1 k y0 y1 y2 y3 y4 y5 y6 y7 y8) (parse_isPlan.l1 (k + 1) y0 y1 y2 y3 y4 y5 y6 y7 y8))
 | 0 => ⟨fun _ _ _ _ _ r h => by simp [parse_isPlan.l0] at h, fun _ _ _ _ _ _ _ _ _ r h => by simp [parse_isPlan.l1] at h⟩
 | k + 1 => by
  obtain ⟨ih0, ih1⟩ := parse_isPlan.mono_l k
  refine ⟨?_, ?_⟩
  ·intro y0 y1 y2 y3 y4
   unfold parse_isPlan.l0
   repeat' first
   | (with_reducible exact ih0 _ _ _ _ _)
   | (with_reducible exact ih1 _ _ _ _ _ _ _ _ _)
   | (with_reducible exact parse_areFactors.mono _ _)
   | (with_reducible exact LeO.refl _)
   | (with_reducible exact LeO.none _)
   | (with_reducible refine LeO.ite ?_ ?_)
   | (with_reducible refine LeO.bind ?_ (fun _ => ?_))
   | exact ih0 _ _ _ _ _
   | exact ih1 _ _ _ _ _ _ _ _ _
   | exact parse_areFactors.mono _ _
   | exact LeO.none _
   | refine LeO.ite ?_ ?_
   | refine LeO.bind ?_ (fun _ => ?_)
  ·intro y0 y1 y2 y3 y4 y5 y6 y7 y8
   unfold parse_isPlan.l1
   repeat' first
   | (with_reducible exact ih0 _ _ _ _ _)
   | (with_reducible exact ih1 _ _ _ _ _ _ _ _ _)
   | (with_reducible exact parse_areFactors.mono _ _)
   | (with_reducible exact LeO.refl _)
   | (with_reducible exact LeO.none _)
   | (with_reducible refine LeO.ite ?_ ?_)
   | (with_reducible refine LeO.bind ?_ (fun _ => ?_))
   | exact ih0 _ _ _ _ _
   | exact ih1 _ _ _ _ _ _ _ _ _
   | exact parse_areFactors.mono _ _
   | exact LeO.none _
   | refine LeO.ite ?_ ?_
   | refine LeO.bind ?_ (fun _ => ?_)
theorem parse_isPlan.mono : ∀ a0 a1 k, LeO (parse_isPlan.f k a0 a1) (parse_isPlan.f (k + 1) a0 a1) := by
 intro a0 a1 k
 obtain ⟨ih0, ih1⟩ := parse_isPlan.mono_l k
 unfold parse_isPlan.f
 repeat' first
   | (with_reducible exact ih0 _ _ _ _ _)
   | (with_reducible exact ih1 _ _ _ _ _ _ _ _ _)
   | (with_reducible exact parse_areFactors.mono _ _)
   | (with_reducible exact LeO.refl _)
   | (with_reducible exact LeO.none _)
   | (with_reducible refine LeO.ite ?_ ?_)
   | (with_reducible refine LeO.bind ?_ (fun _ => ?_))
   | exact ih0 _ _ _ _ _
   | exact ih1 _ _ _ _ _ _ _ _ _
   | exact parse_areFactors.mono _ _
   | exact LeO.none _
   | refine LeO.ite ?_ ?_
   | refine LeO.bind ?_ (fun _ => ?_)
set_option maxHeartbeats 8000000 in
set_option maxRecDepth 100000 in
theorem parse_isPlan.calls (k : Nat) (a0 : ByteArray) (A1 : Option Addr) (c1 : Nat) (l1 : List (S63)) (r : Bool) (w : World) (hr1 : Kd.C k63 w A1 l1.length l1) (hc1 : l1.length ≤ c1) (h : parse_isPlan.f k a0 l1 = some r) :
  Calls Tryd.prog 88 #[.string a0, .slice A1 l1.length c1] w fun e w' => e = .returned (.bool r) ∧ Below w.heap.size w w' := by
 have hu63 := Tryd.underlying63
 have HR1 := Aside0.mk hr1
 have HC1 := Aside0.mk hc1
 clear hr1 hc1
 have HB := Aside0.mk (Below.refl w.heap.size w)
 have H : ((parse_areFactors.f k l1).bind fun t791 => (if t791 = true then (parse_isPlan.l0 k a0 0 l1 (l1.length : Int) 0) else (some false))) = some r := h
 clear h
 replace H := Option.bind_eq_some_iff.mp H
 obtain ⟨t791, A30, H⟩ := H
 replace H : (if t791 = true then (parse_isPlan.l0 k a0 0 l1 (l1.length : Int) 0) else (some false)) = some r := H
 have A3 := Aside0.mk A30
 clear A30
 by_cases c4 : t791 = true
 ·subst c4
  have H1 : (parse_isPlan.l0 k a0 0 l1 (l1.length : Int) 0) = some r := by rw [if_pos rfl] at H; exact H
  clear H
  have H := H1
  clear H1
  have H' := Aside0.mk H
  clear H
  go_enter Tryd.func88, Tryd.ntmps88
  go_wp2_with (first | (go_at_call 84; (with_reducible refine (parse_areFactors.calls k _ _ l1 true _ ?side1 ?side2 A3.out).mono ?_); (case side1 => repeat (first | exact HR1.out | (with_reducible refine Kd.C_alloc ?_ _) | (with_reducible refine Kd.C_drewN ?_ _) | (with_reducible refine Kd.C_drew ?_))); (case side2 => exact HC1.out); rintro e w5 ⟨rfl, hb⟩; have n0_ := Aside0.mk (below_step (by repeat (first | (with_reducible first | exact HB.out | apply below_alloc | apply pw_below_drewN | apply below_drew1) | exact HB.out)) hb); clear HB; have HB := n0_; clear n0_; (try clear hb); (try clear hb2); (try clear hk); (try clear hi)))
  repeat (go_quiet (first | (go_at_call 84; (with_reducible refine (parse_areFactors.calls k _ _ l1 true _ ?side1 ?side2 A3.out).mono ?_); (case side1 => repeat (first | exact HR1.out | (with_reducible refine Kd.C_alloc ?_ _) | (with_reducible refine Kd.C_drewN ?_ _) | (with_reducible refine Kd.C_drew ?_))); (case side2 => exact HC1.out); rintro e w5 ⟨rfl, hb⟩; have n0_ := Aside0.mk (below_step (by repeat (first | (with_reducible first | exact HB.out | apply below_alloc | apply pw_below_drewN | apply below_drew1) | exact HB.out)) hb); clear HB; have HB := n0_; clear n0_; (try clear hb); (try clear hb2); (try clear hk); (try clear hi))); try go_wp2_with (first | (go_at_call 84; (with_reducible refine (parse_areFactors.calls k _ _ l1 true _ ?side1 ?side2 A3.out).mono ?_); (case side1 => repeat (first | exact HR1.out | (with_reducible refine Kd.C_alloc ?_ _) | (with_reducible refine Kd.C_drewN ?_ _) | (with_reducible refine Kd.C_drew ?_))); (case side2 => exact HC1.out); rintro e w5 ⟨rfl, hb⟩; have n0_ := Aside0.mk (below_step (by repeat (first | (with_reducible first | exact HB.out | apply below_alloc | apply pw_below_drewN | apply below_drew1) | exact HB.out)) hb); clear HB; have HB := n0_; clear n0_; (try clear hb); (try clear hb2); (try clear hk); (try clear hi))))
  go_loopg [5, 14] k (fun kq v5 v14 w' => ∃ (x5_1 : Int) (x14_1 : Int), v5 = .int .i64 x5_1 ∧ v14 = .int .i64 x14_1 ∧ Aside0 (parse_isPlan.l0 kq a0 x5_1 l1 (l1.length : Int) x14_1 = some r) ∧ Aside0 (kq ≤ k) ∧ Aside0 (Below w.heap.size w w'))
  case atStart => exact ⟨(0), (0), (by first | rfl | (simp; done) | (simp [*]; done)), (by first | rfl | (simp; done) | (simp [*]; done)), H', ⟨Nat.le_refl _⟩, ⟨by repeat (first | (with_reducible first | exact HB.out | apply below_alloc | apply pw_below_drewN | apply below_drew1) | exact HB.out)⟩⟩
  case round =>
   clear H'
   try clear c1
   try clear p2
   try clear c4
   obtain ⟨x5_1, x14_1, rfl, rfl, HA, HK1, HB⟩ := hrel
   cases gk with
   | zero => exact absurd HA.out (by simp [parse_isPlan.l0])
   | succ k1 =>
    have H := HA.out
    clear HA
    simp only [parse_isPlan.l0] at H
    by_cases c6 : x14_1 < (l1.length : Int)
    ·rw [if_pos c6] at H
     have c6b0 : decide (x14_1 < (l1.length : Int)) = true := decide_eq_true c6
     clear c6
     by_cases c7 : 0 ≤ x14_1
     ·rw [if_pos c7] at H
      have c7b0 : decide (0 ≤ x14_1) = true := decide_eq_true c7
      clear c7
      by_cases c8 : x14_1 < (l1.length : Int)
      ·rw [if_pos c8] at H
       have c8b0 : decide (x14_1 < (l1.length : Int)) = true := decide_eq_true c8
       clear c8
       by_cases c9 : (wrap64 (x5_1 + ((rd_T63 l1 x14_1).f1))) > (a0.size : Int)
       ·rw [if_pos c9] at H
        have c9b0 : decide ((a0.size : Int) < (wrap64 (x5_1 + ((rd_T63 l1 x14_1).f1)))) = true := decide_eq_true c9
        clear c9
        obtain rfl := Option.some.inj H
        have p792 : 0 ≤ (x14_1 : Int) := of_decide_eq_true (by first | (with_reducible assumption) | assumption)
        have q792 : x14_1 < (l1.length : Int) := of_decide_eq_true (by first | (with_reducible assumption) | assumption)
        obtain ⟨ad792, e792, hx792_0, hx792_1⟩ := at_T63 HR1.out x14_1 p792 q792
        cases e792
        replace hx792_0 := (HB.out.cell (World.block_lt_of_cell? w _ hx792_0)).trans hx792_0
        replace hx792_1 := (HB.out.cell (World.block_lt_of_cell? w _ hx792_1)).trans hx792_1
        replace p792 := eq_true p792
        replace q792 := eq_true q792
        go_wp2_with (first | ((with_reducible refine gate_dst (N := 7) rfl ?_); refine box_event ?hg (N := 7) ?hd (cs := #[.int .i64 0, .int .i64 0]) (t := 63) ?hr ?_; (case hd => rfl); (case hg => rfl); (case hr => first | (go_simp; done) | (go_simp; rfl)); intro gb793 hg w10 hbox hb; have n0_ := Aside0.mk (below_step (by repeat (first | (with_reducible first | exact HB.out | apply below_alloc | apply pw_below_drewN | apply below_drew1) | exact HB.out)) hb); have n1_ := Aside0.mk (hbox); have n2_ := Aside0.mk ((by rw [hg]; exact (below_size (by repeat (first | (with_reducible first | exact HB.out | apply below_alloc | apply pw_below_drewN | apply below_drew1) | exact HB.out))) : w.heap.size ≤ gb793)); have n3_ := Aside0.mk ((by rw [hg]; exact (below_size (by repeat (first | (with_reducible first | exact HB.out | apply below_alloc | apply pw_below_drewN | apply below_drew1) | exact HB.out))) : w.heap.size ≤ gb793)); clear HB; have HB := n0_; have BK793 := n1_; have GW793 := n2_; have GE793 := n3_; clear n0_ n1_ n2_ n3_; clear hb hbox hg; have hcz11_0 : w10.cell? ⟨gb793, 0, none⟩ = some (.int .i64 0) := (blk_cell BK793.out 0).trans rfl; have hcz11_1 : w10.cell? ⟨gb793, 1, none⟩ = some (.int .i64 0) := (blk_cell BK793.out 1).trans rfl; have hfz11_0 := blk_frozen BK793.out 0; have hfz11_1 := blk_frozen BK793.out 1))
        repeat (go_quiet (first | ((with_reducible refine gate_dst (N := 7) rfl ?_); refine box_event ?hg (N := 7) ?hd (cs := #[.int .i64 0, .int .i64 0]) (t := 63) ?hr ?_; (case hd => rfl); (case hg => rfl); (case hr => first | (go_simp; done) | (go_simp; rfl)); intro gb793 hg w10 hbox hb; have n0_ := Aside0.mk (below_step (by repeat (first | (with_reducible first | exact HB.out | apply below_alloc | apply pw_below_drewN | apply below_drew1) | exact HB.out)) hb); have n1_ := Aside0.mk (hbox); have n2_ := Aside0.mk ((by rw [hg]; exact (below_size (by repeat (first | (with_reducible first | exact HB.out | apply below_alloc | apply pw_below_drewN | apply below_drew1) | exact HB.out))) : w.heap.size ≤ gb793)); have n3_ := Aside0.mk ((by rw [hg]; exact (below_size (by repeat (first | (with_reducible first | exact HB.out | apply below_alloc | apply pw_below_drewN | apply below_drew1) | exact HB.out))) : w.heap.size ≤ gb793)); clear HB; have HB := n0_; have BK793 := n1_; have GW793 := n2_; have GE793 := n3_; clear n0_ n1_ n2_ n3_; clear hb hbox hg; have hcz11_0 : w10.cell? ⟨gb793, 0, none⟩ = some (.int .i64 0) := (blk_cell BK793.out 0).trans rfl; have hcz11_1 : w10.cell? ⟨gb793, 1, none⟩ = some (.int .i64 0) := (blk_cell BK793.out 1).trans rfl; have hfz11_0 := blk_frozen BK793.out 0; have hfz11_1 := blk_frozen BK793.out 1)); try go_wp2_with (first | ((with_reducible refine gate_dst (N := 7) rfl ?_); refine box_event ?hg (N := 7) ?hd (cs := #[.int .i64 0, .int .i64 0]) (t := 63) ?hr ?_; (case hd => rfl); (case hg => rfl); (case hr => first | (go_simp; done) | (go_simp; rfl)); intro gb793 hg w10 hbox hb; have n0_ := Aside0.mk (below_step (by repeat (first | (with_reducible first | exact HB.out | apply below_alloc | apply pw_below_drewN | apply below_drew1) | exact HB.out)) hb); have n1_ := Aside0.mk (hbox); have n2_ := Aside0.mk ((by rw [hg]; exact (below_size (by repeat (first | (with_reducible first | exact HB.out | apply below_alloc | apply pw_below_drewN | apply below_drew1) | exact HB.out))) : w.heap.size ≤ gb793)); have n3_ := Aside0.mk ((by rw [hg]; exact (below_size (by repeat (first | (with_reducible first | exact HB.out | apply below_alloc | apply pw_below_drewN | apply below_drew1) | exact HB.out))) : w.heap.size ≤ gb793)); clear HB; have HB := n0_; have BK793 := n1_; have GW793 := n2_; have GE793 := n3_; clear n0_ n1_ n2_ n3_; clear hb hbox hg; have hcz11_0 : w10.cell? ⟨gb793, 0, none⟩ = some (.int .i64 0) := (blk_cell BK793.out 0).trans rfl; have hcz11_1 : w10.cell? ⟨gb793, 1, none⟩ = some (.int .i64 0) := (blk_cell BK793.out 1).trans rfl; have hfz11_0 := blk_frozen BK793.out 0; have hfz11_1 := blk_frozen BK793.out 1)))
        go_ret
        exact ⟨by first | rfl | (simp [errW_none, errW_some] <;> rfl) | (simp [*, errW_none, errW_some] <;> rfl), by repeat (first | (with_reducible first | exact HB.out | apply below_alloc | apply pw_below_drewN | apply below_drew1 | refine below_set ?_ GE793.out) | exact HB.out)⟩
       ·rw [if_neg c9] at H
        have c9b0 : decide ((a0.size : Int) < (wrap64 (x5_1 + ((rd_T63 l1 x14_1).f1)))) = false := decide_eq_false c9
        clear c9
        have H' := Aside0.mk H
        clear H
        have p792 : 0 ≤ (x14_1 : Int) := of_decide_eq_true (by first | (with_reducible assumption) | assumption)
        have q792 : x14_1 < (l1.length : Int) := of_decide_eq_true (by first | (with_reducible assumption) | assumption)
        obtain ⟨ad792, e792, hx792_0, hx792_1⟩ := at_T63 HR1.out x14_1 p792 q792
        cases e792
        replace hx792_0 := (HB.out.cell (World.block_lt_of_cell? w _ hx792_0)).trans hx792_0
        replace hx792_1 := (HB.out.cell (World.block_lt_of_cell? w _ hx792_1)).trans hx792_1
        replace p792 := eq_true p792
        replace q792 := eq_true q792
        go_wp2_with (first | ((with_reducible refine gate_dst (N := 7) rfl ?_); refine box_event ?hg (N := 7) ?hd (cs := #[.int .i64 0, .int .i64 0]) (t := 63) ?hr ?_; (case hd => rfl); (case hg => rfl); (case hr => first | (go_simp; done) | (go_simp; rfl)); intro gb793 hg w12 hbox hb; have n0_ := Aside0.mk (below_step (by repeat (first | (with_reducible first | exact HB.out | apply below_alloc | apply pw_below_drewN | apply below_drew1) | exact HB.out)) hb); have n1_ := Aside0.mk (hbox); have n2_ := Aside0.mk ((by rw [hg]; exact (below_size (by repeat (first | (with_reducible first | exact HB.out | apply below_alloc | apply pw_below_drewN | apply below_drew1) | exact HB.out))) : w.heap.size ≤ gb793)); have n3_ := Aside0.mk ((by rw [hg]; exact (below_size (by repeat (first | (with_reducible first | exact HB.out | apply below_alloc | apply pw_below_drewN | apply below_drew1) | exact HB.out))) : w.heap.size ≤ gb793)); clear HB; have HB := n0_; have BK793 := n1_; have GW793 := n2_; have GE793 := n3_; clear n0_ n1_ n2_ n3_; clear hb hbox hg; have hcz13_0 : w12.cell? ⟨gb793, 0, none⟩ = some (.int .i64 0) := (blk_cell BK793.out 0).trans rfl; have hcz13_1 : w12.cell? ⟨gb793, 1, none⟩ = some (.int .i64 0) := (blk_cell BK793.out 1).trans rfl; have hfz13_0 := blk_frozen BK793.out 0; have hfz13_1 := blk_frozen BK793.out 1))
        repeat (go_quiet (first | ((with_reducible refine gate_dst (N := 7) rfl ?_); refine box_event ?hg (N := 7) ?hd (cs := #[.int .i64 0, .int .i64 0]) (t := 63) ?hr ?_; (case hd => rfl); (case hg => rfl); (case hr => first | (go_simp; done) | (go_simp; rfl)); intro gb793 hg w12 hbox hb; have n0_ := Aside0.mk (below_step (by repeat (first | (with_reducible first | exact HB.out | apply below_alloc | apply pw_below_drewN | apply below_drew1) | exact HB.out)) hb); have n1_ := Aside0.mk (hbox); have n2_ := Aside0.mk ((by rw [hg]; exact (below_size (by repeat (first | (with_reducible first | exact HB.out | apply below_alloc | apply pw_below_drewN | apply below_drew1) | exact HB.out))) : w.heap.size ≤ gb793)); have n3_ := Aside0.mk ((by rw [hg]; exact (below_size (by repeat (first | (with_reducible first | exact HB.out | apply below_alloc | apply pw_below_drewN | apply below_drew1) | exact HB.out))) : w.heap.size ≤ gb793)); clear HB; have HB := n0_; have BK793 := n1_; have GW793 := n2_; have GE793 := n3_; clear n0_ n1_ n2_ n3_; clear hb hbox hg; have hcz13_0 : w12.cell? ⟨gb793, 0, none⟩ = some (.int .i64 0) := (blk_cell BK793.out 0).trans rfl; have hcz13_1 : w12.cell? ⟨gb793, 1, none⟩ = some (.int .i64 0) := (blk_cell BK793.out 1).trans rfl; have hfz13_0 := blk_frozen BK793.out 0; have hfz13_1 := blk_frozen BK793.out 1)); try go_wp2_with (first | ((with_reducible refine gate_dst (N := 7) rfl ?_); refine box_event ?hg (N := 7) ?hd (cs := #[.int .i64 0, .int .i64 0]) (t := 63) ?hr ?_; (case hd => rfl); (case hg => rfl); (case hr => first | (go_simp; done) | (go_simp; rfl)); intro gb793 hg w12 hbox hb; have n0_ := Aside0.mk (below_step (by repeat (first | (with_reducible first | exact HB.out | apply below_alloc | apply pw_below_drewN | apply below_drew1) | exact HB.out)) hb); have n1_ := Aside0.mk (hbox); have n2_ := Aside0.mk ((by rw [hg]; exact (below_size (by repeat (first | (with_reducible first | exact HB.out | apply below_alloc | apply pw_below_drewN | apply below_drew1) | exact HB.out))) : w.heap.size ≤ gb793)); have n3_ := Aside0.mk ((by rw [hg]; exact (below_size (by repeat (first | (with_reducible first | exact HB.out | apply below_alloc | apply pw_below_drewN | apply below_drew1) | exact HB.out))) : w.heap.size ≤ gb793)); clear HB; have HB := n0_; have BK793 := n1_; have GW793 := n2_; have GE793 := n3_; clear n0_ n1_ n2_ n3_; clear hb hbox hg; have hcz13_0 : w12.cell? ⟨gb793, 0, none⟩ = some (.int .i64 0) := (blk_cell BK793.out 0).trans rfl; have hcz13_1 : w12.cell? ⟨gb793, 1, none⟩ = some (.int .i64 0) := (blk_cell BK793.out 1).trans rfl; have hfz13_0 := blk_frozen BK793.out 0; have hfz13_1 := blk_frozen BK793.out 1)))
        go_loopg [27] k1 (fun kq v27 w' => ∃ (x27_2 : Int), v27 = .int .i64 x27_2 ∧ Aside0 (parse_isPlan.l1 kq a0 x5_1 l1 (l1.length : Int) x14_1 ((rd_T63 l1 x14_1).f1) x27_2 ((rd_T63 l1 x14_1).f0) ((rd_T63 l1 x14_1).f1) = some r) ∧ Aside0 (kq ≤ k1) ∧ Aside0 (w'.heap[gb793]? = some (.cells #[.int .i64 ((rd_T63 l1 x14_1).f0), .int .i64 ((rd_T63 l1 x14_1).f1)] 63 (0, 0))) ∧ Aside0 (Below w.heap.size w w'))
        case atStart => exact ⟨(0), (by first | rfl | (simp; done) | (simp [*]; done)), H', ⟨Nat.le_refl _⟩, ⟨by (with_reducible repeat (first | refine blk_drewN ?_ _ | refine blk_drew ?_ | refine blk_alloc ?_ _)); refine blk_put (cs := #[.int .i64 ((rd_T63 l1 x14_1).f0), .int .i64 0]) ?_ 1 _ rfl; (with_reducible repeat (first | refine blk_drewN ?_ _ | refine blk_drew ?_ | refine blk_alloc ?_ _)); refine blk_put (cs := #[.int .i64 0, .int .i64 0]) ?_ 0 _ rfl; (with_reducible repeat (first | refine blk_drewN ?_ _ | refine blk_drew ?_ | refine blk_alloc ?_ _)); exact BK793.out⟩, ⟨by repeat (first | (with_reducible first | exact HB.out | apply below_alloc | apply pw_below_drewN | apply below_drew1 | refine below_set ?_ GE793.out) | exact HB.out)⟩⟩
        case round =>
         clear H'
         try clear c1
         try clear p2
         try clear c4
         try clear c6
         try clear c6b0
         try clear p6
         try clear c7
         try clear c7b0
         try clear p7
         try clear q7
         try clear hx7
         try clear c8
         try clear c8b0
         try clear c9
         try clear c9b0
         try clear hcz11_0
         try clear hcz11_1
         try clear hcz13_0
         try clear hcz13_1
         try clear hfz11_0
         try clear hfz11_1
         try clear hfz13_0
         try clear hfz13_1
         try clear hx792_0
         try clear hx792_1
         try clear p2
         try clear p792
         try clear q792
         obtain ⟨x27_2, rfl, HA, HK2, BK793, HB⟩ := hrel
         cases gk with
         | zero => exact absurd HA.out (by simp [parse_isPlan.l1])
         | succ k2 =>
          have H := HA.out
          clear HA
          simp only [parse_isPlan.l1] at H
          by_cases c14 : x27_2 < ((rd_T63 l1 x14_1).f1)
          ·rw [if_pos c14] at H
           have c14b0 : decide (x27_2 < ((rd_T63 l1 x14_1).f1)) = true := decide_eq_true c14
           clear c14
           by_cases c15 : ((rd_T63 l1 x14_1).f0) ≥ 0
           ·rw [if_pos c15] at H
            have c15b0 : decide (0 ≤ ((rd_T63 l1 x14_1).f0)) = true := decide_eq_true c15
            clear c15
            obtain ⟨ji16, hji16⟩ : ∃ j_ : Int, (wrap64 (((rd_T63 l1 x14_1).f0) + x27_2)) = j_ := ⟨_, rfl⟩
            replace H : (if 0 ≤ (ji16) then (if (ji16) < (a0.size : Int) then (if 0 ≤ (wrap64 (x5_1 + x27_2)) then (if (wrap64 (x5_1 + x27_2)) < (a0.size : Int) then (if (bt a0 (ji16)) = (bt a0 (wrap64 (x5_1 + x27_2))) then (parse_isPlan.l1 k2 a0 x5_1 l1 (l1.length : Int) x14_1 ((rd_T63 l1 x14_1).f1) (wrap64 (x27_2 + 1)) ((rd_T63 l1 x14_1).f0) ((rd_T63 l1 x14_1).f1)) else (some false)) else (none)) else (none)) else (none)) else (none)) = some r := by first | (rw [hji16] at H; exact H) | (simp only [hji16] at H ⊢; exact H)
            have hji16w : (IntKind.i64.wrap (((rd_T63 l1 x14_1).f0) + x27_2)) = ji16 := (i64_w _).trans hji16
            by_cases c17 : 0 ≤ (ji16)
            ·rw [if_pos c17] at H
             have c17b0 : decide (0 ≤ (ji16)) = true := decide_eq_true c17
             clear c17
             by_cases c18 : (ji16) < (a0.size : Int)
             ·rw [if_pos c18] at H
              have c18b0 : decide ((ji16) < (a0.size : Int)) = true := decide_eq_true c18
              clear c18
              obtain ⟨ji20, hji20⟩ : ∃ j_ : Int, (wrap64 (x5_1 + x27_2)) = j_ := ⟨_, rfl⟩
              replace H : (if 0 ≤ (ji20) then (if (ji20) < (a0.size : Int) then (if (bt a0 (ji16)) = (bt a0 (ji20)) then (parse_isPlan.l1 k2 a0 x5_1 l1 (l1.length : Int) x14_1 ((rd_T63 l1 x14_1).f1) (wrap64 (x27_2 + 1)) ((rd_T63 l1 x14_1).f0) ((rd_T63 l1 x14_1).f1)) else (some false)) else (none)) else (none)) = some r := by first | (rw [hji20] at H; exact H) | (simp only [hji20] at H ⊢; exact H)
              have hji20w : (IntKind.i64.wrap (x5_1 + x27_2)) = ji20 := (i64_w _).trans hji20
              by_cases c21 : 0 ≤ (ji20)
              ·rw [if_pos c21] at H
               have c21b0 : decide (0 ≤ (ji20)) = true := decide_eq_true c21
               clear c21
               by_cases c22 : (ji20) < (a0.size : Int)
               ·rw [if_pos c22] at H
                have c22b0 : decide ((ji20) < (a0.size : Int)) = true := decide_eq_true c22
                clear c22
                by_cases c24 : (bt a0 (ji16)) = (bt a0 (ji20))
                ·rw [if_pos c24] at H
                 have c24b0 : ((bt a0 (ji16)) == (bt a0 (ji20))) = true := beq_iff_eq.mpr c24
                 have c24b1 : ((bt a0 (ji16)) != (bt a0 (ji20))) = false := bne_eq_false_iff_eq.mpr c24
                 clear c24
                 have H' := Aside0.mk H
                 clear H
                 have hcz25_0 : wr.cell? ⟨gb793, 0, none⟩ = some (.int .i64 ((rd_T63 l1 x14_1).f0)) := (blk_cell BK793.out 0).trans rfl
                 have hcz25_1 : wr.cell? ⟨gb793, 1, none⟩ = some (.int .i64 ((rd_T63 l1 x14_1).f1)) := (blk_cell BK793.out 1).trans rfl
                 have hfz25_0 := blk_frozen BK793.out 0
                 have hfz25_1 := blk_frozen BK793.out 1
                 have p19 : 0 ≤ ((ji16) : Int) := of_decide_eq_true (by first | (with_reducible assumption) | assumption)
                 have q19 : (ji16) < (a0.size : Int) := of_decide_eq_true (by first | (with_reducible assumption) | assumption)
                 have hx19 := bt_at a0 (ji16)
                 replace p19 := eq_true p19
                 replace q19 := eq_true q19
                 have p23 : 0 ≤ ((ji20) : Int) := of_decide_eq_true (by first | (with_reducible assumption) | assumption)
                 have q23 : (ji20) < (a0.size : Int) := of_decide_eq_true (by first | (with_reducible assumption) | assumption)
                 have hx23 := bt_at a0 (ji20)
                 replace p23 := eq_true p23
                 replace q23 := eq_true q23
                 go_wp2
                 repeat (go_quiet (fail); try go_wp2)
                 go_roundg k2
                 case measure => have := HK1.out; have := HK2.out; omega
                 case rel => exact ⟨(wrap64 (x27_2 + 1)), (by first | rfl | (simp; done) | (simp [*]; done)), H', ⟨by have := HK1.out; have := HK2.out; omega⟩, ⟨by (with_reducible repeat (first | refine blk_drewN ?_ _ | refine blk_drew ?_ | refine blk_alloc ?_ _)); exact BK793.out⟩, ⟨by repeat (first | (with_reducible first | exact HB.out | apply below_alloc | apply pw_below_drewN | apply below_drew1 | refine below_set ?_ GE793.out) | exact HB.out)⟩⟩
                ·rw [if_neg c24] at H
                 have c24b0 : ((bt a0 (ji16)) == (bt a0 (ji20))) = false := beq_eq_false_iff_ne.mpr c24
                 have c24b1 : ((bt a0 (ji16)) != (bt a0 (ji20))) = true := bne_iff_ne.mpr c24
                 obtain rfl := Option.some.inj H
                 have hcz26_0 : wr.cell? ⟨gb793, 0, none⟩ = some (.int .i64 ((rd_T63 l1 x14_1).f0)) := (blk_cell BK793.out 0).trans rfl
                 have hcz26_1 : wr.cell? ⟨gb793, 1, none⟩ = some (.int .i64 ((rd_T63 l1 x14_1).f1)) := (blk_cell BK793.out 1).trans rfl
                 have hfz26_0 := blk_frozen BK793.out 0
                 have hfz26_1 := blk_frozen BK793.out 1
                 have p19 : 0 ≤ ((ji16) : Int) := of_decide_eq_true (by first | (with_reducible assumption) | assumption)
                 have q19 : (ji16) < (a0.size : Int) := of_decide_eq_true (by first | (with_reducible assumption) | assumption)
                 have hx19 := bt_at a0 (ji16)
                 replace p19 := eq_true p19
                 replace q19 := eq_true q19
                 have p23 : 0 ≤ ((ji20) : Int) := of_decide_eq_true (by first | (with_reducible assumption) | assumption)
                 have q23 : (ji20) < (a0.size : Int) := of_decide_eq_true (by first | (with_reducible assumption) | assumption)
                 have hx23 := bt_at a0 (ji20)
                 replace p23 := eq_true p23
                 replace q23 := eq_true q23
                 go_wp2
                 repeat (go_quiet (fail); try go_wp2)
                 go_ret
                 exact ⟨by first | rfl | (simp [errW_none, errW_some] <;> rfl) | (simp only [← hji16, ← hji20]; first | rfl | (simp [errW_none, errW_some] <;> rfl)) | (simp [*, errW_none, errW_some] <;> rfl), by repeat (first | (with_reducible first | exact HB.out | apply below_alloc | apply pw_below_drewN | apply below_drew1 | refine below_set ?_ GE793.out) | exact HB.out)⟩
               ·rw [if_neg c22] at H
                exact absurd H (by simp)
              ·rw [if_neg c21] at H
               exact absurd H (by simp)
             ·rw [if_neg c18] at H
              exact absurd H (by simp)
            ·rw [if_neg c17] at H
             exact absurd H (by simp)
           ·rw [if_neg c15] at H
            have c15b0 : decide (0 ≤ ((rd_T63 l1 x14_1).f0)) = false := decide_eq_false c15
            clear c15
            have H' := Aside0.mk H
            clear H
            have hcz27_0 : wr.cell? ⟨gb793, 0, none⟩ = some (.int .i64 ((rd_T63 l1 x14_1).f0)) := (blk_cell BK793.out 0).trans rfl
            have hcz27_1 : wr.cell? ⟨gb793, 1, none⟩ = some (.int .i64 ((rd_T63 l1 x14_1).f1)) := (blk_cell BK793.out 1).trans rfl
            have hfz27_0 := blk_frozen BK793.out 0
            have hfz27_1 := blk_frozen BK793.out 1
            go_wp2
            repeat (go_quiet (fail); try go_wp2)
            go_roundg k2
            case measure => have := HK1.out; have := HK2.out; omega
            case rel => exact ⟨(wrap64 (x27_2 + 1)), (by first | rfl | (simp; done) | (simp [*]; done)), H', ⟨by have := HK1.out; have := HK2.out; omega⟩, ⟨by (with_reducible repeat (first | refine blk_drewN ?_ _ | refine blk_drew ?_ | refine blk_alloc ?_ _)); exact BK793.out⟩, ⟨by repeat (first | (with_reducible first | exact HB.out | apply below_alloc | apply pw_below_drewN | apply below_drew1 | refine below_set ?_ GE793.out) | exact HB.out)⟩⟩
          ·rw [if_neg c14] at H
           have c14b0 : decide (x27_2 < ((rd_T63 l1 x14_1).f1)) = false := decide_eq_false c14
           clear c14
           have H' := Aside0.mk H
           clear H
           have hcz28_0 : wr.cell? ⟨gb793, 0, none⟩ = some (.int .i64 ((rd_T63 l1 x14_1).f0)) := (blk_cell BK793.out 0).trans rfl
           have hcz28_1 : wr.cell? ⟨gb793, 1, none⟩ = some (.int .i64 ((rd_T63 l1 x14_1).f1)) := (blk_cell BK793.out 1).trans rfl
           have hfz28_0 := blk_frozen BK793.out 0
           have hfz28_1 := blk_frozen BK793.out 1
           go_wp2
           repeat (go_quiet (fail); try go_wp2)
           go_roundg k2
           case measure => have := HK1.out; have := HK2.out; omega
           case rel => exact ⟨(wrap64 (x5_1 + ((rd_T63 l1 x14_1).f1))), (wrap64 (x14_1 + 1)), (by first | rfl | (simp; done) | (simp [*]; done)), (by first | rfl | (simp; done) | (simp [*]; done)), H', ⟨by have := HK1.out; have := HK2.out; omega⟩, ⟨by repeat (first | (with_reducible first | exact HB.out | apply below_alloc | apply pw_below_drewN | apply below_drew1 | refine below_set ?_ GE793.out) | exact HB.out)⟩⟩
      ·rw [if_neg c8] at H
       exact absurd H (by simp)
     ·rw [if_neg c7] at H
      exact absurd H (by simp)
    ·rw [if_neg c6] at H
     have c6b0 : decide (x14_1 < (l1.length : Int)) = false := decide_eq_false c6
     clear c6
     obtain rfl := Option.some.inj H
     go_wp2
     repeat (go_quiet (fail); try go_wp2)
     go_ret
     exact ⟨by first | rfl | (simp [errW_none, errW_some] <;> rfl) | (simp [*, errW_none, errW_some] <;> rfl), by repeat (first | (with_reducible first | exact HB.out | apply below_alloc | apply pw_below_drewN | apply below_drew1) | exact HB.out)⟩
 ·replace c4 := Bool.eq_false_iff.mpr c4
  subst c4
  have H1 : (some false) = some r := by rw [if_neg (show ¬ (false = true) by decide)] at H; exact H
  clear H
  have H := H1
  clear H1
  obtain rfl := Option.some.inj H
  go_enter Tryd.func88, Tryd.ntmps88
  go_wp2_with (first | (go_at_call 84; (with_reducible refine (parse_areFactors.calls k _ _ l1 false _ ?side1 ?side2 A3.out).mono ?_); (case side1 => repeat (first | exact HR1.out | (with_reducible refine Kd.C_alloc ?_ _) | (with_reducible refine Kd.C_drewN ?_ _) | (with_reducible refine Kd.C_drew ?_))); (case side2 => exact HC1.out); rintro e w29 ⟨rfl, hb⟩; have n0_ := Aside0.mk (below_step (by repeat (first | (with_reducible first | exact HB.out | apply below_alloc | apply pw_below_drewN | apply below_drew1) | exact HB.out)) hb); clear HB; have HB := n0_; clear n0_; (try clear hb); (try clear hb2); (try clear hk); (try clear hi)))
  repeat (go_quiet (first | (go_at_call 84; (with_reducible refine (parse_areFactors.calls k _ _ l1 false _ ?side1 ?side2 A3.out).mono ?_); (case side1 => repeat (first | exact HR1.out | (with_reducible refine Kd.C_alloc ?_ _) | (with_reducible refine Kd.C_drewN ?_ _) | (with_reducible refine Kd.C_drew ?_))); (case side2 => exact HC1.out); rintro e w29 ⟨rfl, hb⟩; have n0_ := Aside0.mk (below_step (by repeat (first | (with_reducible first | exact HB.out | apply below_alloc | apply pw_below_drewN | apply below_drew1) | exact HB.out)) hb); clear HB; have HB := n0_; clear n0_; (try clear hb); (try clear hb2); (try clear hk); (try clear hi))); try go_wp2_with (first | (go_at_call 84; (with_reducible refine (parse_areFactors.calls k _ _ l1 false _ ?side1 ?side2 A3.out).mono ?_); (case side1 => repeat (first | exact HR1.out | (with_reducible refine Kd.C_alloc ?_ _) | (with_reducible refine Kd.C_drewN ?_ _) | (with_reducible refine Kd.C_drew ?_))); (case side2 => exact HC1.out); rintro e w29 ⟨rfl, hb⟩; have n0_ := Aside0.mk (below_step (by repeat (first | (with_reducible first | exact HB.out | apply below_alloc | apply pw_below_drewN | apply below_drew1) | exact HB.out)) hb); clear HB; have HB := n0_; clear n0_; (try clear hb); (try clear hb2); (try clear hk); (try clear hi))))
  go_ret
  exact ⟨by first | rfl | (simp [errW_none, errW_some] <;> rfl) | (simp [*, errW_none, errW_some] <;> rfl), by repeat (first | (with_reducible first | exact HB.out | apply below_alloc | apply pw_below_drewN | apply below_drew1) | exact HB.out)⟩

end Go.Proofs.YtpeeflkodpnbpaaDoor.Pr
-- indented by one
