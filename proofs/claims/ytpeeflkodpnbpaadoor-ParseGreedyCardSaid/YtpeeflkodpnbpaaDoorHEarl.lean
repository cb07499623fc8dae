import Derived.Test.YtpeeflkodpnbpaaDoorPr0
import Derived.Test.YtpeeflkodpnbpaaDoorHWord
import Derived.IntWalk
namespace Go.Proofs.YtpeeflkodpnbpaaDoor.Pr
open Go.RowKit Go.Proofs.YtpeeflkodpnbpaaDoorW.PrintWords Go.Proofs.YtpeeflkodpnbpaaDoorW.PrintLast Go.Proofs.YtpeeflkodpnbpaaDoorW.PrintMore
set_option linter.unusedVariables false
set_option linter.unusedSimpArgs false

/-- the package variable 'single' lies as its text lays it -/
structure GW (w : World) : Prop where
  sz : 0 < w.heap.size
  c0 : w.cell? ⟨0, 0, none⟩ = some (.int .i64 (-1))
  c1 : w.cell? ⟨0, 1, none⟩ = some (.int .i64 1)
theorem gw_now {w W : World} (h : GW w) (hb : Below w.heap.size w W) : GW W :=
  ⟨Nat.lt_of_lt_of_le h.sz hb.size, (hb.cell (p := ⟨0, 0, none⟩) h.sz).trans h.c0, (hb.cell (p := ⟨0, 1, none⟩) h.sz).trans h.c1⟩

/-- how far the strings at j and i go together -/
def ext (s : ByteArray) (j i : Nat) : Nat → Nat → Nat
  | 0, n => n
  | q + 1, n => if i + n < s.size then (if bt s ((j + n : Nat) : Int) = bt s ((i + n : Nat) : Int) then ext s j i q (n + 1) else n) else n
theorem ext_stop {s : ByteArray} {j i q n : Nat} {N : Nat} (c : ¬ i + n < s.size) (h : ext s j i q n = N) : N = n := by
  cases q with
  | zero => exact h.symm
  | succ q => rw [ext, if_neg c] at h; exact h.symm
def pick9 (f n : Nat) (b : Int × Int) : Int × Int := if 0 < n ∧ (b = (-1, 1) ∨ b.2 < n) then ((f : Int), (n : Int)) else b
def earlF (s : ByteArray) (i : Nat) : Nat → Nat → Int × Int → Int × Int
  | 0, _, b => b
  | m + 1, f, b => earlF s i m (f + 1) (pick9 f (ext s f i s.size 0) b)

set_option maxHeartbeats 4000000 in
set_option maxRecDepth 1000000 in
theorem earlier_calls (s : ByteArray) (i : Nat) (I : Int) (w : World) (HI : Aside0 (I = (i : Int))) (hs : s.size ≤ 160) (hi : i ≤ s.size) (hG : GW w) :
    Calls Tryd.prog 83 #[.string s, .int .i64 I] w fun e w' => e = .returned (.agg #[.int .i64 (earlF s i i 0 (-1, 1)).1, .int .i64 (earlF s i i 0 (-1, 1)).2]) ∧ Below w.heap.size w w' := by
  obtain ⟨R, hR⟩ : ∃ R, earlF s i i 0 (-1, 1) = R := ⟨_, rfl⟩
  rw [hR]
  have hu63 := Tryd.underlying63
  have HB := Aside0.mk (Below.refl w.heap.size w)
  have G0 := hG.c0
  have G1 := hG.c1
  go_enter Tryd.func83, Tryd.ntmps83
  go_wp2_with (first | ((with_reducible refine gate_dst (N := 4) rfl ?_); refine box_event ?hg (N := 4) ?hd (cs := #[.int .i64 0, .int .i64 0]) (t := 63) ?hr ?_; (case hd => rfl); (case hg => rfl); (case hr => first | (go_simp; done) | (go_simp; rfl)); intro g4 hg4 wg4 hbox hb; have n1_ := Aside0.mk (below_step (by repeat (first | (with_reducible first | exact HB.out | apply below_alloc | apply pw_below_drewN | apply below_drew1) | exact HB.out)) hb); have n2_ := Aside0.mk (hbox); have n3_ := Aside0.mk ((by rw [hg4]; exact (below_size (by repeat (first | (with_reducible first | exact HB.out | apply below_alloc | apply pw_below_drewN | apply below_drew1) | exact HB.out))) : w.heap.size ≤ g4)); clear HB; have HB := n1_; have Bg4 := n2_; have Eg4 := n3_; clear n1_ n2_ n3_; clear hb hbox hg4; have zg4_0 : wg4.cell? ⟨g4, 0, none⟩ = some (.int .i64 0) := (blk_cell Bg4.out 0).trans rfl; have zg4_1 : wg4.cell? ⟨g4, 1, none⟩ = some (.int .i64 0) := (blk_cell Bg4.out 1).trans rfl; have fg4_0 := blk_frozen Bg4.out 0; have fg4_1 := blk_frozen Bg4.out 1; have G0g4 := (gw_now hG HB.out).c0; have G1g4 := (gw_now hG HB.out).c1) | ((with_reducible refine gate_dst (N := 5) rfl ?_); refine box_event ?hg (N := 5) ?hd (cs := #[.int .i64 0, .int .i64 0]) (t := 63) ?hr ?_; (case hd => rfl); (case hg => rfl); (case hr => first | (go_simp; done) | (go_simp; rfl)); intro g5 hg5 wg5 hbox hb; have nb_ := Aside0.mk (blk_below Bg4.out hb); have ne_ : g4 ≠ g5 := (by rw [hg5]; exact Nat.ne_of_lt (blk_lt Bg4.out)); clear Bg4; have Bg4 := nb_; clear nb_; have n1_ := Aside0.mk (below_step (by repeat (first | (with_reducible first | exact HB.out | apply below_alloc | apply pw_below_drewN | apply below_drew1) | exact HB.out)) hb); have n2_ := Aside0.mk (hbox); have n3_ := Aside0.mk ((by rw [hg5]; exact (below_size (by repeat (first | (with_reducible first | exact HB.out | apply below_alloc | apply pw_below_drewN | apply below_drew1) | exact HB.out))) : w.heap.size ≤ g5)); clear HB; have HB := n1_; have Bg5 := n2_; have Eg5 := n3_; clear n1_ n2_ n3_; clear hb hbox hg5; have zg5_0 : wg5.cell? ⟨g5, 0, none⟩ = some (.int .i64 0) := (blk_cell Bg5.out 0).trans rfl; have zg5_1 : wg5.cell? ⟨g5, 1, none⟩ = some (.int .i64 0) := (blk_cell Bg5.out 1).trans rfl; have fg5_0 := blk_frozen Bg5.out 0; have fg5_1 := blk_frozen Bg5.out 1; have G0g5 := (gw_now hG HB.out).c0; have G1g5 := (gw_now hG HB.out).c1))
  repeat (go_quiet (fail); try go_wp2)
  have E4 := Eg4; have E5 := Eg5; have N45 := Aside0.mk ne_; clear ne_
  go_loopg [10] i (fun m v10 wx => ∃ (f : Nat) (F b0 b1 : Int), v10 = .int .i64 F ∧ Aside0 (F = (f : Int)) ∧ Aside0 (f + m = i) ∧ Aside0 (earlF s i m f (b0, b1) = R) ∧ Aside0 (wx.heap[g4]? = some (.cells #[.int .i64 0, .int .i64 0] 63 (0, 0))) ∧ Aside0 (wx.heap[g5]? = some (.cells #[.int .i64 b0, .int .i64 b1] 63 (0, 0))) ∧ Aside0 (Below w.heap.size w wx))
  case atStart => exact ⟨0, 0, -1, 1, rfl, ⟨rfl⟩, ⟨by omega⟩, ⟨hR⟩, ⟨by (with_reducible repeat (first | refine blk_drewN ?_ _ | refine blk_drew ?_ | refine blk_alloc ?_ _)); refine blk_far ?_ N45.out _; (with_reducible repeat (first | refine blk_drewN ?_ _ | refine blk_drew ?_ | refine blk_alloc ?_ _)); refine blk_far ?_ N45.out _; (with_reducible repeat (first | refine blk_drewN ?_ _ | refine blk_drew ?_ | refine blk_alloc ?_ _)); exact Bg4.out⟩, ⟨by (with_reducible repeat (first | refine blk_drewN ?_ _ | refine blk_drew ?_ | refine blk_alloc ?_ _)); refine blk_put (cs := #[.int .i64 (-1), .int .i64 0]) ?_ 1 _ rfl; (with_reducible repeat (first | refine blk_drewN ?_ _ | refine blk_drew ?_ | refine blk_alloc ?_ _)); refine blk_put (cs := #[.int .i64 0, .int .i64 0]) ?_ 0 _ rfl; (with_reducible repeat (first | refine blk_drewN ?_ _ | refine blk_drew ?_ | refine blk_alloc ?_ _)); exact Bg5.out⟩, ⟨by repeat (first | (with_reducible first | exact HB.out | apply below_alloc | apply pw_below_drewN | apply below_drew1 | refine below_set ?_ E5.out) | exact HB.out)⟩⟩
  case round =>
    clear Bg4 Bg5 zg4_0 zg4_1 fg4_0 fg4_1 zg5_0 zg5_1 fg5_0 fg5_1 G0g4 G1g4 G0g5 G1g5
    obtain ⟨f, F, b0, b1, rfl, HF, HA, HR, B4, B5, HB⟩ := hrel
    cases gk with
    | zero =>
      have c1 : decide (F < I) = false := decide_eq_false (by have := HA.out; have := HF.out; have := HI.out; omega)
      have hh : (b0, b1) = R := HR.out
      subst hh
      have z5_0 : wr.cell? ⟨g5, 0, none⟩ = some (.int .i64 b0) := (blk_cell B5.out 0).trans rfl
      have f5_0 := blk_frozen B5.out 0
      have z4_0 : wr.cell? ⟨g4, 0, none⟩ = some (.int .i64 0) := (blk_cell B4.out 0).trans rfl
      have f4_0 := blk_frozen B4.out 0
      have z5_1 : wr.cell? ⟨g5, 1, none⟩ = some (.int .i64 b1) := (blk_cell B5.out 1).trans rfl
      have f5_1 := blk_frozen B5.out 1
      have z4_1 : wr.cell? ⟨g4, 1, none⟩ = some (.int .i64 0) := (blk_cell B4.out 1).trans rfl
      have f4_1 := blk_frozen B4.out 1
      go_wp2
      repeat (go_quiet (fail); try go_wp2)
      refine bodyPost_ret (results_cell_row rfl _ _ g4 63 #[.int .i64 b0, .int .i64 b1] (0, 0) _ rfl (by (with_reducible repeat (first | refine blk_drewN ?_ _ | refine blk_drew ?_ | refine blk_alloc ?_ _)); refine blk_put (cs := #[.int .i64 b0, .int .i64 0]) ?_ 1 _ rfl; (with_reducible repeat (first | refine blk_drewN ?_ _ | refine blk_drew ?_ | refine blk_alloc ?_ _)); refine blk_put (cs := #[.int .i64 0, .int .i64 0]) ?_ 0 _ rfl; (with_reducible repeat (first | refine blk_drewN ?_ _ | refine blk_drew ?_ | refine blk_alloc ?_ _)); exact B4.out) Tryd.underlying63 rfl (by kernel_rfl)) rfl ?_
      exact ⟨by first | rfl | (simp; done) | (simp [*]; done), by repeat (first | (with_reducible first | exact HB.out | apply below_alloc | apply pw_below_drewN | apply below_drew1 | refine below_set ?_ E4.out) | exact HB.out)⟩
    | succ m =>
      have c1 : decide (F < I) = true := decide_eq_true (by have := HA.out; have := HF.out; have := HI.out; omega)
      go_wp2
      repeat (go_quiet (fail); try go_wp2)
      clear c1
      go_loopg [7] s.size (fun q v7 wx => ∃ (n : Nat) (N : Int), v7 = .int .i64 N ∧ Aside0 (N = (n : Int)) ∧ Aside0 (i + n ≤ s.size) ∧ Aside0 (ext s f i q n = ext s f i s.size 0) ∧ Aside0 (s.size ≤ n + q) ∧ Aside0 (wx.heap[g4]? = some (.cells #[.int .i64 0, .int .i64 0] 63 (0, 0))) ∧ Aside0 (wx.heap[g5]? = some (.cells #[.int .i64 b0, .int .i64 b1] 63 (0, 0))) ∧ Aside0 (Below w.heap.size w wx))
      case atStart => exact ⟨0, 0, rfl, ⟨rfl⟩, ⟨by omega⟩, ⟨rfl⟩, ⟨by omega⟩, ⟨by (with_reducible repeat (first | refine blk_drewN ?_ _ | refine blk_drew ?_ | refine blk_alloc ?_ _)); exact B4.out⟩, ⟨by (with_reducible repeat (first | refine blk_drewN ?_ _ | refine blk_drew ?_ | refine blk_alloc ?_ _)); exact B5.out⟩, ⟨by repeat (first | (with_reducible first | exact HB.out | apply below_alloc | apply pw_below_drewN | apply below_drew1 | refine below_set ?_ E5.out) | exact HB.out)⟩⟩
      case round =>
        clear B4 B5 HB
        obtain ⟨n, N, rfl, HN, Hn, HX, HQ, B4, B5, HB⟩ := hrel
        have hfi := HA.out
        have hn := Hn.out
        have hF := HF.out; have hI := HI.out; have hN := HN.out
        obtain ⟨X1, HX1⟩ : ∃ X : Int, Aside0 (X = ((i + n : Nat) : Int)) := ⟨_, ⟨rfl⟩⟩
        obtain ⟨X2, HX2⟩ : ∃ X : Int, Aside0 (X = ((f + n : Nat) : Int)) := ⟨_, ⟨rfl⟩⟩
        have hX1 := HX1.out; have hX2 := HX2.out
        have v1 : (IntKind.i64.wrap (I + N)) = X1 := (i64_w _).trans ((Go.IntWalk.wrap64_in _ (by omega)).trans (by omega))
        have v2 : (IntKind.i64.wrap (F + N)) = X2 := (i64_w _).trans ((Go.IntWalk.wrap64_in _ (by omega)).trans (by omega))
        have w1 : wrap64 (I + N) = X1 := (Go.IntWalk.wrap64_in _ (by omega)).trans (by omega)
        have w2 : wrap64 (F + N) = X2 := (Go.IntWalk.wrap64_in _ (by omega)).trans (by omega)
        by_cases c : i + n < s.size
        · have c1 : decide (X1 < (s.size : Int)) = true := decide_eq_true (by omega)
          obtain ⟨q, rfl⟩ : ∃ q, gk = q + 1 := ⟨gk - 1, by have := HQ.out; omega⟩
          by_cases e : bt s X2 = bt s X1
          · have e1 : (bt s X2 == bt s X1) = true := beq_iff_eq.mpr e
            have HX' : Aside0 (ext s f i q (n + 1) = ext s f i s.size 0) := ⟨by have := HX.out; rw [ext, if_pos c, if_pos (hX2 ▸ hX1 ▸ e)] at this; exact this⟩
            have p10 : 0 ≤ X2 := by omega
            have q10 : X2 < (s.size : Int) := by omega
            have hx10 := bt_at s X2
            have p13 : 0 ≤ X1 := by omega
            have q13 : X1 < (s.size : Int) := by omega
            have hx13 := bt_at s X1
            replace p10 := eq_true p10
            replace q10 := eq_true q10
            replace p13 := eq_true p13
            replace q13 := eq_true q13
            clear hfi hn hF hI hN hX1 hX2 c e
            go_wp2
            repeat (go_quiet (fail); try go_wp2)
            go_roundg q
            case measure => omega
            case rel => exact ⟨n + 1, wrap64 (N + 1), (by first | rfl | (simp; done)), ⟨by have := HN.out; have := Hn.out; rw [Go.IntWalk.wrap64_in _ (by omega)]; omega⟩, ⟨by have := of_decide_eq_true c1; have := HX1.out; omega⟩, HX', ⟨by have := HQ.out; omega⟩, ⟨by (with_reducible repeat (first | refine blk_drewN ?_ _ | refine blk_drew ?_ | refine blk_alloc ?_ _)); exact B4.out⟩, ⟨by (with_reducible repeat (first | refine blk_drewN ?_ _ | refine blk_drew ?_ | refine blk_alloc ?_ _)); exact B5.out⟩, ⟨by repeat (first | (with_reducible first | exact HB.out | apply below_alloc | apply pw_below_drewN | apply below_drew1 | refine below_set ?_ E5.out) | exact HB.out)⟩⟩
          · have e1 : (bt s X2 == bt s X1) = false := beq_eq_false_iff_ne.mpr e
            have hx : ext s f i s.size 0 = n := by have := HX.out; rw [ext, if_pos c, if_neg (hX2 ▸ hX1 ▸ e)] at this; exact this.symm
            have p10 : 0 ≤ X2 := by omega
            have q10 : X2 < (s.size : Int) := by omega
            have hx10 := bt_at s X2
            have p13 : 0 ≤ X1 := by omega
            have q13 : X1 < (s.size : Int) := by omega
            have hx13 := bt_at s X1
            replace p10 := eq_true p10
            replace q10 := eq_true q10
            replace p13 := eq_true p13
            replace q13 := eq_true q13
            clear c e
            by_cases n0 : n = 0
            · have k0 : decide ((0 : Int) < N) = false := decide_eq_false (by omega)
              have hP : Aside0 (earlF s i m (f + 1) (b0, b1) = R) := ⟨by have := HR.out; rw [earlF, hx, pick9, if_neg (by omega)] at this; exact this⟩
              clear n0 hx
              have z5_0 : wr.cell? ⟨g5, 0, none⟩ = some (.int .i64 b0) := (blk_cell B5.out 0).trans rfl
              have f5_0 := blk_frozen B5.out 0
              have z5_1 : wr.cell? ⟨g5, 1, none⟩ = some (.int .i64 b1) := (blk_cell B5.out 1).trans rfl
              have f5_1 := blk_frozen B5.out 1
              have G0 := (gw_now hG HB.out).c0
              have G1 := (gw_now hG HB.out).c1
              clear hfi hn hF hI hN hX1 hX2
              go_wp2
              repeat (go_quiet (fail); try go_wp2)
              go_roundg m
              case measure => omega
              case rel => exact ⟨f + 1, wrap64 (F + 1), b0, b1, (by first | rfl | (simp; done)), ⟨by have := HF.out; have := HA.out; rw [Go.IntWalk.wrap64_in _ (by omega)]; omega⟩, ⟨by have := HA.out; omega⟩, hP, ⟨by (with_reducible repeat (first | refine blk_drewN ?_ _ | refine blk_drew ?_ | refine blk_alloc ?_ _)); exact B4.out⟩, ⟨by (with_reducible repeat (first | refine blk_drewN ?_ _ | refine blk_drew ?_ | refine blk_alloc ?_ _)); exact B5.out⟩, ⟨by repeat (first | (with_reducible first | exact HB.out | apply below_alloc | apply pw_below_drewN | apply below_drew1 | refine below_set ?_ E5.out) | exact HB.out)⟩⟩
            · have k0 : decide ((0 : Int) < N) = true := decide_eq_true (by omega)
              by_cases e0 : b0 = -1 ∧ b1 = 1
              · obtain ⟨rfl, rfl⟩ := e0
                have hP : Aside0 (earlF s i m (f + 1) (F, N) = R) := ⟨by have := HR.out; rw [earlF, hx, pick9, if_pos ⟨by omega, .inl rfl⟩] at this; rw [hF, hN]; exact this⟩
                clear n0 hx
                have z5_0 : wr.cell? ⟨g5, 0, none⟩ = some (.int .i64 (-1)) := (blk_cell B5.out 0).trans rfl
                have f5_0 := blk_frozen B5.out 0
                have z5_1 : wr.cell? ⟨g5, 1, none⟩ = some (.int .i64 1) := (blk_cell B5.out 1).trans rfl
                have f5_1 := blk_frozen B5.out 1
                have G0 := (gw_now hG HB.out).c0
                have G1 := (gw_now hG HB.out).c1
                clear hfi hn hF hI hN hX1 hX2
                go_wp2
                repeat (go_quiet (fail); try go_wp2)
                go_roundg m
                case measure => omega
                case rel => exact ⟨f + 1, wrap64 (F + 1), F, N, (by first | rfl | (simp; done)), ⟨by have := HF.out; have := HA.out; rw [Go.IntWalk.wrap64_in _ (by omega)]; omega⟩, ⟨by have := HA.out; omega⟩, hP, ⟨by (with_reducible repeat (first | refine blk_drewN ?_ _ | refine blk_drew ?_ | refine blk_alloc ?_ _)); refine blk_far ?_ N45.out _; (with_reducible repeat (first | refine blk_drewN ?_ _ | refine blk_drew ?_ | refine blk_alloc ?_ _)); refine blk_far ?_ N45.out _; (with_reducible repeat (first | refine blk_drewN ?_ _ | refine blk_drew ?_ | refine blk_alloc ?_ _)); exact B4.out⟩, ⟨by (with_reducible repeat (first | refine blk_drewN ?_ _ | refine blk_drew ?_ | refine blk_alloc ?_ _)); refine blk_put (cs := #[.int .i64 F, .int .i64 1]) ?_ 1 _ rfl; (with_reducible repeat (first | refine blk_drewN ?_ _ | refine blk_drew ?_ | refine blk_alloc ?_ _)); refine blk_put (cs := #[.int .i64 (-1), .int .i64 1]) ?_ 0 _ rfl; (with_reducible repeat (first | refine blk_drewN ?_ _ | refine blk_drew ?_ | refine blk_alloc ?_ _)); exact B5.out⟩, ⟨by repeat (first | (with_reducible first | exact HB.out | apply below_alloc | apply pw_below_drewN | apply below_drew1 | refine below_set ?_ E5.out) | exact HB.out)⟩⟩
              · by_cases e2 : b0 = -1
                · have e3 : b1 ≠ 1 := fun h => e0 ⟨e2, h⟩
                  subst e2
                  have kb : (b1 == 1) = false := beq_eq_false_iff_ne.mpr e3
                  by_cases g : b1 < N
                  · have kg : decide (b1 < N) = true := decide_eq_true g
                    have hP : Aside0 (earlF s i m (f + 1) (F, N) = R) := ⟨by have := HR.out; rw [earlF, hx, pick9, if_pos ⟨by omega, .inr (by dsimp only; omega)⟩] at this; rw [hF, hN]; exact this⟩
                    clear n0 hx e0 g e3
                    have z5_0 : wr.cell? ⟨g5, 0, none⟩ = some (.int .i64 (-1)) := (blk_cell B5.out 0).trans rfl
                    have f5_0 := blk_frozen B5.out 0
                    have z5_1 : wr.cell? ⟨g5, 1, none⟩ = some (.int .i64 b1) := (blk_cell B5.out 1).trans rfl
                    have f5_1 := blk_frozen B5.out 1
                    have G0 := (gw_now hG HB.out).c0
                    have G1 := (gw_now hG HB.out).c1
                    clear hfi hn hF hI hN hX1 hX2
                    go_wp2
                    repeat (go_quiet (fail); try go_wp2)
                    go_roundg m
                    case measure => omega
                    case rel => exact ⟨f + 1, wrap64 (F + 1), F, N, (by first | rfl | (simp; done)), ⟨by have := HF.out; have := HA.out; rw [Go.IntWalk.wrap64_in _ (by omega)]; omega⟩, ⟨by have := HA.out; omega⟩, hP, ⟨by (with_reducible repeat (first | refine blk_drewN ?_ _ | refine blk_drew ?_ | refine blk_alloc ?_ _)); refine blk_far ?_ N45.out _; (with_reducible repeat (first | refine blk_drewN ?_ _ | refine blk_drew ?_ | refine blk_alloc ?_ _)); refine blk_far ?_ N45.out _; (with_reducible repeat (first | refine blk_drewN ?_ _ | refine blk_drew ?_ | refine blk_alloc ?_ _)); exact B4.out⟩, ⟨by (with_reducible repeat (first | refine blk_drewN ?_ _ | refine blk_drew ?_ | refine blk_alloc ?_ _)); refine blk_put (cs := #[.int .i64 F, .int .i64 b1]) ?_ 1 _ rfl; (with_reducible repeat (first | refine blk_drewN ?_ _ | refine blk_drew ?_ | refine blk_alloc ?_ _)); refine blk_put (cs := #[.int .i64 (-1), .int .i64 b1]) ?_ 0 _ rfl; (with_reducible repeat (first | refine blk_drewN ?_ _ | refine blk_drew ?_ | refine blk_alloc ?_ _)); exact B5.out⟩, ⟨by repeat (first | (with_reducible first | exact HB.out | apply below_alloc | apply pw_below_drewN | apply below_drew1 | refine below_set ?_ E5.out) | exact HB.out)⟩⟩
                  · have kg : decide (b1 < N) = false := decide_eq_false g
                    have hP : Aside0 (earlF s i m (f + 1) ((-1), b1) = R) := ⟨by have := HR.out; rw [earlF, hx, pick9, if_neg (by intro hh; rcases hh.2 with h | h; (first | exact e0 ⟨congrArg Prod.fst h, congrArg Prod.snd h⟩ | exact e0 (congrArg Prod.snd h)); (exact g (by dsimp only at h; omega)))] at this; exact this⟩
                    clear n0 hx e0 g e3
                    have z5_0 : wr.cell? ⟨g5, 0, none⟩ = some (.int .i64 (-1)) := (blk_cell B5.out 0).trans rfl
                    have f5_0 := blk_frozen B5.out 0
                    have z5_1 : wr.cell? ⟨g5, 1, none⟩ = some (.int .i64 b1) := (blk_cell B5.out 1).trans rfl
                    have f5_1 := blk_frozen B5.out 1
                    have G0 := (gw_now hG HB.out).c0
                    have G1 := (gw_now hG HB.out).c1
                    clear hfi hn hF hI hN hX1 hX2
                    go_wp2
                    repeat (go_quiet (fail); try go_wp2)
                    go_roundg m
                    case measure => omega
                    case rel => exact ⟨f + 1, wrap64 (F + 1), -1, b1, (by first | rfl | (simp; done)), ⟨by have := HF.out; have := HA.out; rw [Go.IntWalk.wrap64_in _ (by omega)]; omega⟩, ⟨by have := HA.out; omega⟩, hP, ⟨by (with_reducible repeat (first | refine blk_drewN ?_ _ | refine blk_drew ?_ | refine blk_alloc ?_ _)); exact B4.out⟩, ⟨by (with_reducible repeat (first | refine blk_drewN ?_ _ | refine blk_drew ?_ | refine blk_alloc ?_ _)); exact B5.out⟩, ⟨by repeat (first | (with_reducible first | exact HB.out | apply below_alloc | apply pw_below_drewN | apply below_drew1 | refine below_set ?_ E5.out) | exact HB.out)⟩⟩
                · have kb : (b0 == (-1)) = false := beq_eq_false_iff_ne.mpr e2
                  have e3 := e2
                  by_cases g : b1 < N
                  · have kg : decide (b1 < N) = true := decide_eq_true g
                    have hP : Aside0 (earlF s i m (f + 1) (F, N) = R) := ⟨by have := HR.out; rw [earlF, hx, pick9, if_pos ⟨by omega, .inr (by dsimp only; omega)⟩] at this; rw [hF, hN]; exact this⟩
                    clear n0 hx e0 g e3
                    have z5_0 : wr.cell? ⟨g5, 0, none⟩ = some (.int .i64 b0) := (blk_cell B5.out 0).trans rfl
                    have f5_0 := blk_frozen B5.out 0
                    have z5_1 : wr.cell? ⟨g5, 1, none⟩ = some (.int .i64 b1) := (blk_cell B5.out 1).trans rfl
                    have f5_1 := blk_frozen B5.out 1
                    have G0 := (gw_now hG HB.out).c0
                    have G1 := (gw_now hG HB.out).c1
                    clear hfi hn hF hI hN hX1 hX2
                    go_wp2
                    repeat (go_quiet (fail); try go_wp2)
                    go_roundg m
                    case measure => omega
                    case rel => exact ⟨f + 1, wrap64 (F + 1), F, N, (by first | rfl | (simp; done)), ⟨by have := HF.out; have := HA.out; rw [Go.IntWalk.wrap64_in _ (by omega)]; omega⟩, ⟨by have := HA.out; omega⟩, hP, ⟨by (with_reducible repeat (first | refine blk_drewN ?_ _ | refine blk_drew ?_ | refine blk_alloc ?_ _)); refine blk_far ?_ N45.out _; (with_reducible repeat (first | refine blk_drewN ?_ _ | refine blk_drew ?_ | refine blk_alloc ?_ _)); refine blk_far ?_ N45.out _; (with_reducible repeat (first | refine blk_drewN ?_ _ | refine blk_drew ?_ | refine blk_alloc ?_ _)); exact B4.out⟩, ⟨by (with_reducible repeat (first | refine blk_drewN ?_ _ | refine blk_drew ?_ | refine blk_alloc ?_ _)); refine blk_put (cs := #[.int .i64 F, .int .i64 b1]) ?_ 1 _ rfl; (with_reducible repeat (first | refine blk_drewN ?_ _ | refine blk_drew ?_ | refine blk_alloc ?_ _)); refine blk_put (cs := #[.int .i64 b0, .int .i64 b1]) ?_ 0 _ rfl; (with_reducible repeat (first | refine blk_drewN ?_ _ | refine blk_drew ?_ | refine blk_alloc ?_ _)); exact B5.out⟩, ⟨by repeat (first | (with_reducible first | exact HB.out | apply below_alloc | apply pw_below_drewN | apply below_drew1 | refine below_set ?_ E5.out) | exact HB.out)⟩⟩
                  · have kg : decide (b1 < N) = false := decide_eq_false g
                    have hP : Aside0 (earlF s i m (f + 1) (b0, b1) = R) := ⟨by have := HR.out; rw [earlF, hx, pick9, if_neg (by intro hh; rcases hh.2 with h | h; (first | exact e0 ⟨congrArg Prod.fst h, congrArg Prod.snd h⟩ | exact e0 (congrArg Prod.snd h)); (exact g (by dsimp only at h; omega)))] at this; exact this⟩
                    clear n0 hx e0 g e3
                    have z5_0 : wr.cell? ⟨g5, 0, none⟩ = some (.int .i64 b0) := (blk_cell B5.out 0).trans rfl
                    have f5_0 := blk_frozen B5.out 0
                    have z5_1 : wr.cell? ⟨g5, 1, none⟩ = some (.int .i64 b1) := (blk_cell B5.out 1).trans rfl
                    have f5_1 := blk_frozen B5.out 1
                    have G0 := (gw_now hG HB.out).c0
                    have G1 := (gw_now hG HB.out).c1
                    clear hfi hn hF hI hN hX1 hX2
                    go_wp2
                    repeat (go_quiet (fail); try go_wp2)
                    go_roundg m
                    case measure => omega
                    case rel => exact ⟨f + 1, wrap64 (F + 1), b0, b1, (by first | rfl | (simp; done)), ⟨by have := HF.out; have := HA.out; rw [Go.IntWalk.wrap64_in _ (by omega)]; omega⟩, ⟨by have := HA.out; omega⟩, hP, ⟨by (with_reducible repeat (first | refine blk_drewN ?_ _ | refine blk_drew ?_ | refine blk_alloc ?_ _)); exact B4.out⟩, ⟨by (with_reducible repeat (first | refine blk_drewN ?_ _ | refine blk_drew ?_ | refine blk_alloc ?_ _)); exact B5.out⟩, ⟨by repeat (first | (with_reducible first | exact HB.out | apply below_alloc | apply pw_below_drewN | apply below_drew1 | refine below_set ?_ E5.out) | exact HB.out)⟩⟩
        · have c1 : decide (X1 < (s.size : Int)) = false := decide_eq_false (by omega)
          have hx : ext s f i s.size 0 = n := ext_stop c HX.out
          clear c
          by_cases n0 : n = 0
          · have k0 : decide ((0 : Int) < N) = false := decide_eq_false (by omega)
            have hP : Aside0 (earlF s i m (f + 1) (b0, b1) = R) := ⟨by have := HR.out; rw [earlF, hx, pick9, if_neg (by omega)] at this; exact this⟩
            clear n0 hx
            have z5_0 : wr.cell? ⟨g5, 0, none⟩ = some (.int .i64 b0) := (blk_cell B5.out 0).trans rfl
            have f5_0 := blk_frozen B5.out 0
            have z5_1 : wr.cell? ⟨g5, 1, none⟩ = some (.int .i64 b1) := (blk_cell B5.out 1).trans rfl
            have f5_1 := blk_frozen B5.out 1
            have G0 := (gw_now hG HB.out).c0
            have G1 := (gw_now hG HB.out).c1
            clear hfi hn hF hI hN hX1 hX2
            go_wp2
            repeat (go_quiet (fail); try go_wp2)
            go_roundg m
            case measure => omega
            case rel => exact ⟨f + 1, wrap64 (F + 1), b0, b1, (by first | rfl | (simp; done)), ⟨by have := HF.out; have := HA.out; rw [Go.IntWalk.wrap64_in _ (by omega)]; omega⟩, ⟨by have := HA.out; omega⟩, hP, ⟨by (with_reducible repeat (first | refine blk_drewN ?_ _ | refine blk_drew ?_ | refine blk_alloc ?_ _)); exact B4.out⟩, ⟨by (with_reducible repeat (first | refine blk_drewN ?_ _ | refine blk_drew ?_ | refine blk_alloc ?_ _)); exact B5.out⟩, ⟨by repeat (first | (with_reducible first | exact HB.out | apply below_alloc | apply pw_below_drewN | apply below_drew1 | refine below_set ?_ E5.out) | exact HB.out)⟩⟩
          · have k0 : decide ((0 : Int) < N) = true := decide_eq_true (by omega)
            by_cases e0 : b0 = -1 ∧ b1 = 1
            · obtain ⟨rfl, rfl⟩ := e0
              have hP : Aside0 (earlF s i m (f + 1) (F, N) = R) := ⟨by have := HR.out; rw [earlF, hx, pick9, if_pos ⟨by omega, .inl rfl⟩] at this; rw [hF, hN]; exact this⟩
              clear n0 hx
              have z5_0 : wr.cell? ⟨g5, 0, none⟩ = some (.int .i64 (-1)) := (blk_cell B5.out 0).trans rfl
              have f5_0 := blk_frozen B5.out 0
              have z5_1 : wr.cell? ⟨g5, 1, none⟩ = some (.int .i64 1) := (blk_cell B5.out 1).trans rfl
              have f5_1 := blk_frozen B5.out 1
              have G0 := (gw_now hG HB.out).c0
              have G1 := (gw_now hG HB.out).c1
              clear hfi hn hF hI hN hX1 hX2
              go_wp2
              repeat (go_quiet (fail); try go_wp2)
              go_roundg m
              case measure => omega
              case rel => exact ⟨f + 1, wrap64 (F + 1), F, N, (by first | rfl | (simp; done)), ⟨by have := HF.out; have := HA.out; rw [Go.IntWalk.wrap64_in _ (by omega)]; omega⟩, ⟨by have := HA.out; omega⟩, hP, ⟨by (with_reducible repeat (first | refine blk_drewN ?_ _ | refine blk_drew ?_ | refine blk_alloc ?_ _)); refine blk_far ?_ N45.out _; (with_reducible repeat (first | refine blk_drewN ?_ _ | refine blk_drew ?_ | refine blk_alloc ?_ _)); refine blk_far ?_ N45.out _; (with_reducible repeat (first | refine blk_drewN ?_ _ | refine blk_drew ?_ | refine blk_alloc ?_ _)); exact B4.out⟩, ⟨by (with_reducible repeat (first | refine blk_drewN ?_ _ | refine blk_drew ?_ | refine blk_alloc ?_ _)); refine blk_put (cs := #[.int .i64 F, .int .i64 1]) ?_ 1 _ rfl; (with_reducible repeat (first | refine blk_drewN ?_ _ | refine blk_drew ?_ | refine blk_alloc ?_ _)); refine blk_put (cs := #[.int .i64 (-1), .int .i64 1]) ?_ 0 _ rfl; (with_reducible repeat (first | refine blk_drewN ?_ _ | refine blk_drew ?_ | refine blk_alloc ?_ _)); exact B5.out⟩, ⟨by repeat (first | (with_reducible first | exact HB.out | apply below_alloc | apply pw_below_drewN | apply below_drew1 | refine below_set ?_ E5.out) | exact HB.out)⟩⟩
            · by_cases e2 : b0 = -1
              · have e3 : b1 ≠ 1 := fun h => e0 ⟨e2, h⟩
                subst e2
                have kb : (b1 == 1) = false := beq_eq_false_iff_ne.mpr e3
                by_cases g : b1 < N
                · have kg : decide (b1 < N) = true := decide_eq_true g
                  have hP : Aside0 (earlF s i m (f + 1) (F, N) = R) := ⟨by have := HR.out; rw [earlF, hx, pick9, if_pos ⟨by omega, .inr (by dsimp only; omega)⟩] at this; rw [hF, hN]; exact this⟩
                  clear n0 hx e0 g e3
                  have z5_0 : wr.cell? ⟨g5, 0, none⟩ = some (.int .i64 (-1)) := (blk_cell B5.out 0).trans rfl
                  have f5_0 := blk_frozen B5.out 0
                  have z5_1 : wr.cell? ⟨g5, 1, none⟩ = some (.int .i64 b1) := (blk_cell B5.out 1).trans rfl
                  have f5_1 := blk_frozen B5.out 1
                  have G0 := (gw_now hG HB.out).c0
                  have G1 := (gw_now hG HB.out).c1
                  clear hfi hn hF hI hN hX1 hX2
                  go_wp2
                  repeat (go_quiet (fail); try go_wp2)
                  go_roundg m
                  case measure => omega
                  case rel => exact ⟨f + 1, wrap64 (F + 1), F, N, (by first | rfl | (simp; done)), ⟨by have := HF.out; have := HA.out; rw [Go.IntWalk.wrap64_in _ (by omega)]; omega⟩, ⟨by have := HA.out; omega⟩, hP, ⟨by (with_reducible repeat (first | refine blk_drewN ?_ _ | refine blk_drew ?_ | refine blk_alloc ?_ _)); refine blk_far ?_ N45.out _; (with_reducible repeat (first | refine blk_drewN ?_ _ | refine blk_drew ?_ | refine blk_alloc ?_ _)); refine blk_far ?_ N45.out _; (with_reducible repeat (first | refine blk_drewN ?_ _ | refine blk_drew ?_ | refine blk_alloc ?_ _)); exact B4.out⟩, ⟨by (with_reducible repeat (first | refine blk_drewN ?_ _ | refine blk_drew ?_ | refine blk_alloc ?_ _)); refine blk_put (cs := #[.int .i64 F, .int .i64 b1]) ?_ 1 _ rfl; (with_reducible repeat (first | refine blk_drewN ?_ _ | refine blk_drew ?_ | refine blk_alloc ?_ _)); refine blk_put (cs := #[.int .i64 (-1), .int .i64 b1]) ?_ 0 _ rfl; (with_reducible repeat (first | refine blk_drewN ?_ _ | refine blk_drew ?_ | refine blk_alloc ?_ _)); exact B5.out⟩, ⟨by repeat (first | (with_reducible first | exact HB.out | apply below_alloc | apply pw_below_drewN | apply below_drew1 | refine below_set ?_ E5.out) | exact HB.out)⟩⟩
                · have kg : decide (b1 < N) = false := decide_eq_false g
                  have hP : Aside0 (earlF s i m (f + 1) ((-1), b1) = R) := ⟨by have := HR.out; rw [earlF, hx, pick9, if_neg (by intro hh; rcases hh.2 with h | h; (first | exact e0 ⟨congrArg Prod.fst h, congrArg Prod.snd h⟩ | exact e0 (congrArg Prod.snd h)); (exact g (by dsimp only at h; omega)))] at this; exact this⟩
                  clear n0 hx e0 g e3
                  have z5_0 : wr.cell? ⟨g5, 0, none⟩ = some (.int .i64 (-1)) := (blk_cell B5.out 0).trans rfl
                  have f5_0 := blk_frozen B5.out 0
                  have z5_1 : wr.cell? ⟨g5, 1, none⟩ = some (.int .i64 b1) := (blk_cell B5.out 1).trans rfl
                  have f5_1 := blk_frozen B5.out 1
                  have G0 := (gw_now hG HB.out).c0
                  have G1 := (gw_now hG HB.out).c1
                  clear hfi hn hF hI hN hX1 hX2
                  go_wp2
                  repeat (go_quiet (fail); try go_wp2)
                  go_roundg m
                  case measure => omega
                  case rel => exact ⟨f + 1, wrap64 (F + 1), -1, b1, (by first | rfl | (simp; done)), ⟨by have := HF.out; have := HA.out; rw [Go.IntWalk.wrap64_in _ (by omega)]; omega⟩, ⟨by have := HA.out; omega⟩, hP, ⟨by (with_reducible repeat (first | refine blk_drewN ?_ _ | refine blk_drew ?_ | refine blk_alloc ?_ _)); exact B4.out⟩, ⟨by (with_reducible repeat (first | refine blk_drewN ?_ _ | refine blk_drew ?_ | refine blk_alloc ?_ _)); exact B5.out⟩, ⟨by repeat (first | (with_reducible first | exact HB.out | apply below_alloc | apply pw_below_drewN | apply below_drew1 | refine below_set ?_ E5.out) | exact HB.out)⟩⟩
              · have kb : (b0 == (-1)) = false := beq_eq_false_iff_ne.mpr e2
                have e3 := e2
                by_cases g : b1 < N
                · have kg : decide (b1 < N) = true := decide_eq_true g
                  have hP : Aside0 (earlF s i m (f + 1) (F, N) = R) := ⟨by have := HR.out; rw [earlF, hx, pick9, if_pos ⟨by omega, .inr (by dsimp only; omega)⟩] at this; rw [hF, hN]; exact this⟩
                  clear n0 hx e0 g e3
                  have z5_0 : wr.cell? ⟨g5, 0, none⟩ = some (.int .i64 b0) := (blk_cell B5.out 0).trans rfl
                  have f5_0 := blk_frozen B5.out 0
                  have z5_1 : wr.cell? ⟨g5, 1, none⟩ = some (.int .i64 b1) := (blk_cell B5.out 1).trans rfl
                  have f5_1 := blk_frozen B5.out 1
                  have G0 := (gw_now hG HB.out).c0
                  have G1 := (gw_now hG HB.out).c1
                  clear hfi hn hF hI hN hX1 hX2
                  go_wp2
                  repeat (go_quiet (fail); try go_wp2)
                  go_roundg m
                  case measure => omega
                  case rel => exact ⟨f + 1, wrap64 (F + 1), F, N, (by first | rfl | (simp; done)), ⟨by have := HF.out; have := HA.out; rw [Go.IntWalk.wrap64_in _ (by omega)]; omega⟩, ⟨by have := HA.out; omega⟩, hP, ⟨by (with_reducible repeat (first | refine blk_drewN ?_ _ | refine blk_drew ?_ | refine blk_alloc ?_ _)); refine blk_far ?_ N45.out _; (with_reducible repeat (first | refine blk_drewN ?_ _ | refine blk_drew ?_ | refine blk_alloc ?_ _)); refine blk_far ?_ N45.out _; (with_reducible repeat (first | refine blk_drewN ?_ _ | refine blk_drew ?_ | refine blk_alloc ?_ _)); exact B4.out⟩, ⟨by (with_reducible repeat (first | refine blk_drewN ?_ _ | refine blk_drew ?_ | refine blk_alloc ?_ _)); refine blk_put (cs := #[.int .i64 F, .int .i64 b1]) ?_ 1 _ rfl; (with_reducible repeat (first | refine blk_drewN ?_ _ | refine blk_drew ?_ | refine blk_alloc ?_ _)); refine blk_put (cs := #[.int .i64 b0, .int .i64 b1]) ?_ 0 _ rfl; (with_reducible repeat (first | refine blk_drewN ?_ _ | refine blk_drew ?_ | refine blk_alloc ?_ _)); exact B5.out⟩, ⟨by repeat (first | (with_reducible first | exact HB.out | apply below_alloc | apply pw_below_drewN | apply below_drew1 | refine below_set ?_ E5.out) | exact HB.out)⟩⟩
                · have kg : decide (b1 < N) = false := decide_eq_false g
                  have hP : Aside0 (earlF s i m (f + 1) (b0, b1) = R) := ⟨by have := HR.out; rw [earlF, hx, pick9, if_neg (by intro hh; rcases hh.2 with h | h; (first | exact e0 ⟨congrArg Prod.fst h, congrArg Prod.snd h⟩ | exact e0 (congrArg Prod.snd h)); (exact g (by dsimp only at h; omega)))] at this; exact this⟩
                  clear n0 hx e0 g e3
                  have z5_0 : wr.cell? ⟨g5, 0, none⟩ = some (.int .i64 b0) := (blk_cell B5.out 0).trans rfl
                  have f5_0 := blk_frozen B5.out 0
                  have z5_1 : wr.cell? ⟨g5, 1, none⟩ = some (.int .i64 b1) := (blk_cell B5.out 1).trans rfl
                  have f5_1 := blk_frozen B5.out 1
                  have G0 := (gw_now hG HB.out).c0
                  have G1 := (gw_now hG HB.out).c1
                  clear hfi hn hF hI hN hX1 hX2
                  go_wp2
                  repeat (go_quiet (fail); try go_wp2)
                  go_roundg m
                  case measure => omega
                  case rel => exact ⟨f + 1, wrap64 (F + 1), b0, b1, (by first | rfl | (simp; done)), ⟨by have := HF.out; have := HA.out; rw [Go.IntWalk.wrap64_in _ (by omega)]; omega⟩, ⟨by have := HA.out; omega⟩, hP, ⟨by (with_reducible repeat (first | refine blk_drewN ?_ _ | refine blk_drew ?_ | refine blk_alloc ?_ _)); exact B4.out⟩, ⟨by (with_reducible repeat (first | refine blk_drewN ?_ _ | refine blk_drew ?_ | refine blk_alloc ?_ _)); exact B5.out⟩, ⟨by repeat (first | (with_reducible first | exact HB.out | apply below_alloc | apply pw_below_drewN | apply below_drew1 | refine below_set ?_ E5.out) | exact HB.out)⟩⟩
end Go.Proofs.YtpeeflkodpnbpaaDoor.Pr
