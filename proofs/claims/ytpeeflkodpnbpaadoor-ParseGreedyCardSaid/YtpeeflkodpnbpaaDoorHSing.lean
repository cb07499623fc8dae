import Derived.Test.YtpeeflkodpnbpaaDoorHEarl
namespace Go.Proofs.YtpeeflkodpnbpaaDoor.Pr
open Go.RowKit Go.Proofs.YtpeeflkodpnbpaaDoorW.PrintWords Go.Proofs.YtpeeflkodpnbpaaDoorW.PrintLast Go.Proofs.YtpeeflkodpnbpaaDoorW.PrintMore
set_option linter.unusedVariables false
set_option linter.unusedSimpArgs false

/-- how many of the first k factors are single letters -/
def singN (l : List S63) : Nat → Int
  | 0 => 0
  | k + 1 => singN l k + (if (rd_T63 l (k : Int)).f0 = -1 ∧ (rd_T63 l (k : Int)).f1 = 1 then 1 else 0)
theorem singN_range (l : List S63) : ∀ k, 0 ≤ singN l k ∧ singN l k ≤ k
  | 0 => by simp [singN]
  | k + 1 => by
    have := singN_range l k
    rw [singN]
    split <;> omega

set_option maxHeartbeats 4000000 in
set_option maxRecDepth 1000000 in
theorem singles_calls (A : Option Addr) (c : Nat) (l : List S63) (w : World) (hG : GW w) (hr : Kd.C k63 w A l.length l) (hc : l.length ≤ c) (hl : l.length ≤ 17592186044416) :
    Calls Tryd.prog 85 #[.slice A l.length c] w fun e w' => e = .returned (.int .i64 (singN l l.length)) ∧ Below w.heap.size w w' := by
  obtain ⟨R, hR⟩ : ∃ R, singN l l.length = R := ⟨_, rfl⟩
  rw [hR]
  have hu63 := Tryd.underlying63
  have HB := Aside0.mk (Below.refl w.heap.size w)
  have HC2 := Aside0.mk hr
  have GP := Aside0.mk hG.sz
  have HRR := Aside0.mk hR
  clear hr hR
  go_enter Tryd.func85, Tryd.ntmps85
  go_wp2
  go_loopg [3, 8] l.length (fun q v3 v8 wx => ∃ (k : Nat) (K S : Int), v3 = .int .i64 S ∧ v8 = .int .i64 K ∧ Aside0 (K = (k : Int)) ∧ Aside0 (k + q = l.length) ∧ Aside0 (S = singN l k) ∧ Aside0 (Below w.heap.size w wx))
  case atStart => exact ⟨0, 0, 0, rfl, rfl, ⟨rfl⟩, ⟨by omega⟩, ⟨rfl⟩, ⟨(by repeat (first | (with_reducible first | exact HB.out | apply below_alloc | apply pw_below_drewN | apply below_drew1) | exact HB.out))⟩⟩
  case round =>
    clear HB
    obtain ⟨k, K, S, rfl, rfl, HK, HQ, HS, HB⟩ := hrel
    have hK := HK.out; have hQ := HQ.out
    cases gk with
    | zero =>
      have c1 : decide (K < (l.length : Int)) = false := decide_eq_false (by omega)
      have hS : S = R := by rw [HS.out, ← HRR.out]; congr 1
      subst hS
      clear hK hQ
      go_wp2
      go_ret
      exact ⟨rfl, HB.out⟩
    | succ q =>
      have c1 : decide (K < (l.length : Int)) = true := decide_eq_true (by omega)
      have p1 : 0 ≤ K := by omega
      have q1 : K < (l.length : Int) := by omega
      have HCl := Aside0.mk (Kd.C_below HC2.out HB.out)
      obtain ⟨ad, e, hx0, hx1⟩ := at_T63 HCl.out K p1 q1
      cases e
      have GS : Aside0 (0 < wr.heap.size) := ⟨(gw_now hG HB.out).sz⟩
      have G0 := (gw_now hG HB.out).c0
      have G1 := (gw_now hG HB.out).c1
      have hrg := singN_range l k
      have HK2 : Aside0 (wrap64 (K + 1) = ((k + 1 : Nat) : Int)) := ⟨by rw [Go.IntWalk.wrap64_in _ (by omega)]; omega⟩
      have HQ2 : Aside0 (k + 1 + q = l.length) := ⟨by omega⟩
      have HS1 : Aside0 (¬ ((rd_T63 l K).f0 = -1 ∧ (rd_T63 l K).f1 = 1) → S = singN l (k + 1)) := ⟨fun hh => by rw [singN, ← hK, if_neg hh, HS.out]; omega⟩
      have HS2 : Aside0 ((rd_T63 l K).f0 = -1 ∧ (rd_T63 l K).f1 = 1 → wrap64 (S + 1) = singN l (k + 1)) := ⟨fun hh => by rw [singN, ← hK, if_pos hh, ← HS.out, Go.IntWalk.wrap64_in _ (by have := HS.out; omega)]⟩
      replace p1 := eq_true p1
      replace q1 := eq_true q1
      clear hK hQ hrg
      obtain ⟨x0, hX0⟩ : ∃ x, (rd_T63 l K).f0 = x := ⟨_, rfl⟩
      obtain ⟨x1, hX1⟩ : ∃ x, (rd_T63 l K).f1 = x := ⟨_, rfl⟩
      rw [hX0] at hx0 HS1 HS2
      rw [hX1] at hx1 HS1 HS2
      clear hX0 hX1
      by_cases e0 : x0 = -1 ∧ x1 = 1
      · obtain ⟨rfl, rfl⟩ := e0
        have HS3 := Aside0.mk (HS2.out ⟨rfl, rfl⟩)
        clear HS1 HS2
        go_wp2_with (first | ((with_reducible refine gate_dst (N := 5) rfl ?_); refine box_event ?hg (N := 5) ?hd (cs := #[.int .i64 0, .int .i64 0]) (t := 63) ?hr ?_; (case hd => rfl); (case hg => rfl); (case hr => first | (go_simp; done) | (go_simp; rfl)); intro g5 hg5 wg5 hbox hb; have n1_ := Aside0.mk (below_step (by repeat (first | (with_reducible first | exact HB.out | apply below_alloc | apply pw_below_drewN | apply below_drew1) | exact HB.out)) hb); have n2_ := Aside0.mk (hbox); have n3_ := Aside0.mk ((by rw [hg5]; exact (below_size (by repeat (first | (with_reducible first | exact HB.out | apply below_alloc | apply pw_below_drewN | apply below_drew1) | exact HB.out))) : w.heap.size ≤ g5)); clear HB; have HB := n1_; have Bg5 := n2_; have E5 := n3_; clear n1_ n2_ n3_; have Z0 := (hb.cell (p := ⟨0, 0, none⟩) GS.out).trans G0; have Z1 := (hb.cell (p := ⟨0, 1, none⟩) GS.out).trans G1; clear hb hbox hg5; have zg5_0 : wg5.cell? ⟨g5, 0, none⟩ = some (.int .i64 0) := (blk_cell Bg5.out 0).trans rfl; have zg5_1 : wg5.cell? ⟨g5, 1, none⟩ = some (.int .i64 0) := (blk_cell Bg5.out 1).trans rfl; have fg5_0 := blk_frozen Bg5.out 0; have fg5_1 := blk_frozen Bg5.out 1; have hne_ : g5 ≠ 0 := by have := E5.out; have := GP.out; omega))
        repeat (go_quiet (fail); try go_wp2)
        go_roundg q
        case measure => omega
        case rel => exact ⟨k + 1, wrap64 (K + 1), wrap64 (S + 1), (by first | rfl | (simp; done)), (by first | rfl | (simp; done)), HK2, HQ2, HS3, ⟨by repeat (first | (with_reducible first | exact HB.out | apply below_alloc | apply pw_below_drewN | apply below_drew1 | refine below_set ?_ E5.out) | exact HB.out)⟩⟩
      · have HS3 := Aside0.mk (HS1.out e0)
        clear HS1 HS2
        by_cases e2 : x0 = -1
        · have kb : (x1 == 1) = false := beq_eq_false_iff_ne.mpr (fun h => e0 ⟨e2, h⟩)
          subst e2
          clear e0
          go_wp2_with (first | ((with_reducible refine gate_dst (N := 5) rfl ?_); refine box_event ?hg (N := 5) ?hd (cs := #[.int .i64 0, .int .i64 0]) (t := 63) ?hr ?_; (case hd => rfl); (case hg => rfl); (case hr => first | (go_simp; done) | (go_simp; rfl)); intro g5 hg5 wg5 hbox hb; have n1_ := Aside0.mk (below_step (by repeat (first | (with_reducible first | exact HB.out | apply below_alloc | apply pw_below_drewN | apply below_drew1) | exact HB.out)) hb); have n2_ := Aside0.mk (hbox); have n3_ := Aside0.mk ((by rw [hg5]; exact (below_size (by repeat (first | (with_reducible first | exact HB.out | apply below_alloc | apply pw_below_drewN | apply below_drew1) | exact HB.out))) : w.heap.size ≤ g5)); clear HB; have HB := n1_; have Bg5 := n2_; have E5 := n3_; clear n1_ n2_ n3_; have Z0 := (hb.cell (p := ⟨0, 0, none⟩) GS.out).trans G0; have Z1 := (hb.cell (p := ⟨0, 1, none⟩) GS.out).trans G1; clear hb hbox hg5; have zg5_0 : wg5.cell? ⟨g5, 0, none⟩ = some (.int .i64 0) := (blk_cell Bg5.out 0).trans rfl; have zg5_1 : wg5.cell? ⟨g5, 1, none⟩ = some (.int .i64 0) := (blk_cell Bg5.out 1).trans rfl; have fg5_0 := blk_frozen Bg5.out 0; have fg5_1 := blk_frozen Bg5.out 1; have hne_ : g5 ≠ 0 := by have := E5.out; have := GP.out; omega))
          repeat (go_quiet (fail); try go_wp2)
          go_roundg q
          case measure => omega
          case rel => exact ⟨k + 1, wrap64 (K + 1), S, (by first | rfl | (simp; done)), (by first | rfl | (simp; done)), HK2, HQ2, HS3, ⟨by repeat (first | (with_reducible first | exact HB.out | apply below_alloc | apply pw_below_drewN | apply below_drew1 | refine below_set ?_ E5.out) | exact HB.out)⟩⟩
        · have kb : (x0 == (-1)) = false := beq_eq_false_iff_ne.mpr e2
          clear e0 e2
          go_wp2_with (first | ((with_reducible refine gate_dst (N := 5) rfl ?_); refine box_event ?hg (N := 5) ?hd (cs := #[.int .i64 0, .int .i64 0]) (t := 63) ?hr ?_; (case hd => rfl); (case hg => rfl); (case hr => first | (go_simp; done) | (go_simp; rfl)); intro g5 hg5 wg5 hbox hb; have n1_ := Aside0.mk (below_step (by repeat (first | (with_reducible first | exact HB.out | apply below_alloc | apply pw_below_drewN | apply below_drew1) | exact HB.out)) hb); have n2_ := Aside0.mk (hbox); have n3_ := Aside0.mk ((by rw [hg5]; exact (below_size (by repeat (first | (with_reducible first | exact HB.out | apply below_alloc | apply pw_below_drewN | apply below_drew1) | exact HB.out))) : w.heap.size ≤ g5)); clear HB; have HB := n1_; have Bg5 := n2_; have E5 := n3_; clear n1_ n2_ n3_; have Z0 := (hb.cell (p := ⟨0, 0, none⟩) GS.out).trans G0; have Z1 := (hb.cell (p := ⟨0, 1, none⟩) GS.out).trans G1; clear hb hbox hg5; have zg5_0 : wg5.cell? ⟨g5, 0, none⟩ = some (.int .i64 0) := (blk_cell Bg5.out 0).trans rfl; have zg5_1 : wg5.cell? ⟨g5, 1, none⟩ = some (.int .i64 0) := (blk_cell Bg5.out 1).trans rfl; have fg5_0 := blk_frozen Bg5.out 0; have fg5_1 := blk_frozen Bg5.out 1; have hne_ : g5 ≠ 0 := by have := E5.out; have := GP.out; omega))
          repeat (go_quiet (fail); try go_wp2)
          go_roundg q
          case measure => omega
          case rel => exact ⟨k + 1, wrap64 (K + 1), S, (by first | rfl | (simp; done)), (by first | rfl | (simp; done)), HK2, HQ2, HS3, ⟨by repeat (first | (with_reducible first | exact HB.out | apply below_alloc | apply pw_below_drewN | apply below_drew1 | refine below_set ?_ E5.out) | exact HB.out)⟩⟩

/-! for the printer -/
def parse_singles.f (l : List S63) : Option Int := if l.length ≤ 17592186044416 then some (singN l l.length) else none
theorem parse_singles.calls (A : Option Addr) (c : Nat) (l : List S63) (r : Int) (w : World) (hG : GW w) (hr : Kd.C k63 w A l.length l) (hc : l.length ≤ c) (h : parse_singles.f l = some r) :
    Calls Tryd.prog 85 #[.slice A l.length c] w fun e w' => e = .returned (.int .i64 r) ∧ Below w.heap.size w w' := by
  unfold parse_singles.f at h
  by_cases hl : l.length ≤ 17592186044416
  · rw [if_pos hl] at h
    obtain rfl := Option.some.inj h
    exact singles_calls A c l w hG hr hc hl
  · rw [if_neg hl] at h
    cases h
end Go.Proofs.YtpeeflkodpnbpaaDoor.Pr
