import Derived.Test.YtpeeflkodpnbpaaDoorHEarl
import Derived.Test.YtpeeflkodpnbpaaDoorPr0
import Derived.Test.YtpeeflkodpnbpaaDoorHWord
import Derived.Test.YtpeeflkodpnbpaaDoorPrA25
import Derived.Test.YtpeeflkodpnbpaaDoorPrA26
namespace Go.Proofs.YtpeeflkodpnbpaaDoor.Pr
open Go.RowKit Go.Proofs.YtpeeflkodpnbpaaDoorW.PrintWords Go.Proofs.YtpeeflkodpnbpaaDoorW.PrintLast Go.Proofs.YtpeeflkodpnbpaaDoorW.PrintMore
set_option linter.unusedVariables false
set_option linter.unusedSimpArgs false

/-- how many of the first k factors are single letters -/
def singN (l : List S63) : Nat → Int
  | 0 => 0
  | k + 1 => singN l k + (if (rd_T63 l (k : Int)).f0 = -1 ∧ (rd_T63 l (k : Int)).f1 = 1 then 1 else 0)
theorem singN_range (l : List S63) : ∀ k, 0 ≤ singN l k ∧ singN l k ≤ k
  | 0 => by simp [singN]
  | k + 1 => by
    have := singN_range l k
    rw [singN]
    split <;> omega

set_option maxHeartbeats 4000000 in
set_option maxRecDepth 1000000 in
theorem singles_calls (A : Option Addr) (c : Nat) (l : List S63) (w : World) (hG : GW w) (hr : Kd.C k63 w A l.length l) (hc : l.length ≤ c) (hl : l.length ≤ 17592186044416) :
    Calls Tryd.prog 85 #[.slice A l.length c] w fun e w' => e = .returned (.int .i64 (singN l l.length)) ∧ Below w.heap.size w w' := by
  obtain ⟨R, hR⟩ : ∃ R, singN l l.length = R := ⟨_, rfl⟩
  rw [hR]
  have hu63 := Tryd.underlying63
  have HB := Aside0.mk (Below.refl w.heap.size w)
  have HC2 := Aside0.mk hr
  have GP := Aside0.mk hG.sz
  have HRR := Aside0.mk hR
  clear hr hR
  go_enter Tryd.func85, Tryd.ntmps85
  go_wp2
  go_loopg [3, 8] l.length (fun q v3 v8 wx => ∃ (k : Nat) (K S : Int), v3 = .int .i64 S ∧ v8 = .int .i64 K ∧ Aside0 (K = (k : Int)) ∧ Aside0 (k + q = l.length) ∧ Aside0 (S = singN l k) ∧ Aside0 (Below w.heap.size w wx))
  case atStart => exact ⟨0, 0, 0, rfl, rfl, ⟨rfl⟩, ⟨by omega⟩, ⟨rfl⟩, ⟨(by repeat (first | (with_reducible first | exact HB.out | apply below_alloc | apply pw_below_drewN | apply below_drew1) | exact HB.out))⟩⟩
  case round =>
    clear HB
    obtain ⟨k, K, S, rfl, rfl, HK, HQ, HS, HB⟩ := hrel
    have hK := HK.out; have hQ := HQ.out
    cases gk with
    | zero =>
      have c1 : decide (K < (l.length : Int)) = false := decide_eq_false (by omega)
      have hS : S = R := by rw [HS.out, ← HRR.out]; congr 1
      subst hS
      clear hK hQ
      go_wp2
      go_ret
      exact ⟨rfl, HB.out⟩
    | succ q =>
      have c1 : decide (K < (l.length : Int)) = true := decide_eq_true (by omega)
      have p1 : 0 ≤ K := by omega
      have q1 : K < (l.length : Int) := by omega
      have HCl := Aside0.mk (Kd.C_below HC2.out HB.out)
      obtain ⟨ad, e, hx0, hx1⟩ := at_T63 HCl.out K p1 q1
      cases e
      have GS : Aside0 (0 < wr.heap.size) := ⟨(gw_now hG HB.out).sz⟩
      have G0 := (gw_now hG HB.out).c0
      have G1 := (gw_now hG HB.out).c1
      have hrg := singN_range l k
      have HK2 : Aside0 (wrap64 (K + 1) = ((k + 1 : Nat) : Int)) := ⟨by rw [Go.IntWalk.wrap64_in _ (by omega)]; omega⟩
      have HQ2 : Aside0 (k + 1 + q = l.length) := ⟨by omega⟩
      have HS1 : Aside0 (¬ ((rd_T63 l K).f0 = -1 ∧ (rd_T63 l K).f1 = 1) → S = singN l (k + 1)) := ⟨fun hh => by rw [singN, ← hK, if_neg hh, HS.out]; omega⟩
      have HS2 : Aside0 ((rd_T63 l K).f0 = -1 ∧ (rd_T63 l K).f1 = 1 → wrap64 (S + 1) = singN l (k + 1)) := ⟨fun hh => by rw [singN, ← hK, if_pos hh, ← HS.out, Go.IntWalk.wrap64_in _ (by have := HS.out; omega)]⟩
      replace p1 := eq_true p1
      replace q1 := eq_true q1
      clear hK hQ hrg
      obtain ⟨x0, hX0⟩ : ∃ x, (rd_T63 l K).f0 = x := ⟨_, rfl⟩
      obtain ⟨x1, hX1⟩ : ∃ x, (rd_T63 l K).f1 = x := ⟨_, rfl⟩
      rw [hX0] at hx0 HS1 HS2
      rw [hX1] at hx1 HS1 HS2
      clear hX0 hX1
      by_cases e0 : x0 = -1 ∧ x1 = 1
      · obtain ⟨rfl, rfl⟩ := e0
        have HS3 := Aside0.mk (HS2.out ⟨rfl, rfl⟩)
        clear HS1 HS2
        go_wp2_with (first | ((with_reducible refine gate_dst (N := 5) rfl ?_); refine box_event ?hg (N := 5) ?hd (cs := #[.int .i64 0, .int .i64 0]) (t := 63) ?hr ?_; (case hd => rfl); (case hg => rfl); (case hr => first | (go_simp; done) | (go_simp; rfl)); intro g5 hg5 wg5 hbox hb; have n1_ := Aside0.mk (below_step (by repeat (first | (with_reducible first | exact HB.out | apply below_alloc | apply pw_below_drewN | apply below_drew1) | exact HB.out)) hb); have n2_ := Aside0.mk (hbox); have n3_ := Aside0.mk ((by rw [hg5]; exact (below_size (by repeat (first | (with_reducible first | exact HB.out | apply below_alloc | apply pw_below_drewN | apply below_drew1) | exact HB.out))) : w.heap.size ≤ g5)); clear HB; have HB := n1_; have Bg5 := n2_; have E5 := n3_; clear n1_ n2_ n3_; have Z0 := (hb.cell (p := ⟨0, 0, none⟩) GS.out).trans G0; have Z1 := (hb.cell (p := ⟨0, 1, none⟩) GS.out).trans G1; clear hb hbox hg5; have zg5_0 : wg5.cell? ⟨g5, 0, none⟩ = some (.int .i64 0) := (blk_cell Bg5.out 0).trans rfl; have zg5_1 : wg5.cell? ⟨g5, 1, none⟩ = some (.int .i64 0) := (blk_cell Bg5.out 1).trans rfl; have fg5_0 := blk_frozen Bg5.out 0; have fg5_1 := blk_frozen Bg5.out 1; have hne_ : g5 ≠ 0 := by have := E5.out; have := GP.out; omega))
        repeat (go_quiet (fail); try go_wp2)
        go_roundg q
        case measure => omega
        case rel => exact ⟨k + 1, wrap64 (K + 1), wrap64 (S + 1), (by first | rfl | (simp; done)), (by first | rfl | (simp; done)), HK2, HQ2, HS3, ⟨by repeat (first | (with_reducible first | exact HB.out | apply below_alloc | apply pw_below_drewN | apply below_drew1 | refine below_set ?_ E5.out) | exact HB.out)⟩⟩
      · have HS3 := Aside0.mk (HS1.out e0)
        clear HS1 HS2
        by_cases e2 : x0 = -1
        · have kb : (x1 == 1) = false := beq_eq_false_iff_ne.mpr (fun h => e0 ⟨e2, h⟩)
          subst e2
          clear e0
          go_wp2_with (first | ((with_reducible refine gate_dst (N := 5) rfl ?_); refine box_event ?hg (N := 5) ?hd (cs := #[.int .i64 0, .int .i64 0]) (t := 63) ?hr ?_; (case hd => rfl); (case hg => rfl); (case hr => first | (go_simp; done) | (go_simp; rfl)); intro g5 hg5 wg5 hbox hb; have n1_ := Aside0.mk (below_step (by repeat (first | (with_reducible first | exact HB.out | apply below_alloc | apply pw_below_drewN | apply below_drew1) | exact HB.out)) hb); have n2_ := Aside0.mk (hbox); have n3_ := Aside0.mk ((by rw [hg5]; exact (below_size (by repeat (first | (with_reducible first | exact HB.out | apply below_alloc | apply pw_below_drewN | apply below_drew1) | exact HB.out))) : w.heap.size ≤ g5)); clear HB; have HB := n1_; have Bg5 := n2_; have E5 := n3_; clear n1_ n2_ n3_; have Z0 := (hb.cell (p := ⟨0, 0, none⟩) GS.out).trans G0; have Z1 := (hb.cell (p := ⟨0, 1, none⟩) GS.out).trans G1; clear hb hbox hg5; have zg5_0 : wg5.cell? ⟨g5, 0, none⟩ = some (.int .i64 0) := (blk_cell Bg5.out 0).trans rfl; have zg5_1 : wg5.cell? ⟨g5, 1, none⟩ = some (.int .i64 0) := (blk_cell Bg5.out 1).trans rfl; have fg5_0 := blk_frozen Bg5.out 0; have fg5_1 := blk_frozen Bg5.out 1; have hne_ : g5 ≠ 0 := by have := E5.out; have := GP.out; omega))
          repeat (go_quiet (fail); try go_wp2)
          go_roundg q
          case measure => omega
          case rel => exact ⟨k + 1, wrap64 (K + 1), S, (by first | rfl | (simp; done)), (by first | rfl | (simp; done)), HK2, HQ2, HS3, ⟨by repeat (first | (with_reducible first | exact HB.out | apply below_alloc | apply pw_below_drewN | apply below_drew1 | refine below_set ?_ E5.out) | exact HB.out)⟩⟩
        · have kb : (x0 == (-1)) = false := beq_eq_false_iff_ne.mpr e2
          clear e0 e2
          go_wp2_with (first | ((with_reducible refine gate_dst (N := 5) rfl ?_); refine box_event ?hg (N := 5) ?hd (cs := #[.int .i64 0, .int .i64 0]) (t := 63) ?hr ?_; (case hd => rfl); (case hg => rfl); (case hr => first | (go_simp; done) | (go_simp; rfl)); intro g5 hg5 wg5 hbox hb; have n1_ := Aside0.mk (below_step (by repeat (first | (with_reducible first | exact HB.out | apply below_alloc | apply pw_below_drewN | apply below_drew1) | exact HB.out)) hb); have n2_ := Aside0.mk (hbox); have n3_ := Aside0.mk ((by rw [hg5]; exact (below_size (by repeat (first | (with_reducible first | exact HB.out | apply below_alloc | apply pw_below_drewN | apply below_drew1) | exact HB.out))) : w.heap.size ≤ g5)); clear HB; have HB := n1_; have Bg5 := n2_; have E5 := n3_; clear n1_ n2_ n3_; have Z0 := (hb.cell (p := ⟨0, 0, none⟩) GS.out).trans G0; have Z1 := (hb.cell (p := ⟨0, 1, none⟩) GS.out).trans G1; clear hb hbox hg5; have zg5_0 : wg5.cell? ⟨g5, 0, none⟩ = some (.int .i64 0) := (blk_cell Bg5.out 0).trans rfl; have zg5_1 : wg5.cell? ⟨g5, 1, none⟩ = some (.int .i64 0) := (blk_cell Bg5.out 1).trans rfl; have fg5_0 := blk_frozen Bg5.out 0; have fg5_1 := blk_frozen Bg5.out 1; have hne_ : g5 ≠ 0 := by have := E5.out; have := GP.out; omega))
          repeat (go_quiet (fail); try go_wp2)
          go_roundg q
          case measure => omega
          case rel => exact ⟨k + 1, wrap64 (K + 1), S, (by first | rfl | (simp; done)), (by first | rfl | (simp; done)), HK2, HQ2, HS3, ⟨by repeat (first | (with_reducible first | exact HB.out | apply below_alloc | apply pw_below_drewN | apply below_drew1 | refine below_set ?_ E5.out) | exact HB.out)⟩⟩

/-! for the printer -/
def parse_singles.f (l : List S63) : Option Int := if l.length ≤ 17592186044416 then some (singN l l.length) else none
theorem parse_singles.calls (A : Option Addr) (c : Nat) (l : List S63) (r : Int) (w : World) (hG : GW w) (hr : Kd.C k63 w A l.length l) (hc : l.length ≤ c) (h : parse_singles.f l = some r) :
    Calls Tryd.prog 85 #[.slice A l.length c] w fun e w' => e = .returned (.int .i64 r) ∧ Below w.heap.size w w' := by
  unfold parse_singles.f at h
  by_cases hl : l.length ≤ 17592186044416
  · rw [if_pos hl] at h
    obtain rfl := Option.some.inj h
    exact singles_calls A c l w hG hr hc hl
  · rw [if_neg hl] at h
    cases h
end Go.Proofs.YtpeeflkodpnbpaaDoor.Pr
-- Laid by wip/tools/inj.py of this project, which drives the kit's printer. Lean checks it.
namespace Go.Proofs.YtpeeflkodpnbpaaDoor.Pr
open Go.RowKit Go.Proofs.YtpeeflkodpnbpaaDoorW.PrintWords Go.Proofs.YtpeeflkodpnbpaaDoorW.PrintLast Go.Proofs.YtpeeflkodpnbpaaDoorW.PrintMore
attribute [local go_sem] max2_int min2_int max_two min_two max_three min_three max_four min_four   -- for this text's walks alone
set_option linter.unusedVariables false
set_option linter.unusedSimpArgs false

/-! ### parse_Cost: function 56 -/
def parse_Cost.j0 : Nat → ByteArray → List (S63) → Int → Int → Bool → Option (Int × Int)
  | 0, _, _, _, _, _ => none
  | k + 1, x0, x1, x2, x3, x10 => if x10 = true then (some (0, 2)) else ((parse_isPlan.f k x0 x1).bind fun t796 => (if t796 = true then ((parse_singles.f x1).bind fun t797 => ((parse_singles.f x1).bind fun t798 => (some (wrap64 ((wrap64 (x2 * t797)) + (wrap64 (x3 * (wrap64 ((x1.length : Int) - t798))))), 0)))) else (some (0, 10))))
def parse_Cost.f (k : Nat) (a0 : ByteArray) (l1 : List (S63)) (a2 : Int) (a3 : Int) : Option (Int × Int) := (parse_isWord.f a0).bind fun t794 => (if t794 = true then ((parse_isPrice.f a2 a3).bind fun t795 => (parse_Cost.j0 k a0 l1 a2 a3 (!t795))) else (parse_Cost.j0 k a0 l1 a2 a3 true))
theorem parse_Cost.mono_l : ∀ k, (∀ y0 y1 y2 y3 y4, LeO (parse_Cost.j0 k y0 y1 y2 y3 y4) (parse_Cost.j0 (k + 1) y0 y1 y2 y3 y4))
  | 0 => fun _ _ _ _ _ r h => by simp [parse_Cost.j0] at h
  | k + 1 => by
    have ih0 := parse_Cost.mono_l k
    · intro y0 y1 y2 y3 y4
      unfold parse_Cost.j0
      repeat' first
      | (with_reducible exact ih0 _ _ _ _ _)
      | (with_reducible exact parse_isPlan.mono _ _ _)
      | (with_reducible exact LeO.refl _)
      | (with_reducible exact LeO.none _)
      | (with_reducible refine LeO.ite ?_ ?_)
      | (with_reducible refine LeO.bind ?_ (fun _ => ?_))
      | exact ih0 _ _ _ _ _
      | exact parse_isPlan.mono _ _ _
      | exact LeO.none _
      | refine LeO.ite ?_ ?_
      | refine LeO.bind ?_ (fun _ => ?_)
theorem parse_Cost.mono : ∀ a0 a1 a2 a3 k, LeO (parse_Cost.f k a0 a1 a2 a3) (parse_Cost.f (k + 1) a0 a1 a2 a3) := by
  intro a0 a1 a2 a3 k
  have ih0 := parse_Cost.mono_l k
  unfold parse_Cost.f
  repeat' first
      | (with_reducible exact ih0 _ _ _ _ _)
      | (with_reducible exact parse_isPlan.mono _ _ _)
      | (with_reducible exact LeO.refl _)
      | (with_reducible exact LeO.none _)
      | (with_reducible refine LeO.ite ?_ ?_)
      | (with_reducible refine LeO.bind ?_ (fun _ => ?_))
      | exact ih0 _ _ _ _ _
      | exact parse_isPlan.mono _ _ _
      | exact LeO.none _
      | refine LeO.ite ?_ ?_
      | refine LeO.bind ?_ (fun _ => ?_)
set_option maxHeartbeats 8000000 in
set_option maxRecDepth 100000 in
theorem parse_Cost.calls (k : Nat) (a0 : ByteArray) (A1 : Option Addr) (c1 : Nat) (l1 : List (S63)) (a2 : Int) (a3 : Int) (r1 : Int) (r2 : Int) (w : World) (hG : GW w) (hr1 : Kd.C k63 w A1 l1.length l1) (hc1 : l1.length ≤ c1) (h : parse_Cost.f k a0 l1 a2 a3 = some (r1, r2)) :
    Calls Tryd.prog 56 #[.string a0, .slice A1 l1.length c1, .int .i64 a2, .int .i64 a3] w fun e w' => e = .returned (.tuple #[.int .i64 r1, .int .i64 r2]) ∧ Below w.heap.size w w' := by
  have HR1 := Aside0.mk hr1
  have HC1 := Aside0.mk hc1
  clear hr1 hc1
  have HB := Aside0.mk (Below.refl w.heap.size w)
  have H : ((parse_isWord.f a0).bind fun t794 => (if t794 = true then ((parse_isPrice.f a2 a3).bind fun t795 => (parse_Cost.j0 k a0 l1 a2 a3 (!t795))) else (parse_Cost.j0 k a0 l1 a2 a3 true))) = some (r1, r2) := h
  clear h
  have HC5 := Aside0.mk H
  clear H
  go_enter Tryd.func56, Tryd.ntmps56
  go_upto_region 1 with (fail)
  go_cut [10] (fun v10 wc => ∃ (kq : Nat) (x10_4 : Bool), v10 = .bool x10_4 ∧ Aside0 (parse_Cost.j0 kq a0 l1 a2 a3 x10_4 = some (r1, r2)) ∧ Aside0 (kq ≤ k) ∧ Aside0 (Below w.heap.size w wc))
  case first =>
    have H := HC5.out
    clear HC5
    replace H := Option.bind_eq_some_iff.mp H
    obtain ⟨t794, A60, H⟩ := H
    replace H : (if t794 = true then ((parse_isPrice.f a2 a3).bind fun t795 => (parse_Cost.j0 k a0 l1 a2 a3 (!t795))) else (parse_Cost.j0 k a0 l1 a2 a3 true)) = some (r1, r2) := H
    have A6 := Aside0.mk A60
    clear A60
    by_cases c7 : t794 = true
    · subst c7
      have H1 : ((parse_isPrice.f a2 a3).bind fun t795 => (parse_Cost.j0 k a0 l1 a2 a3 (!t795))) = some (r1, r2) := by rw [if_pos rfl] at H; exact H
      clear H
      have H := H1
      clear H1
      replace H := Option.bind_eq_some_iff.mp H
      obtain ⟨t795, A80, H⟩ := H
      replace H : (parse_Cost.j0 k a0 l1 a2 a3 (!t795)) = some (r1, r2) := H
      have A8 := Aside0.mk A80
      clear A80
      have H' := Aside0.mk H
      clear H
      go_wp2_with (first | ((with_reducible refine gate_callee (f := 62) rfl ?_); refine goesL_ (some 12) rfl rfl Tryd.func62 (by kernel_rfl) rfl #[.string a0] rfl (by (try simp only [List.map_toArray, List.map_cons, List.map_nil]); first | done | rfl | (simp only [List.length_drop, List.length_take]; rfl)) ?_; (with_reducible refine (parse_isWord.calls a0 true _ A6.out).mono ?_); rintro e w9 ⟨rfl, hb⟩; refine ⟨_, rfl, ?_⟩; have n0_ := Aside0.mk (below_step (by repeat (first | (with_reducible first | exact HB.out | apply below_alloc | apply pw_below_drewN | apply below_drew1) | exact HB.out)) hb); clear HB; have HB := n0_; clear n0_; (try clear hb); (try clear hb2); (try clear hk); (try clear hi)) | (go_at_call 82; (with_reducible refine (parse_isPrice.calls a2 a3 t795 _ A8.out).mono ?_); rintro e w' ⟨rfl, ⟨nd, rfl⟩⟩))
      go_meet
      case rel => exact ⟨_, (!t795), (by first | rfl | (simp; done) | (simp [*]; done)), H', ⟨by first | omega | exact Nat.le_refl _⟩, ⟨by repeat (first | (with_reducible first | exact HB.out | apply below_alloc | apply pw_below_drewN | apply below_drew1) | exact HB.out)⟩⟩
    · replace c7 := Bool.eq_false_iff.mpr c7
      subst c7
      have H1 : (parse_Cost.j0 k a0 l1 a2 a3 true) = some (r1, r2) := by rw [if_neg (show ¬ (false = true) by decide)] at H; exact H
      clear H
      have H := H1
      clear H1
      have H' := Aside0.mk H
      clear H
      go_wp2_with (first | ((with_reducible refine gate_callee (f := 62) rfl ?_); refine goesL_ (some 12) rfl rfl Tryd.func62 (by kernel_rfl) rfl #[.string a0] rfl (by (try simp only [List.map_toArray, List.map_cons, List.map_nil]); first | done | rfl | (simp only [List.length_drop, List.length_take]; rfl)) ?_; (with_reducible refine (parse_isWord.calls a0 false _ A6.out).mono ?_); rintro e w10 ⟨rfl, hb⟩; refine ⟨_, rfl, ?_⟩; have n0_ := Aside0.mk (below_step (by repeat (first | (with_reducible first | exact HB.out | apply below_alloc | apply pw_below_drewN | apply below_drew1) | exact HB.out)) hb); clear HB; have HB := n0_; clear n0_; (try clear hb); (try clear hb2); (try clear hk); (try clear hi)))
      go_meet
      case rel => exact ⟨_, (true), (by first | rfl | (simp; done) | (simp [*]; done)), H', ⟨by first | omega | exact Nat.le_refl _⟩, ⟨by repeat (first | (with_reducible first | exact HB.out | apply below_alloc | apply pw_below_drewN | apply below_drew1) | exact HB.out)⟩⟩
  case rest =>
    clear HC5
    try clear c1
    try clear p2
    try clear c5
    try clear c6
    try clear c7
    obtain ⟨kq, x10_4, rfl, HA, HJ4, HB⟩ := hcut
    cases kq with
    | zero => exact absurd HA.out (by simp [parse_Cost.j0])
    | succ kj4 =>
      have H := HA.out
      clear HA
      simp only [parse_Cost.j0] at H
      by_cases c11 : x10_4 = true
      · subst c11
        have H1 : (some (0, 2)) = some (r1, r2) := by rw [if_pos rfl] at H; exact H
        clear H
        have H := H1
        clear H1
        simp only [Option.some.injEq, Prod.mk.injEq] at H
        obtain ⟨rfl, rfl⟩ := H
        go_wp2
        go_ret2
        exact ⟨by first | rfl | (simp [errW_none, errW_some] <;> rfl) | (simp [*, errW_none, errW_some] <;> rfl), by repeat (first | (with_reducible first | exact HB.out | apply below_alloc | apply pw_below_drewN | apply below_drew1) | exact HB.out)⟩
      · replace c11 := Bool.eq_false_iff.mpr c11
        subst c11
        have H1 : ((parse_isPlan.f kj4 a0 l1).bind fun t796 => (if t796 = true then ((parse_singles.f l1).bind fun t797 => ((parse_singles.f l1).bind fun t798 => (some (wrap64 ((wrap64 (a2 * t797)) + (wrap64 (a3 * (wrap64 ((l1.length : Int) - t798))))), 0)))) else (some (0, 10)))) = some (r1, r2) := by rw [if_neg (show ¬ (false = true) by decide)] at H; exact H
        clear H
        have H := H1
        clear H1
        replace H := Option.bind_eq_some_iff.mp H
        obtain ⟨t796, A120, H⟩ := H
        replace H : (if t796 = true then ((parse_singles.f l1).bind fun t797 => ((parse_singles.f l1).bind fun t798 => (some (wrap64 ((wrap64 (a2 * t797)) + (wrap64 (a3 * (wrap64 ((l1.length : Int) - t798))))), 0)))) else (some (0, 10))) = some (r1, r2) := H
        have A12 := Aside0.mk A120
        clear A120
        by_cases c13 : t796 = true
        · subst c13
          have H1 : ((parse_singles.f l1).bind fun t797 => ((parse_singles.f l1).bind fun t798 => (some (wrap64 ((wrap64 (a2 * t797)) + (wrap64 (a3 * (wrap64 ((l1.length : Int) - t798))))), 0)))) = some (r1, r2) := by rw [if_pos rfl] at H; exact H
          clear H
          have H := H1
          clear H1
          replace H := Option.bind_eq_some_iff.mp H
          obtain ⟨t797, A140, H⟩ := H
          replace H : ((parse_singles.f l1).bind fun t798 => (some (wrap64 ((wrap64 (a2 * t797)) + (wrap64 (a3 * (wrap64 ((l1.length : Int) - t798))))), 0))) = some (r1, r2) := H
          have A14 := Aside0.mk A140
          clear A140
          replace H := Option.bind_eq_some_iff.mp H
          obtain ⟨t798, A150, H⟩ := H
          replace H : (some (wrap64 ((wrap64 (a2 * t797)) + (wrap64 (a3 * (wrap64 ((l1.length : Int) - t798))))), 0)) = some (r1, r2) := H
          have A15 := Aside0.mk A150
          clear A150
          simp only [Option.some.injEq, Prod.mk.injEq] at H
          obtain ⟨rfl, rfl⟩ := H
          go_wp2_with (first | ((with_reducible refine gate_callee (f := 88) rfl ?_); refine goesL_ (some 23) rfl rfl Tryd.func88 (by kernel_rfl) rfl #[.string a0, .slice A1 l1.length c1] rfl (by (try simp only [List.map_toArray, List.map_cons, List.map_nil]); first | done | rfl | (simp only [List.length_drop, List.length_take]; rfl)) ?_; (with_reducible refine (parse_isPlan.calls kj4 a0 _ _ l1 true _ ?side1 ?side2 A12.out).mono ?_); (case side1 => repeat (first | exact (Kd.C_below HR1.out HB.out) | (with_reducible refine Kd.C_alloc ?_ _) | (with_reducible refine Kd.C_drewN ?_ _) | (with_reducible refine Kd.C_drew ?_))); (case side2 => exact HC1.out); rintro e w16 ⟨rfl, hb⟩; refine ⟨_, rfl, ?_⟩; have n0_ := Aside0.mk (below_step (by repeat (first | (with_reducible first | exact HB.out | apply below_alloc | apply pw_below_drewN | apply below_drew1) | exact HB.out)) hb); clear HB; have HB := n0_; clear n0_; (try clear hb); (try clear hb2); (try clear hk); (try clear hi)) | ((with_reducible refine gate_callee (f := 85) rfl ?_); refine goesL_ (some 27) rfl rfl Tryd.func85 (by kernel_rfl) rfl #[.slice A1 l1.length c1] rfl (by (try simp only [List.map_toArray, List.map_cons, List.map_nil]); first | done | rfl | (simp only [List.length_drop, List.length_take]; rfl)) ?_; (with_reducible refine (parse_singles.calls (hG := ?hg) _ _ l1 t797 _ ?side1 ?side2 A14.out).mono ?_); (case hg => exact gw_now hG (by repeat (first | (with_reducible first | exact HB.out | apply below_alloc | apply pw_below_drewN | apply below_drew1) | exact HB.out))); (case side1 => repeat (first | exact (Kd.C_below HR1.out HB.out) | (with_reducible refine Kd.C_alloc ?_ _) | (with_reducible refine Kd.C_drewN ?_ _) | (with_reducible refine Kd.C_drew ?_))); (case side2 => exact HC1.out); rintro e w17 ⟨rfl, hb⟩; refine ⟨_, rfl, ?_⟩; have n0_ := Aside0.mk (below_step (by repeat (first | (with_reducible first | exact HB.out | apply below_alloc | apply pw_below_drewN | apply below_drew1) | exact HB.out)) hb); clear HB; have HB := n0_; clear n0_; (try clear hb); (try clear hb2); (try clear hk); (try clear hi)) | ((with_reducible refine gate_callee (f := 85) rfl ?_); refine goesL_ (some 33) rfl rfl Tryd.func85 (by kernel_rfl) rfl #[.slice A1 l1.length c1] rfl (by (try simp only [List.map_toArray, List.map_cons, List.map_nil]); first | done | rfl | (simp only [List.length_drop, List.length_take]; rfl)) ?_; (with_reducible refine (parse_singles.calls (hG := ?hg) _ _ l1 t798 _ ?side1 ?side2 A15.out).mono ?_); (case hg => exact gw_now hG (by repeat (first | (with_reducible first | exact HB.out | apply below_alloc | apply pw_below_drewN | apply below_drew1) | exact HB.out))); (case side1 => repeat (first | exact (Kd.C_below HR1.out HB.out) | (with_reducible refine Kd.C_alloc ?_ _) | (with_reducible refine Kd.C_drewN ?_ _) | (with_reducible refine Kd.C_drew ?_))); (case side2 => exact HC1.out); rintro e w18 ⟨rfl, hb⟩; refine ⟨_, rfl, ?_⟩; have n0_ := Aside0.mk (below_step (by repeat (first | (with_reducible first | exact HB.out | apply below_alloc | apply pw_below_drewN | apply below_drew1) | exact HB.out)) hb); clear HB; have HB := n0_; clear n0_; (try clear hb); (try clear hb2); (try clear hk); (try clear hi)))
          go_ret2
          exact ⟨by first | rfl | (simp [errW_none, errW_some] <;> rfl) | (simp [*, errW_none, errW_some] <;> rfl), by repeat (first | (with_reducible first | exact HB.out | apply below_alloc | apply pw_below_drewN | apply below_drew1) | exact HB.out)⟩
        · replace c13 := Bool.eq_false_iff.mpr c13
          subst c13
          have H1 : (some (0, 10)) = some (r1, r2) := by rw [if_neg (show ¬ (false = true) by decide)] at H; exact H
          clear H
          have H := H1
          clear H1
          simp only [Option.some.injEq, Prod.mk.injEq] at H
          obtain ⟨rfl, rfl⟩ := H
          go_wp2_with (first | ((with_reducible refine gate_callee (f := 88) rfl ?_); refine goesL_ (some 23) rfl rfl Tryd.func88 (by kernel_rfl) rfl #[.string a0, .slice A1 l1.length c1] rfl (by (try simp only [List.map_toArray, List.map_cons, List.map_nil]); first | done | rfl | (simp only [List.length_drop, List.length_take]; rfl)) ?_; (with_reducible refine (parse_isPlan.calls kj4 a0 _ _ l1 false _ ?side1 ?side2 A12.out).mono ?_); (case side1 => repeat (first | exact (Kd.C_below HR1.out HB.out) | (with_reducible refine Kd.C_alloc ?_ _) | (with_reducible refine Kd.C_drewN ?_ _) | (with_reducible refine Kd.C_drew ?_))); (case side2 => exact HC1.out); rintro e w19 ⟨rfl, hb⟩; refine ⟨_, rfl, ?_⟩; have n0_ := Aside0.mk (below_step (by repeat (first | (with_reducible first | exact HB.out | apply below_alloc | apply pw_below_drewN | apply below_drew1) | exact HB.out)) hb); clear HB; have HB := n0_; clear n0_; (try clear hb); (try clear hb2); (try clear hk); (try clear hi)))
          go_ret2
          exact ⟨by first | rfl | (simp [errW_none, errW_some] <;> rfl) | (simp [*, errW_none, errW_some] <;> rfl), by repeat (first | (with_reducible first | exact HB.out | apply below_alloc | apply pw_below_drewN | apply below_drew1) | exact HB.out)⟩

end Go.Proofs.YtpeeflkodpnbpaaDoor.Pr
