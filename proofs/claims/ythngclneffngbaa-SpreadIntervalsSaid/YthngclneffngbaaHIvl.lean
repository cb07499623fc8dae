import Derived.Test.YthngclneffngbaaHRi
import Derived.Test.YthngclneffngbaaHRm
import Derived.Test.YthngclneffngbaaHRg
import Derived.Test.YthngclneffngbaaHAw
import Derived.Test.YthngclneffngbaaPrEq1
import Derived.Test.YthngclneffngbaaPrEq2
namespace Go.Proofs.Ythngclneffngbaa.Pr
open Go.RowKit Go.Proofs.YthngclneffngbaaW.PrintWords Go.Proofs.YthngclneffngbaaW.PrintLast Go.Proofs.YthngclneffngbaaW.PrintMore
set_option linter.unusedVariables false
set_option linter.unusedSimpArgs false
attribute [local go_sem high] eqA26 eqA50

theorem awake_anyI (w : World) : Calls Try.prog 22 #[] w fun e w' => e = .returned (.bool true) ∧ Below w.heap.size w w' := numnahlaw03_awake.calls 40 true w awake_run
set_option maxHeartbeats 4000000 in
set_option maxRecDepth 100000 in
theorem intervals_walk (a0 : Int) (A1 : Option Addr) (c1 : Nat) (l1 : List Int) (a2 : Int) (w : World) (hr1 : Kd.C (Kd.int .i64) w A1 l1.length l1) (hc1 : l1.length ≤ c1) (hl : l1.length * 8 ≤ 140737488351232)
    (d1 d2 p q e1 e2 e3 : Int) (gl ml : List Int) (okb : Bool) (f1 : spread_Interval.f a0 (l1.take 61) = some (d1, d2, p, q, e1)) (f2 : spread_Gaps.f a0 (l1.take 61) = some (gl, e2)) (f3 : spread_Move.f a0 (l1.take 61) a2 = some (ml, e3)) (f4 : ∃ k, numnahref03_Points.f k a0 (l1.take 61) = some okb)
    (hcase : (okb = false ∧ d1 = 0 ∧ d2 = 0 ∧ p = 0 ∧ q = 0 ∧ e1 = 2 ∧ gl = [] ∧ e2 = 2 ∧ ml = [] ∧ e3 = 2) ∨
      (okb = true ∧ e1 = 0 ∧ e2 = 0 ∧ e3 = 0 ∧ (∃ k, numnahref03_Interval.f k a0 (l1.take 61) = some (d1, d2, p, q)) ∧ (∃ k, numnahref03_Gaps.f k a0 (l1.take 61) = some gl) ∧ (∃ k, numnahref03_Move.f k a0 (l1.take 61) a2 = some ml) ∧ (∃ k, numnahlaw03_ints.f k gl gl = some true) ∧ (∃ k, numnahlaw03_ints.f k ml ml = some true))) :
    Calls Try.prog 16 #[.int .i64 a0, .slice A1 l1.length c1, .int .i64 a2] w fun e w' => e = .returned (.bool true) ∧ Below w.heap.size w w' := by
  have HR := Lib.hid hr1
  have HF1 := Lib.hid f1
  have HF2 := Lib.hid f2
  have HF3 := Lib.hid f3
  have HF4 := Lib.hid f4
  clear hr1 f1 f2 f3 f4
  have HLE := Lib.hid (list_eq l1 hl)
  obtain ⟨m, hm⟩ : ∃ m, m = l1.take 61 := ⟨_, rfl⟩
  rw [← hm] at HF1 HF2 HF3 HF4 HLE hcase
  have HM := Lib.hid hm
  have HCA := Lib.hid hcase
  clear hm hl hcase
  go_enter Try.func16, Try.ntmps16
  go_upto_region 2 with (go_at_call 23; refine (numnahlaw03_list.calls A1 c1 l1 m _ HR.out hc1 HLE.out).mono ?_; rintro e w1 ⟨v, rfl, hown, hb⟩)
  obtain ⟨A, c, rfl, hc, hC⟩ := Kd.R_reads hown
  have HC1 := Lib.hid hC
  have HB1 := Lib.hid hb
  clear hown hb hC
  go_upto_region 3 with (go_at_call 43; refine (spread_Interval.calls a0 A c m d1 d2 p q e1 _ HC1.out hc HF1.out).mono ?_; rintro e u2 ⟨rfl, hb⟩)
  obtain ⟨W2, hW2⟩ : ∃ W, W = (u2.alloc (.cells #[.int .i64 d1, .int .i64 d2] 26)).alloc (.cells #[.int .i64 p, .int .i64 q] 50) := ⟨_, rfl⟩
  rw [← hW2]
  have hb2 : Below w1.heap.size w1 W2 := hW2 ▸ below_alloc (below_alloc hb _) _
  have K8 := Lib.hid (show W2.heap[u2.heap.size]? = some (.cells #[.int .i64 d1, .int .i64 d2] 26 (0, 0)) from hW2 ▸ blk_alloc (blk_new u2 _) _)
  have K9 := Lib.hid (show W2.heap[u2.heap.size + 1]? = some (.cells #[.int .i64 p, .int .i64 q] 50 (0, 0)) by rw [hW2]; have := blk_new (u2.alloc (.cells #[.int .i64 d1, .int .i64 d2] 26)) (.cells #[.int .i64 p, .int .i64 q] 50); rw [World.size_alloc] at this; exact this)
  have HC2 := Lib.hid (Kd.C_below HC1.out hb2)
  have HB2 := Lib.hid (below_then HB1.out HB1.out.size hb2)
  obtain ⟨b8, hb8⟩ : ∃ b, b = u2.heap.size := ⟨_, rfl⟩
  rw [← hb8] at K8 K9 ⊢
  clear hW2 hb2 hb HC1 HB1 hb8
  go_upto_region 4 with (go_at_call 48; refine (spread_Gaps.calls a0 A c m gl e2 _ HC2.out hc HF2.out).mono ?_; rintro e W3 ⟨v3, rfl, hown, hb⟩)
  obtain ⟨Ag, cg, rfl, hcg, hC⟩ := Kd.R_reads hown
  have HG3 := Lib.hid hC
  have K8 := Lib.hid (blk_below K8.out hb)
  have K9 := Lib.hid (blk_below K9.out hb)
  have HC3 := Lib.hid (Kd.C_below HC2.out hb)
  have HB3 := Lib.hid (below_then HB2.out HB2.out.size hb)
  clear hown hC hb HC2 HB2
  go_upto_region 5 with (go_at_call 50; refine (spread_Move.calls a0 A c m a2 ml e3 _ HC3.out hc HF3.out).mono ?_; rintro e W4 ⟨v4, rfl, hown, hb⟩)
  obtain ⟨Am, cm, rfl, hcm, hC⟩ := Kd.R_reads hown
  have HM4 := Lib.hid hC
  have HG4 := Lib.hid (Kd.C_below HG3.out hb)
  have K8 := Lib.hid (blk_below K8.out hb)
  have K9 := Lib.hid (blk_below K9.out hb)
  have HC4 := Lib.hid (Kd.C_below HC3.out hb)
  have HB4 := Lib.hid (below_then HB3.out HB3.out.size hb)
  clear hown hC hb HC3 HB3 HG3
  obtain ⟨k4, f4⟩ := HF4.out
  have HF4 := Lib.hid f4
  clear f4
  rcases HCA.out with ⟨rfl, rfl, rfl, rfl, rfl, rfl, rfl, rfl, rfl, rfl⟩ | ⟨rfl, rfl, rfl, rfl, g1, g2, g3, g4, g5⟩
  · clear HCA
    go_upto_region 6 with (go_at_call 25; refine (numnahref03_Points.calls k4 a0 A c m false _ HC4.out hc HF4.out).mono ?_; rintro e W5 ⟨rfl, hd⟩)
    have hb := Drawn0.below hd
    have K8 := Lib.hid (blk_below K8.out hb)
    have K9 := Lib.hid (blk_below K9.out hb)
    have HB5 := Lib.hid (below_then HB4.out HB4.out.size hb)
    clear hd hb
    have c1 := blk_cell K8.out 0
    have c2 := blk_cell K8.out 1
    have c3 := blk_cell K9.out 0
    have c4 := blk_cell K9.out 1
    go_wp2_with (go_at_call 22; refine (awake_anyI _).mono ?_; rintro e u9 ⟨rfl, hb9⟩)
    go_ret
    exact ⟨rfl, below_then HB5.out HB5.out.size hb9⟩
  · obtain ⟨k1, g1⟩ := g1
    obtain ⟨k2, g2⟩ := g2
    obtain ⟨k3, g3⟩ := g3
    obtain ⟨k5, g4⟩ := g4
    obtain ⟨k6, g5⟩ := g5
    have G1 := Lib.hid g1
    have G2 := Lib.hid g2
    have G3 := Lib.hid g3
    have G4 := Lib.hid g4
    have G5 := Lib.hid g5
    clear HCA g1 g2 g3 g4 g5
    go_upto_region 7 with (go_at_call 25; refine (numnahref03_Points.calls k4 a0 A c m true _ HC4.out hc HF4.out).mono ?_; rintro e W5 ⟨rfl, hd⟩)
    have hb := Drawn0.below hd
    have K8 := Lib.hid (blk_below K8.out hb)
    have K9 := Lib.hid (blk_below K9.out hb)
    have HB5 := Lib.hid (below_then HB4.out HB4.out.size hb)
    have HC5 := Lib.hid (Kd.C_below HC4.out hb)
    have HM5 := Lib.hid (Kd.C_below HM4.out hb)
    have HG5 := Lib.hid (Kd.C_below HG4.out hb)
    clear hd hb HC4 HM4 HG4 HB4
    go_upto_region 8 with (go_at_call 52; refine (numnahref03_Interval.calls k1 a0 A c m d1 d2 p q _ HC5.out hc G1.out).mono ?_; rintro e u6 ⟨rfl, hb⟩)
    obtain ⟨W6, hW6⟩ : ∃ W, W = (u6.alloc (.cells #[.int .i64 d1, .int .i64 d2] 26)).alloc (.cells #[.int .i64 p, .int .i64 q] 50) := ⟨_, rfl⟩
    rw [← hW6]
    have hb2 : Below W5.heap.size W5 W6 := hW6 ▸ below_alloc (below_alloc hb _) _
    have K15 := Lib.hid (show W6.heap[u6.heap.size]? = some (.cells #[.int .i64 d1, .int .i64 d2] 26 (0, 0)) from hW6 ▸ blk_alloc (blk_new u6 _) _)
    have K16 := Lib.hid (show W6.heap[u6.heap.size + 1]? = some (.cells #[.int .i64 p, .int .i64 q] 50 (0, 0)) by rw [hW6]; have := blk_new (u6.alloc (.cells #[.int .i64 d1, .int .i64 d2] 26)) (.cells #[.int .i64 p, .int .i64 q] 50); rw [World.size_alloc] at this; exact this)
    have K8 := Lib.hid (blk_below K8.out hb2)
    have K9 := Lib.hid (blk_below K9.out hb2)
    have HB6 := Lib.hid (below_then HB5.out HB5.out.size hb2)
    have HC6 := Lib.hid (Kd.C_below HC5.out hb2)
    have HM6 := Lib.hid (Kd.C_below HM5.out hb2)
    have HG6 := Lib.hid (Kd.C_below HG5.out hb2)
    obtain ⟨b15, hb15⟩ : ∃ b, b = u6.heap.size := ⟨_, rfl⟩
    rw [← hb15] at K15 K16 ⊢
    clear hW6 hb2 hb HC5 HM5 HG5 HB5 hb15
    have i1 := blk_cell K8.out 0
    have i2 := blk_cell K8.out 1
    have i3 := blk_cell K9.out 0
    have i4 := blk_cell K9.out 1
    have i5 := blk_cell K15.out 0
    have i6 := blk_cell K15.out 1
    have i7 := blk_cell K16.out 0
    have i8 := blk_cell K16.out 1
    go_wp2_with (first
      | (go_at_call 53; refine (numnahref03_Gaps.calls k2 a0 A c m gl _ HC6.out hc G2.out).mono ?_; rintro e W7 ⟨v5, rfl, hown, hb⟩; obtain ⟨A5, c5, rfl, hc5, hC⟩ := Kd.R_reads hown; have HN7 := Lib.hid hC; have HG7 := Lib.hid (Kd.C_below HG6.out hb); have HM7 := Lib.hid (Kd.C_below HM6.out hb); have HC7 := Lib.hid (Kd.C_below HC6.out hb); have HB7 := Lib.hid (below_then HB6.out HB6.out.size hb); clear hown hC hb HG6 HM6 HC6 HB6)
      | (go_at_call 49; (with_reducible refine (numnahlaw03_ints.calls k5 Ag cg gl A5 c5 gl true _ HG7.out hcg HN7.out hc5 G4.out).mono ?_); rintro e W8 ⟨rfl, hd⟩; have hb := Drawn0.below hd; have HM8 := Lib.hid (Kd.C_below HM7.out hb); have HC8 := Lib.hid (Kd.C_below HC7.out hb); have HB8 := Lib.hid (below_then HB7.out HB7.out.size hb); clear hd hb HG7 HM7 HC7 HB7 HN7)
      | (go_at_call 54; refine (numnahref03_Move.calls k3 a0 A c m a2 ml _ HC8.out hc G3.out).mono ?_; rintro e W9 ⟨v6, rfl, hown, hb⟩; obtain ⟨A6, c6, rfl, hc6, hC⟩ := Kd.R_reads hown; have HN9 := Lib.hid hC; have HM9 := Lib.hid (Kd.C_below HM8.out hb); have HB9 := Lib.hid (below_then HB8.out HB8.out.size hb); clear hown hC hb HM8 HC8 HB8)
      | (go_at_call 49; (with_reducible refine (numnahlaw03_ints.calls k6 Am cm ml A6 c6 ml true _ HM9.out hcm HN9.out hc6 G5.out).mono ?_); rintro e W10 ⟨rfl, hd⟩; have hb := Drawn0.below hd; have HB10 := Lib.hid (below_then HB9.out HB9.out.size hb); clear hd hb HM9 HN9 HB9)
      | (go_at_call 22; refine (awake_anyI _).mono ?_; rintro e u11 ⟨rfl, hb11⟩))
    go_ret
    exact ⟨rfl, below_then HB10.out HB10.out.size hb11⟩
end Go.Proofs.Ythngclneffngbaa.Pr
