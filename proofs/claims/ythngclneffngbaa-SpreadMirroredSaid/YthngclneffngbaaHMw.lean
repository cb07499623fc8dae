import Derived.Test.YthngclneffngbaaHMd
import Derived.Test.YthngclneffngbaaHOr
import Derived.Test.YthngclneffngbaaHAw
import Derived.Test.YthngclneffngbaaPrEq1
import Derived.Test.YthngclneffngbaaPrEq2
namespace Go.Proofs.Ythngclneffngbaa.Pr
open Go.RowKit Go.Proofs.YthngclneffngbaaW.PrintWords Go.Proofs.YthngclneffngbaaW.PrintLast Go.Proofs.YthngclneffngbaaW.PrintMore
set_option linter.unusedVariables false
set_option linter.unusedSimpArgs false
attribute [local go_sem high] eqA26 eqA50

theorem awake_anyM (w : World) : Calls Try.prog 22 #[] w fun e w' => e = .returned (.bool true) ∧ Below w.heap.size w w' := numnahlaw03_awake.calls 40 true w awake_run
/-- the facts of SpreadMirrored's true path -/
structure MirF (a0 : Int) (l1 l2 : List Int) (s : Int) (l o gl : List Int) (d1 d2 e1 e2 at_ : Int) (low : Bool) (p1 q1 p2 q2 p3 q3 : Int) : Prop where
  tame : ∃ k, numnahlaw03_tame.f k a0 l1 300 = some (s, l)
  order : ∃ k, numnahlaw03_order.f k l2 l.length = some o
  olen : o.length = l.length
  orng : ∀ i : Int, 0 ≤ i → i < o.length → 0 ≤ rd o i ∧ rd o i < l.length
  srng : 1 ≤ s ∧ s ≤ 300
  llen : 1 ≤ l.length ∧ l.length ≤ 60
  lrng : ∀ i : Int, 0 ≤ i → i < l.length → 0 ≤ rd l i ∧ rd l i ≤ s - 1
  i1 : spread_Interval.f s l = some (d1, d2, p1, q1, 0)
  i2 : spread_Interval.f s (l.map (turnF s)) = some (d1, d2, p2, q2, 0)
  i3 : spread_Interval.f s (o.map (rd l)) = some (d1, d2, p3, q3, 0)
  g1 : spread_Gaps.f s l = some (gl, 0)
  g2 : spread_Gaps.f s (l.map (turnF s)) = some (gl, 0)
  n1 : spread_Line.f s l = some (e1, e2, at_, low, 0)
  n2 : spread_Line.f s (o.map (rd l)) = some (e1, e2, at_, low, 0)
  ints : ∃ k, numnahlaw03_ints.f k gl gl = some true
set_option maxHeartbeats 4000000 in
set_option maxRecDepth 100000 in
theorem mirrored_walk (a0 : Int) (A1 : Option Addr) (c1 : Nat) (l1 : List Int) (A2 : Option Addr) (c2 : Nat) (l2 : List Int) (w : World) (hr1 : Kd.C (Kd.int .i64) w A1 l1.length l1) (hc1 : l1.length ≤ c1) (hr2 : Kd.C (Kd.int .i64) w A2 l2.length l2) (hc2 : l2.length ≤ c2)
    (s : Int) (l o gl : List Int) (d1 d2 e1 e2 at_ : Int) (low : Bool) (p1 q1 p2 q2 p3 q3 : Int) (hf : MirF a0 l1 l2 s l o gl d1 d2 e1 e2 at_ low p1 q1 p2 q2 p3 q3) :
    Calls Try.prog 15 #[.int .i64 a0, .slice A1 l1.length c1, .slice A2 l2.length c2] w fun e w' => e = .returned (.bool true) ∧ Below w.heap.size w w' := by
  have HR := Lib.hid hr1
  have HR2 := Lib.hid hr2
  have HF := Lib.hid hf
  clear hr1 hr2 hf
  obtain ⟨k0, hk0⟩ := HF.out.tame
  obtain ⟨k1, hk1⟩ := HF.out.order
  obtain ⟨k2, hk2⟩ := HF.out.ints
  have HK0 := Lib.hid hk0
  have HK1 := Lib.hid hk1
  have HK2 := Lib.hid hk2
  clear hk0 hk1 hk2
  go_enter Try.func15, Try.ntmps15
  go_upto_region 2 with (go_at_call 18; refine (numnahlaw03_tame.calls k0 a0 A1 c1 l1 300 s l _ HR.out hc1 HK0.out).mono ?_; rintro e w1 ⟨v, rfl, hown, hb⟩)
  obtain ⟨A, c, rfl, hc, hC⟩ := Kd.R_reads hown
  have HC1 := Lib.hid hC
  have HB1 := Lib.hid hb
  have HR21 := Lib.hid (Kd.C_below HR2.out hb)
  clear hown hb hC HR HR2
  go_upto_region 3 with (go_at_call 51; refine (numnahlaw03_order.calls k1 A2 c2 l2 l.length o _ HR21.out hc2 HK1.out).mono ?_; rintro e w2 ⟨v, rfl, hown, hb⟩)
  obtain ⟨Ao, co, rfl, hco, hCo⟩ := Kd.R_reads hown
  have HO2 := Lib.hid hCo
  have HC2 := Lib.hid (Kd.C_below HC1.out hb)
  have HB2 := Lib.hid (below_then HB1.out HB1.out.size hb)
  clear hown hb hCo HC1 HB1 HR21
  have hlen := HF.out.llen
  obtain ⟨hlen0, hlen1⟩ := hlen
  have hol := HF.out.olen
  have HOL := Lib.hid hol
  clear hol
  go_wp2
  go_loopw [9, 10, 11] (fun vt vm i wr => ∃ k : Int, 0 ≤ k ∧ k ≤ l.length ∧ i = .int .i64 k ∧ Kd.R (Kd.int .i64) 3 wr w2.heap.size (fun q => True ∧ some q ≠ vm.ownBlock) vt ((l.take k.toNat).map (turnF s)) ∧ Kd.R (Kd.int .i64) 3 wr w2.heap.size (fun q => True ∧ some q ≠ vt.ownBlock) vm ((o.take k.toNat).map (rd l)) ∧ Below w2.heap.size w2 wr) (fun _ _ i _ => l.length - (intOf i).toNat)
  case atStart => exact ⟨0, by omega, by omega, rfl, by simpa using Kd.R_nil _ _ _ _ _, by simpa using Kd.R_nil _ _ _ _ _, Below.refl _ _⟩
  case round =>
    obtain ⟨k, hk0, hk1, rfl, ht, hm, hb⟩ := hrel
    have HT := Lib.hid ht
    have HM := Lib.hid hm
    have HB := Lib.hid hb
    clear ht hm hb
    by_cases hlt : k < l.length
    · have hr := HF.out.lrng k hk0 hlt
      obtain ⟨hr0, hr1⟩ := hr
      have hs := HF.out.srng
      obtain ⟨hs0, hs1⟩ := hs
      obtain ⟨ad, eA, hx⟩ := Kd.at_int (Kd.C_below HC2.out HB.out) k hk0 hlt
      subst eA
      have z1 : wrap64 (s - 1) = s - 1 := w64 (by omega) (by omega)
      have hst : (l.take (k + 1).toNat).map (turnF s) = (l.take k.toNat).map (turnF s) ++ [turnF s (rd l k)] := by
        have e := take_succ_rd l k.toNat (by omega)
        rw [Int.toNat_of_nonneg hk0] at e
        rw [show (k + 1).toNat = k.toNat + 1 by omega, e, List.map_append]
        rfl
      have hso : (o.take (k + 1).toNat).map (rd l) = (o.take k.toNat).map (rd l) ++ [rd l (rd o k)] := by
        have := HOL.out
        have e := take_succ_rd o k.toNat (by omega)
        rw [Int.toNat_of_nonneg hk0] at e
        rw [show (k + 1).toNat = k.toNat + 1 by omega, e, List.map_append]
        rfl
      have HS := Lib.hid hst
      have HSO := Lib.hid hso
      clear hst hso
      have hko : k < (o.length : Int) := by have := HOL.out; omega
      go_wp2_with (first
        | ((with_reducible refine gate_builtin (b := .append) (xs := #[.tmp 49, .tmp 57]) rfl ?_); at_builtin; refine Kd.R_append (Kd.int .i64) (w0 := w2) w2.heap.size rfl (.tmp 49) (.tmp 57) 22 3 (.int .i64 0) 8 rfl Try.underlying22 info3 rfl (by decide) (by omega) u9 ((l.take k.toNat).map (turnF s)) (s - 1 - rd l k) [.int .i64 (s - 1 - rd l k)] (fun q => True ∧ some q ≠ u10.ownBlock) (fun _ => False) rfl rfl ?aP (fun _ hk => hk.elim) ?aF ?aO ?aB ?aS ?aL ?_; (case aP => exact rfl); (case aB => repeat (first | exact HB.out | apply below_alloc)); (case aF => exact (fun q hq => ⟨trivial, fun he => by have h1 := Kd.R_lt HM.out _ he.symm; have h2 : wr.heap.size ≤ q := hq; omega⟩)); (case aO => repeat (first | exact HT.out | apply Kd.R_alloc)); (case aS => exact HB.out.size); (case aL => simp; omega); intro v3 W3 ho hb hg hat; have HT3 := Lib.hid ho; have HM3 := Lib.hid (Kd.R_after HM.out hg hat); have HB3 := Lib.hid hb; clear ho hb hg hat; clear hx z1; obtain ⟨ao, eO, hox⟩ := Kd.at_int (Kd.C_below HO2.out HB3.out) k hk0 (by have := HOL.out; omega); subst eO; have hor := HF.out.orng k hk0 (by have := HOL.out; omega); obtain ⟨hor0, hor1⟩ := hor; obtain ⟨ad2, eA2, hx2⟩ := Kd.at_int (Kd.C_below HC2.out HB3.out) (rd o k) hor0 hor1; injection eA2 with eA2; subst eA2; obtain ⟨z, hz⟩ : ∃ z, z = rd l (rd o k) := ⟨_, rfl⟩; rw [← hz] at hx2; have HZ := Lib.hid hz; clear hz)
        | ((with_reducible refine gate_builtin (b := .append) (xs := #[.tmp 59, .tmp 67]) rfl ?_); at_builtin; refine Kd.R_append (Kd.int .i64) (w0 := w2) w2.heap.size rfl (.tmp 59) (.tmp 67) 22 3 (.int .i64 0) 8 rfl Try.underlying22 info3 rfl (by decide) (by omega) u10 ((o.take k.toNat).map (rd l)) z [.int .i64 z] (fun q => True ∧ some q ≠ v3.ownBlock) (fun _ => False) rfl rfl ?aP (fun _ hk => hk.elim) ?aF ?aO ?aB ?aS ?aL ?_; (case aP => exact rfl); (case aB => repeat (first | exact HB3.out | apply below_alloc)); (case aF => exact (fun q hq => ⟨trivial, fun he => by have h1 := Kd.R_lt HT3.out _ he.symm; have h2 : W3.heap.size ≤ q := hq; omega⟩)); (case aO => repeat (first | exact HM3.out | apply Kd.R_alloc)); (case aS => exact HB3.out.size); (case aL => have := HOL.out; simp; omega); intro v4 W4 ho hb hg hat; have HM4 := Lib.hid ho; have HT4 := Lib.hid (Kd.R_after HT3.out hg hat); have HB4 := Lib.hid hb; clear ho hb hg hat))
      have z3 : wrap64 (k + 1) = k + 1 := w64 (by omega) (by omega)
      go_roundw
      case rel => exact ⟨k + 1, by omega, by omega, rfl, by rw [HS.out]; exact HT4.out, by rw [HSO.out, ← HZ.out]; exact HM4.out, HB4.out⟩
      case measure => simp [intOf]; omega
    · have hk : k = l.length := by omega
      subst hk
      have ht := HT.out
      have hm := HM.out
      rw [show ((l.length : Int)).toNat = l.length by simp, List.take_length] at ht
      rw [show ((l.length : Int)).toNat = o.length by have := HOL.out; omega, List.take_length] at hm
      have i1 := HF.out.i1
      have i2 := HF.out.i2
      have i3 := HF.out.i3
      have g1 := HF.out.g1
      have g2 := HF.out.g2
      have n1 := HF.out.n1
      have n2 := HF.out.n2
      obtain ⟨tu, htu⟩ : ∃ t, t = l.map (turnF s) := ⟨_, rfl⟩
      obtain ⟨mi, hmi⟩ : ∃ t, t = o.map (rd l) := ⟨_, rfl⟩
      rw [← htu] at ht i2 g2
      rw [← hmi] at hm i3 n2
      obtain ⟨At, ct, rfl, hct, hCt⟩ := Kd.R_reads ht
      obtain ⟨Am, cm, rfl, hcm, hCm⟩ := Kd.R_reads hm
      have HCl := Lib.hid (Kd.C_below HC2.out HB.out)
      have HCt := Lib.hid hCt
      have HCm := Lib.hid hCm
      have HBw := Lib.hid (below_then HB2.out HB2.out.size HB.out)
      have I1 := Lib.hid i1
      have I2 := Lib.hid i2
      have I3 := Lib.hid i3
      have G1 := Lib.hid g1
      have G2 := Lib.hid g2
      have N1 := Lib.hid n1
      have N2 := Lib.hid n2
      clear ht hm i1 i2 i3 g1 g2 n1 n2 htu hmi hCt hCm HT HM HC2 HB HO2 HB2 hlt hk0 hk1
      go_upto_region 10 with (go_at_call 43; refine (spread_Interval.calls s A c l d1 d2 p1 q1 0 _ HCl.out hc I1.out).mono ?_; rintro e x1 ⟨rfl, hb⟩)
      obtain ⟨Y1, hY⟩ : ∃ W, W = (x1.alloc (.cells #[.int .i64 d1, .int .i64 d2] 26)).alloc (.cells #[.int .i64 p1, .int .i64 q1] 50) := ⟨_, rfl⟩
      rw [← hY]
      have hb2 := hY ▸ below_alloc (below_alloc hb (.cells #[.int .i64 d1, .int .i64 d2] 26)) (.cells #[.int .i64 p1, .int .i64 q1] 50)
      have HCl := Lib.hid (Kd.C_below HCl.out hb2)
      have HCt := Lib.hid (Kd.C_below HCt.out hb2)
      have HCm := Lib.hid (Kd.C_below HCm.out hb2)
      have HBw := Lib.hid (below_then HBw.out HBw.out.size hb2)
      have K12 := Lib.hid (show Y1.heap[x1.heap.size]? = some (.cells #[.int .i64 d1, .int .i64 d2] 26 (0, 0)) from hY ▸ blk_alloc (blk_new x1 _) _)
      obtain ⟨z1, hz⟩ : ∃ b, b = x1.heap.size := ⟨_, rfl⟩
      rw [← hz] at K12 ⊢
      clear hY hb2 hb hz
      go_upto_region 11 with (go_at_call 43; refine (spread_Interval.calls s At ct tu d1 d2 p2 q2 0 _ HCt.out hct I2.out).mono ?_; rintro e x2 ⟨rfl, hb⟩)
      obtain ⟨Y2, hY⟩ : ∃ W, W = (x2.alloc (.cells #[.int .i64 d1, .int .i64 d2] 26)).alloc (.cells #[.int .i64 p2, .int .i64 q2] 50) := ⟨_, rfl⟩
      rw [← hY]
      have hb2 := hY ▸ below_alloc (below_alloc hb (.cells #[.int .i64 d1, .int .i64 d2] 26)) (.cells #[.int .i64 p2, .int .i64 q2] 50)
      have K12 := Lib.hid (blk_below K12.out hb2)
      have HCl := Lib.hid (Kd.C_below HCl.out hb2)
      have HCt := Lib.hid (Kd.C_below HCt.out hb2)
      have HCm := Lib.hid (Kd.C_below HCm.out hb2)
      have HBw := Lib.hid (below_then HBw.out HBw.out.size hb2)
      have K15 := Lib.hid (show Y2.heap[x2.heap.size]? = some (.cells #[.int .i64 d1, .int .i64 d2] 26 (0, 0)) from hY ▸ blk_alloc (blk_new x2 _) _)
      obtain ⟨z2, hz⟩ : ∃ b, b = x2.heap.size := ⟨_, rfl⟩
      rw [← hz] at K15 ⊢
      clear hY hb2 hb hz
      go_upto_region 12 with (go_at_call 43; refine (spread_Interval.calls s Am cm mi d1 d2 p3 q3 0 _ HCm.out hcm I3.out).mono ?_; rintro e x3 ⟨rfl, hb⟩)
      obtain ⟨Y3, hY⟩ : ∃ W, W = (x3.alloc (.cells #[.int .i64 d1, .int .i64 d2] 26)).alloc (.cells #[.int .i64 p3, .int .i64 q3] 50) := ⟨_, rfl⟩
      rw [← hY]
      have hb2 := hY ▸ below_alloc (below_alloc hb (.cells #[.int .i64 d1, .int .i64 d2] 26)) (.cells #[.int .i64 p3, .int .i64 q3] 50)
      have K12 := Lib.hid (blk_below K12.out hb2)
      have K15 := Lib.hid (blk_below K15.out hb2)
      have HCl := Lib.hid (Kd.C_below HCl.out hb2)
      have HCt := Lib.hid (Kd.C_below HCt.out hb2)
      have HCm := Lib.hid (Kd.C_below HCm.out hb2)
      have HBw := Lib.hid (below_then HBw.out HBw.out.size hb2)
      have K18 := Lib.hid (show Y3.heap[x3.heap.size]? = some (.cells #[.int .i64 d1, .int .i64 d2] 26 (0, 0)) from hY ▸ blk_alloc (blk_new x3 _) _)
      obtain ⟨z3, hz⟩ : ∃ b, b = x3.heap.size := ⟨_, rfl⟩
      rw [← hz] at K18 ⊢
      clear hY hb2 hb hz
      go_upto_region 13 with (go_at_call 48; refine (spread_Gaps.calls s A c l gl 0 _ HCl.out hc G1.out).mono ?_; rintro e Y4 ⟨y4, rfl, hown, hb⟩)
      obtain ⟨Ag4, cg4, rfl, hcg4, hC⟩ := Kd.R_reads hown
      have K12 := Lib.hid (blk_below K12.out hb)
      have K15 := Lib.hid (blk_below K15.out hb)
      have K18 := Lib.hid (blk_below K18.out hb)
      have HCl := Lib.hid (Kd.C_below HCl.out hb)
      have HCt := Lib.hid (Kd.C_below HCt.out hb)
      have HCm := Lib.hid (Kd.C_below HCm.out hb)
      have HBw := Lib.hid (below_then HBw.out HBw.out.size hb)
      have HX := Lib.hid hC
      clear hown hC hb
      go_upto_region 14 with (go_at_call 48; refine (spread_Gaps.calls s At ct tu gl 0 _ HCt.out hct G2.out).mono ?_; rintro e Y5 ⟨y5, rfl, hown, hb⟩)
      obtain ⟨Ag5, cg5, rfl, hcg5, hC⟩ := Kd.R_reads hown
      have K12 := Lib.hid (blk_below K12.out hb)
      have K15 := Lib.hid (blk_below K15.out hb)
      have K18 := Lib.hid (blk_below K18.out hb)
      have HCl := Lib.hid (Kd.C_below HCl.out hb)
      have HCt := Lib.hid (Kd.C_below HCt.out hb)
      have HCm := Lib.hid (Kd.C_below HCm.out hb)
      have HX := Lib.hid (Kd.C_below HX.out hb)
      have HBw := Lib.hid (below_then HBw.out HBw.out.size hb)
      have HY := Lib.hid hC
      clear hown hC hb
      go_upto_region 15 with (go_at_call 20; refine (spread_Line.calls s A c l e1 e2 at_ low 0 _ HCl.out hc N1.out).mono ?_; rintro e x6 ⟨rfl, hb⟩)
      obtain ⟨Y6, hY⟩ : ∃ W, W = x6.alloc (.cells #[.int .i64 e1, .int .i64 e2] 26) := ⟨_, rfl⟩
      rw [← hY]
      have hb2 := hY ▸ below_alloc hb (.cells #[.int .i64 e1, .int .i64 e2] 26)
      have K12 := Lib.hid (blk_below K12.out hb2)
      have K15 := Lib.hid (blk_below K15.out hb2)
      have K18 := Lib.hid (blk_below K18.out hb2)
      have HCl := Lib.hid (Kd.C_below HCl.out hb2)
      have HCt := Lib.hid (Kd.C_below HCt.out hb2)
      have HCm := Lib.hid (Kd.C_below HCm.out hb2)
      have HX := Lib.hid (Kd.C_below HX.out hb2)
      have HY := Lib.hid (Kd.C_below HY.out hb2)
      have HBw := Lib.hid (below_then HBw.out HBw.out.size hb2)
      have K25 := Lib.hid (show Y6.heap[x6.heap.size]? = some (.cells #[.int .i64 e1, .int .i64 e2] 26 (0, 0)) from hY ▸ blk_new x6 _)
      obtain ⟨z6, hz⟩ : ∃ b, b = x6.heap.size := ⟨_, rfl⟩
      rw [← hz] at K25 ⊢
      clear hY hb2 hb hz
      go_upto_region 16 with (go_at_call 20; refine (spread_Line.calls s Am cm mi e1 e2 at_ low 0 _ HCm.out hcm N2.out).mono ?_; rintro e x7 ⟨rfl, hb⟩)
      obtain ⟨Y7, hY⟩ : ∃ W, W = x7.alloc (.cells #[.int .i64 e1, .int .i64 e2] 26) := ⟨_, rfl⟩
      rw [← hY]
      have hb2 := hY ▸ below_alloc hb (.cells #[.int .i64 e1, .int .i64 e2] 26)
      have K12 := Lib.hid (blk_below K12.out hb2)
      have K15 := Lib.hid (blk_below K15.out hb2)
      have K18 := Lib.hid (blk_below K18.out hb2)
      have K25 := Lib.hid (blk_below K25.out hb2)
      have HCl := Lib.hid (Kd.C_below HCl.out hb2)
      have HCt := Lib.hid (Kd.C_below HCt.out hb2)
      have HCm := Lib.hid (Kd.C_below HCm.out hb2)
      have HX := Lib.hid (Kd.C_below HX.out hb2)
      have HY := Lib.hid (Kd.C_below HY.out hb2)
      have HBw := Lib.hid (below_then HBw.out HBw.out.size hb2)
      have K29 := Lib.hid (show Y7.heap[x7.heap.size]? = some (.cells #[.int .i64 e1, .int .i64 e2] 26 (0, 0)) from hY ▸ blk_new x7 _)
      obtain ⟨z7, hz⟩ : ∃ b, b = x7.heap.size := ⟨_, rfl⟩
      rw [← hz] at K29 ⊢
      clear hY hb2 hb hz
      have a0 := blk_cell K12.out 0
      have b0 := blk_cell K12.out 1
      have a1 := blk_cell K15.out 0
      have b1 := blk_cell K15.out 1
      have a2 := blk_cell K18.out 0
      have b2 := blk_cell K18.out 1
      have a3 := blk_cell K25.out 0
      have b3 := blk_cell K25.out 1
      have a4 := blk_cell K29.out 0
      have b4 := blk_cell K29.out 1
      go_wp2_with (first
        | (go_at_call 49; (with_reducible refine (numnahlaw03_ints.calls k2 Ag4 cg4 gl Ag5 cg5 gl true _ HX.out hcg4 HY.out hcg5 HK2.out).mono ?_); rintro e W8 ⟨rfl, hd⟩; have hb := Drawn0.below hd; have K25 := Lib.hid (blk_below K25.out hb); have K29 := Lib.hid (blk_below K29.out hb); have HBw := Lib.hid (below_then HBw.out HBw.out.size hb); clear hd hb; have a5 := blk_cell K25.out 0; have b5 := blk_cell K25.out 1; have a6 := blk_cell K29.out 0; have b6 := blk_cell K29.out 1)
        | (go_at_call 22; refine (awake_anyM _).mono ?_; rintro e u11 ⟨rfl, hb11⟩))
      go_ret
      exact ⟨rfl, below_then HBw.out HBw.out.size hb11⟩
end Go.Proofs.Ythngclneffngbaa.Pr
