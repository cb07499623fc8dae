import Derived.Test.YthngclneffngbaaHFl
import Derived.Test.YthngclneffngbaaHAw
import Derived.Test.YthngclneffngbaaPrEq1
import Derived.Test.YthngclneffngbaaPrEq2
namespace Go.Proofs.Ythngclneffngbaa.Pr
open Go.RowKit Go.Proofs.YthngclneffngbaaW.PrintWords Go.Proofs.YthngclneffngbaaW.PrintLast Go.Proofs.YthngclneffngbaaW.PrintMore
set_option linter.unusedVariables false
set_option linter.unusedSimpArgs false
attribute [local go_sem high] eqA26 eqA50

theorem awake_anyF (w : World) : Calls Try.prog 22 #[] w fun e w' => e = .returned (.bool true) ∧ Below w.heap.size w w' := numnahlaw03_awake.calls 40 true w awake_run
/-- the second number of place i -/
def flY (s : Int) (more : List Int) (i : Int) : Int := if i < more.length then modF (rd more i) s else 0
def flF (l : List Int) (k : Nat) : List S50 := (List.range k).map (fun j : Nat => ⟨rd l (j : Int), 0⟩)
def flB (s : Int) (l more : List Int) (k : Nat) : List S50 := (List.range k).map (fun j : Nat => ⟨rd l (j : Int), flY s more j⟩)
def flT (s : Int) (l more : List Int) (k : Nat) : List S50 := (List.range k).map (fun j : Nat => ⟨flY s more j, rd l (j : Int)⟩)
theorem flF_succ (l : List Int) (k : Nat) : flF l (k + 1) = flF l k ++ [⟨rd l (k : Int), 0⟩] := by simp [flF, List.range_succ]
theorem flB_succ (s : Int) (l more : List Int) (k : Nat) : flB s l more (k + 1) = flB s l more k ++ [⟨rd l (k : Int), flY s more k⟩] := by simp [flB, List.range_succ]
theorem flT_succ (s : Int) (l more : List Int) (k : Nat) : flT s l more (k + 1) = flT s l more k ++ [⟨flY s more k, rd l (k : Int)⟩] := by simp [flT, List.range_succ]
theorem flF_len (l : List Int) (k : Nat) : (flF l k).length = k := by simp [flF]
theorem flB_len (s : Int) (l more : List Int) (k : Nat) : (flB s l more k).length = k := by simp [flB]
theorem flT_len (s : Int) (l more : List Int) (k : Nat) : (flT s l more k).length = k := by simp [flT]
theorem flY_range (s : Int) (more : List Int) (i : Int) (hs : 1 ≤ s) : 0 ≤ flY s more i ∧ flY s more i ≤ s - 1 := by
  unfold flY
  split
  · have := modF_range (rd more i) s hs
    omega
  · omega
/-- the first k of the turned ones, from behind -/
def flR (t : List S50) (k : Nat) : List S50 := (t.reverse).take k
theorem flR_succ (t : List S50) (k : Nat) (h : k < t.length) : flR t (k + 1) = flR t k ++ [rd_T50 t ((t.length : Int) - 1 - k)] := by
  unfold flR
  rw [List.take_succ_eq_append_getElem (by simpa using h), List.getElem_reverse]
  congr 2
  have e : (((t.length : Int) - 1 - k)).toNat = t.length - 1 - k := by omega
  unfold rd_T50
  rw [e, List.getD_eq_getElem?_getD, List.getElem?_eq_getElem (by omega)]
  rfl
/-- the facts of SpreadFlat's true path -/
structure FlatF (a0 : Int) (l1 more : List Int) (s : Int) (l : List Int) (d1 d2 a1 a2 b1 b2 : Int) (dp : Int) (dq : Bool) (p1 q1 p2 q2 p3 q3 : Int) (o1 o2 o3 : Bool) : Prop where
  tame : ∃ k, numnahlaw03_tame.f k a0 l1 30 = some (s, l)
  srng : 1 ≤ s ∧ s ≤ 30
  llen : 1 ≤ l.length ∧ l.length ≤ 60
  line : spread_Line.f s l = some (d1, d2, dp, dq, 0)
  flat : spread_Sheet.f s (flF l l.length) = some (a1, a2, p1, q1, o1, 0)
  both : spread_Sheet.f s (flB s l more l.length) = some (b1, b2, p2, q2, o2, 0)
  back : spread_Sheet.f s (flT s l more l.length).reverse = some (b1, b2, p3, q3, o3, 0)
  less : numnahlaw03_less.f a1 a2 d1 d2 = some false
set_option maxHeartbeats 8000000 in
set_option maxRecDepth 100000 in
theorem flat_walk (a0 : Int) (A1 : Option Addr) (c1 : Nat) (l1 : List Int) (A2 : Option Addr) (c2 : Nat) (more : List Int) (w : World) (hr1 : Kd.C (Kd.int .i64) w A1 l1.length l1) (hc1 : l1.length ≤ c1) (hr2 : Kd.C (Kd.int .i64) w A2 more.length more) (hc2 : more.length ≤ c2) (hm2 : more.length * 8 ≤ 140737488351232)
    (s : Int) (l : List Int) (d1 d2 a1 a2 b1 b2 : Int) (dp : Int) (dq : Bool) (p1 q1 p2 q2 p3 q3 : Int) (o1 o2 o3 : Bool) (hf : FlatF a0 l1 more s l d1 d2 a1 a2 b1 b2 dp dq p1 q1 p2 q2 p3 q3 o1 o2 o3) :
    Calls Try.prog 12 #[.int .i64 a0, .slice A1 l1.length c1, .slice A2 more.length c2] w fun e w' => e = .returned (.bool true) ∧ Below w.heap.size w w' := by
  have HR := Lib.hid hr1
  have HR2 := Lib.hid hr2
  have HF := Lib.hid hf
  have HM2 := Lib.hid hm2
  clear hr1 hr2 hf hm2
  obtain ⟨k0, hk0⟩ := HF.out.tame
  have HK0 := Lib.hid hk0
  clear hk0
  go_enter Try.func12, Try.ntmps12
  go_upto_region 2 with (go_at_call 18; refine (numnahlaw03_tame.calls k0 a0 A1 c1 l1 30 s l _ HR.out hc1 HK0.out).mono ?_; rintro e w2 ⟨v, rfl, hown, hb⟩)
  obtain ⟨A, c, rfl, hc, hC⟩ := Kd.R_reads hown
  have HC2 := Lib.hid hC
  have HB2 := Lib.hid hb
  have HR22 := Lib.hid (Kd.C_below HR2.out hb)
  clear hown hb hC HR HR2
  have hlen := HF.out.llen
  obtain ⟨hlen0, hlen1⟩ := hlen
  have hs := HF.out.srng
  obtain ⟨hs0, hs1⟩ := hs
  go_wp2
  go_loopw [8, 9, 10, 11] (fun vf vb vt i wr => ∃ k : Int, 0 ≤ k ∧ k ≤ l.length ∧ i = .int .i64 k ∧ Kd.R k50 50 wr w2.heap.size (fun q => (True ∧ some q ≠ vb.ownBlock) ∧ some q ≠ vt.ownBlock) vf (flF l k.toNat) ∧ Kd.R k50 50 wr w2.heap.size (fun q => (True ∧ some q ≠ vf.ownBlock) ∧ some q ≠ vt.ownBlock) vb (flB s l more k.toNat) ∧ Kd.R k50 50 wr w2.heap.size (fun q => (True ∧ some q ≠ vf.ownBlock) ∧ some q ≠ vb.ownBlock) vt (flT s l more k.toNat) ∧ Below w2.heap.size w2 wr) (fun _ _ _ i _ => l.length - (intOf i).toNat)
  case atStart => exact ⟨0, by omega, by omega, rfl, by simpa [flF] using Kd.R_nil _ _ _ _ _, by simpa [flB] using Kd.R_nil _ _ _ _ _, by simpa [flT] using Kd.R_nil _ _ _ _ _, Below.refl _ _⟩
  case round =>
    obtain ⟨k, hk0, hk1, rfl, h1, h2, h3, hb⟩ := hrel
    have HF1 := Lib.hid h1
    have HB1 := Lib.hid h2
    have HT1 := Lib.hid h3
    have HB := Lib.hid hb
    clear h1 h2 h3 hb
    by_cases hlt : k < l.length
    · obtain ⟨ad, eA, hx⟩ := Kd.at_int (Kd.C_below HC2.out HB.out) k hk0 hlt
      subst eA
      have z1 : wrap64 (k + 1) = k + 1 := w64 (by omega) (by omega)
      have e1 := flF_succ l k.toNat
      have e2 := flB_succ s l more k.toNat
      have e3 := flT_succ s l more k.toNat
      rw [Int.toNat_of_nonneg hk0, show k.toNat + 1 = (k + 1).toNat by omega] at e1 e2 e3
      have E1 := Lib.hid e1
      have E2 := Lib.hid e2
      have E3 := Lib.hid e3
      clear e1 e2 e3
      obtain ⟨y, hy⟩ : ∃ y, y = flY s more k := ⟨_, rfl⟩
      have HY := Lib.hid hy
      clear hy
      obtain ⟨v, hv⟩ : ∃ v, v = rd l k := ⟨_, rfl⟩
      rw [← hv] at hx
      have HV := Lib.hid hv
      clear hv
      by_cases hmo : k < more.length
      · obtain ⟨ad2, eA2, hx2⟩ := Kd.at_int (Kd.C_below HR22.out HB.out) k hk0 hmo
        subst eA2
        have hmy : numnahlaw03_mod.f (rd more k) s = some y := by rw [HY.out, flY, if_pos hmo]; exact mod_eq _ _ (by omega) (by omega)
        have HMY := Lib.hid hmy
        clear hmy
        go_wp2_with (first
          | (go_at_call 36; refine (numnahlaw03_mod.calls (rd more k) s y _ HMY.out).mono ?_; rintro e w' ⟨rfl, ⟨⟨nd, rfl⟩⟩⟩; have HF1m := Lib.hid (Kd.R_drewN HF1.out nd); have HB1m := Lib.hid (Kd.R_drewN HB1.out nd); have HT1m := Lib.hid (Kd.R_drewN HT1.out nd); have HBm := Lib.hid (pw_below_drewN HB.out nd))
          | ((with_reducible refine gate_builtin (b := .append) (xs := #[.tmp 53, .tmp 59]) rfl ?_); at_builtin; refine Kd.R_append k50 (w0 := w2) w2.heap.size rfl (.tmp 53) (.tmp 59) 46 50 (.agg #[(.int .i64 0), (.int .i64 0)]) 16 rfl Try.underlying46 info50 rfl (by decide) (by omega) u8 (flF l k.toNat) (⟨v, 0⟩ : S50) [.int .i64 v, .int .i64 0] (fun q => (True ∧ some q ≠ u9.ownBlock) ∧ some q ≠ u10.ownBlock) (fun _ => False) rfl rfl ?aP (fun _ hk => hk.elim) ?aF ?aO ?aB ?aS ?aL ?_; (case aP => exact k50_mkM _ _ _ (⟨v, 0⟩ : S50)); (case aB => exact HBm.out); (case aF => exact (fun q hq => ⟨⟨trivial, fun he => by have h1 := Kd.R_lt HB1m.out _ he.symm; have h2 : (wr.drewN nd).heap.size ≤ q := hq; omega⟩, fun he => by have h1 := Kd.R_lt HT1m.out _ he.symm; have h2 : (wr.drewN nd).heap.size ≤ q := hq; omega⟩)); (case aO => exact HF1m.out); (case aS => exact HBm.out.size); (case aL => first | (rw [flF_len]; omega) | (rw [flB_len]; omega) | (rw [flT_len]; omega)); intro v3 W3 ho hb hg hat; have HF3 := Lib.hid ho; have HB3 := Lib.hid (Kd.R_after (ok := fun q => True ∧ some q ≠ u10.ownBlock) (Kd.R_mono HB1m.out (fun q hk => ⟨⟨trivial, hk.2⟩, hk.1.2⟩)) hg hat); have HT3 := Lib.hid (Kd.R_after (ok := fun q => True ∧ some q ≠ u9.ownBlock) (Kd.R_mono HT1m.out (fun q hk => ⟨⟨trivial, hk.2⟩, hk.1.2⟩)) hg hat); have HBB3 := Lib.hid hb; clear ho hb hg hat; obtain ⟨ad3, eA3, hx3⟩ := Kd.at_int (Kd.C_below HC2.out HBB3.out) k hk0 hlt; injection eA3 with eA3; subst eA3; rw [← HV.out] at hx3)
          | ((with_reducible refine gate_builtin (b := .append) (xs := #[.tmp 61, .tmp 68]) rfl ?_); at_builtin; refine Kd.R_append k50 (w0 := w2) w2.heap.size rfl (.tmp 61) (.tmp 68) 46 50 (.agg #[(.int .i64 0), (.int .i64 0)]) 16 rfl Try.underlying46 info50 rfl (by decide) (by omega) u9 (flB s l more k.toNat) (⟨v, y⟩ : S50) [.int .i64 v, .int .i64 y] (fun q => (True ∧ some q ≠ v3.ownBlock) ∧ some q ≠ u10.ownBlock) (fun _ => False) rfl rfl ?aP (fun _ hk => hk.elim) ?aF ?aO ?aB ?aS ?aL ?_; (case aP => exact k50_mkM _ _ _ (⟨v, y⟩ : S50)); (case aB => exact HBB3.out); (case aF => exact (fun q hq => ⟨⟨trivial, fun he => by have h1 := Kd.R_lt HF3.out _ he.symm; have h2 : W3.heap.size ≤ q := hq; omega⟩, fun he => by have h1 := Kd.R_lt HT3.out _ he.symm; have h2 : W3.heap.size ≤ q := hq; omega⟩)); (case aO => exact (Lib.hid (Kd.R_mono HB3.out (fun q hk => ⟨⟨trivial, hk.2⟩, hk.1.2⟩) : Kd.R k50 50 W3 w2.heap.size (fun q => (True ∧ some q ≠ v3.ownBlock) ∧ some q ≠ u10.ownBlock) u9 (flB s l more k.toNat))).out); (case aS => exact HBB3.out.size); (case aL => first | (rw [flF_len]; omega) | (rw [flB_len]; omega) | (rw [flT_len]; omega)); intro v4 W4 ho hb hg hat; have HB4 := Lib.hid ho; have HF4 := Lib.hid (Kd.R_after (ok := fun q => True ∧ some q ≠ u10.ownBlock) (Kd.R_mono HF3.out (fun q hk => ⟨⟨trivial, hk.2⟩, hk.1.2⟩)) hg hat); have HT4 := Lib.hid (Kd.R_after (ok := fun q => True ∧ some q ≠ v3.ownBlock) (Kd.R_mono HT3.out (fun q hk => ⟨⟨trivial, hk.2⟩, hk.1.2⟩)) hg hat); have HBB4 := Lib.hid hb; clear ho hb hg hat; clear hx3; obtain ⟨ad4, eA4, hx4⟩ := Kd.at_int (Kd.C_below HC2.out HBB4.out) k hk0 hlt; injection eA4 with eA4; subst eA4; rw [← HV.out] at hx4)
          | ((with_reducible refine gate_builtin (b := .append) (xs := #[.tmp 70, .tmp 77]) rfl ?_); at_builtin; refine Kd.R_append k50 (w0 := w2) w2.heap.size rfl (.tmp 70) (.tmp 77) 46 50 (.agg #[(.int .i64 0), (.int .i64 0)]) 16 rfl Try.underlying46 info50 rfl (by decide) (by omega) u10 (flT s l more k.toNat) (⟨y, v⟩ : S50) [.int .i64 y, .int .i64 v] (fun q => (True ∧ some q ≠ v3.ownBlock) ∧ some q ≠ v4.ownBlock) (fun _ => False) rfl rfl ?aP (fun _ hk => hk.elim) ?aF ?aO ?aB ?aS ?aL ?_; (case aP => exact k50_mkM _ _ _ (⟨y, v⟩ : S50)); (case aB => exact HBB4.out); (case aF => exact (fun q hq => ⟨⟨trivial, fun he => by have h1 := Kd.R_lt HF4.out _ he.symm; have h2 : W4.heap.size ≤ q := hq; omega⟩, fun he => by have h1 := Kd.R_lt HB4.out _ he.symm; have h2 : W4.heap.size ≤ q := hq; omega⟩)); (case aO => exact (Lib.hid (HT4.out : Kd.R k50 50 W4 w2.heap.size (fun q => (True ∧ some q ≠ v3.ownBlock) ∧ some q ≠ v4.ownBlock) u10 (flT s l more k.toNat))).out); (case aS => exact HBB4.out.size); (case aL => first | (rw [flF_len]; omega) | (rw [flB_len]; omega) | (rw [flT_len]; omega)); intro v5 W5 ho hb hg hat; have HT5 := Lib.hid ho; have HF5 := Lib.hid (Kd.R_after (ok := fun q => True ∧ some q ≠ v4.ownBlock) (Kd.R_mono HF4.out (fun q hk => ⟨⟨trivial, hk.2⟩, hk.1.2⟩)) hg hat); have HB5 := Lib.hid (Kd.R_after (ok := fun q => True ∧ some q ≠ v3.ownBlock) (Kd.R_mono HB4.out (fun q hk => ⟨⟨trivial, hk.1.2⟩, hk.2⟩)) hg hat); have HBB5 := Lib.hid hb; clear ho hb hg hat))
        go_roundw
        case rel => exact ⟨k + 1, by omega, by omega, rfl, by rw [E1.out, ← HV.out]; exact Kd.R_mono HF5.out (fun q hk => ⟨⟨trivial, hk.1.2⟩, hk.2⟩), by rw [E2.out, ← HV.out, ← HY.out]; exact Kd.R_mono HB5.out (fun q hk => ⟨⟨trivial, hk.1.2⟩, hk.2⟩), by rw [E3.out, ← HV.out, ← HY.out]; exact Kd.R_mono HT5.out (fun q hk => ⟨⟨trivial, hk.1.2⟩, hk.2⟩), HBB5.out⟩
        case measure => simp [intOf]; omega
      · have hy0 : y = 0 := by rw [HY.out, flY, if_neg hmo]
        subst hy0
        go_wp2_with (first
          | ((with_reducible refine gate_builtin (b := .append) (xs := #[.tmp 53, .tmp 59]) rfl ?_); at_builtin; refine Kd.R_append k50 (w0 := w2) w2.heap.size rfl (.tmp 53) (.tmp 59) 46 50 (.agg #[(.int .i64 0), (.int .i64 0)]) 16 rfl Try.underlying46 info50 rfl (by decide) (by omega) u8 (flF l k.toNat) (⟨v, 0⟩ : S50) [.int .i64 v, .int .i64 0] (fun q => (True ∧ some q ≠ u9.ownBlock) ∧ some q ≠ u10.ownBlock) (fun _ => False) rfl rfl ?aP (fun _ hk => hk.elim) ?aF ?aO ?aB ?aS ?aL ?_; (case aP => exact k50_mkM _ _ _ (⟨v, 0⟩ : S50)); (case aB => exact HB.out); (case aF => exact (fun q hq => ⟨⟨trivial, fun he => by have h1 := Kd.R_lt HB1.out _ he.symm; have h2 : wr.heap.size ≤ q := hq; omega⟩, fun he => by have h1 := Kd.R_lt HT1.out _ he.symm; have h2 : wr.heap.size ≤ q := hq; omega⟩)); (case aO => exact HF1.out); (case aS => exact HB.out.size); (case aL => first | (rw [flF_len]; omega) | (rw [flB_len]; omega) | (rw [flT_len]; omega)); intro v3 W3 ho hb hg hat; have HF3 := Lib.hid ho; have HB3 := Lib.hid (Kd.R_after (ok := fun q => True ∧ some q ≠ u10.ownBlock) (Kd.R_mono HB1.out (fun q hk => ⟨⟨trivial, hk.2⟩, hk.1.2⟩)) hg hat); have HT3 := Lib.hid (Kd.R_after (ok := fun q => True ∧ some q ≠ u9.ownBlock) (Kd.R_mono HT1.out (fun q hk => ⟨⟨trivial, hk.2⟩, hk.1.2⟩)) hg hat); have HBB3 := Lib.hid hb; clear ho hb hg hat; obtain ⟨ad3, eA3, hx3⟩ := Kd.at_int (Kd.C_below HC2.out HBB3.out) k hk0 hlt; injection eA3 with eA3; subst eA3; rw [← HV.out] at hx3)
          | ((with_reducible refine gate_builtin (b := .append) (xs := #[.tmp 61, .tmp 68]) rfl ?_); at_builtin; refine Kd.R_append k50 (w0 := w2) w2.heap.size rfl (.tmp 61) (.tmp 68) 46 50 (.agg #[(.int .i64 0), (.int .i64 0)]) 16 rfl Try.underlying46 info50 rfl (by decide) (by omega) u9 (flB s l more k.toNat) (⟨v, 0⟩ : S50) [.int .i64 v, .int .i64 0] (fun q => (True ∧ some q ≠ v3.ownBlock) ∧ some q ≠ u10.ownBlock) (fun _ => False) rfl rfl ?aP (fun _ hk => hk.elim) ?aF ?aO ?aB ?aS ?aL ?_; (case aP => exact k50_mkM _ _ _ (⟨v, 0⟩ : S50)); (case aB => exact HBB3.out); (case aF => exact (fun q hq => ⟨⟨trivial, fun he => by have h1 := Kd.R_lt HF3.out _ he.symm; have h2 : W3.heap.size ≤ q := hq; omega⟩, fun he => by have h1 := Kd.R_lt HT3.out _ he.symm; have h2 : W3.heap.size ≤ q := hq; omega⟩)); (case aO => exact (Lib.hid (Kd.R_mono HB3.out (fun q hk => ⟨⟨trivial, hk.2⟩, hk.1.2⟩) : Kd.R k50 50 W3 w2.heap.size (fun q => (True ∧ some q ≠ v3.ownBlock) ∧ some q ≠ u10.ownBlock) u9 (flB s l more k.toNat))).out); (case aS => exact HBB3.out.size); (case aL => first | (rw [flF_len]; omega) | (rw [flB_len]; omega) | (rw [flT_len]; omega)); intro v4 W4 ho hb hg hat; have HB4 := Lib.hid ho; have HF4 := Lib.hid (Kd.R_after (ok := fun q => True ∧ some q ≠ u10.ownBlock) (Kd.R_mono HF3.out (fun q hk => ⟨⟨trivial, hk.2⟩, hk.1.2⟩)) hg hat); have HT4 := Lib.hid (Kd.R_after (ok := fun q => True ∧ some q ≠ v3.ownBlock) (Kd.R_mono HT3.out (fun q hk => ⟨⟨trivial, hk.2⟩, hk.1.2⟩)) hg hat); have HBB4 := Lib.hid hb; clear ho hb hg hat; clear hx3; obtain ⟨ad4, eA4, hx4⟩ := Kd.at_int (Kd.C_below HC2.out HBB4.out) k hk0 hlt; injection eA4 with eA4; subst eA4; rw [← HV.out] at hx4)
          | ((with_reducible refine gate_builtin (b := .append) (xs := #[.tmp 70, .tmp 77]) rfl ?_); at_builtin; refine Kd.R_append k50 (w0 := w2) w2.heap.size rfl (.tmp 70) (.tmp 77) 46 50 (.agg #[(.int .i64 0), (.int .i64 0)]) 16 rfl Try.underlying46 info50 rfl (by decide) (by omega) u10 (flT s l more k.toNat) (⟨0, v⟩ : S50) [.int .i64 0, .int .i64 v] (fun q => (True ∧ some q ≠ v3.ownBlock) ∧ some q ≠ v4.ownBlock) (fun _ => False) rfl rfl ?aP (fun _ hk => hk.elim) ?aF ?aO ?aB ?aS ?aL ?_; (case aP => exact k50_mkM _ _ _ (⟨0, v⟩ : S50)); (case aB => exact HBB4.out); (case aF => exact (fun q hq => ⟨⟨trivial, fun he => by have h1 := Kd.R_lt HF4.out _ he.symm; have h2 : W4.heap.size ≤ q := hq; omega⟩, fun he => by have h1 := Kd.R_lt HB4.out _ he.symm; have h2 : W4.heap.size ≤ q := hq; omega⟩)); (case aO => exact (Lib.hid (HT4.out : Kd.R k50 50 W4 w2.heap.size (fun q => (True ∧ some q ≠ v3.ownBlock) ∧ some q ≠ v4.ownBlock) u10 (flT s l more k.toNat))).out); (case aS => exact HBB4.out.size); (case aL => first | (rw [flF_len]; omega) | (rw [flB_len]; omega) | (rw [flT_len]; omega)); intro v5 W5 ho hb hg hat; have HT5 := Lib.hid ho; have HF5 := Lib.hid (Kd.R_after (ok := fun q => True ∧ some q ≠ v4.ownBlock) (Kd.R_mono HF4.out (fun q hk => ⟨⟨trivial, hk.2⟩, hk.1.2⟩)) hg hat); have HB5 := Lib.hid (Kd.R_after (ok := fun q => True ∧ some q ≠ v3.ownBlock) (Kd.R_mono HB4.out (fun q hk => ⟨⟨trivial, hk.1.2⟩, hk.2⟩)) hg hat); have HBB5 := Lib.hid hb; clear ho hb hg hat))
        go_roundw
        case rel => exact ⟨k + 1, by omega, by omega, rfl, by rw [E1.out, ← HV.out]; exact Kd.R_mono HF5.out (fun q hk => ⟨⟨trivial, hk.1.2⟩, hk.2⟩), by rw [E2.out, ← HV.out, ← HY.out]; exact Kd.R_mono HB5.out (fun q hk => ⟨⟨trivial, hk.1.2⟩, hk.2⟩), by rw [E3.out, ← HV.out, ← HY.out]; exact Kd.R_mono HT5.out (fun q hk => ⟨⟨trivial, hk.1.2⟩, hk.2⟩), HBB5.out⟩
        case measure => simp [intOf]; omega
    · have hk : k = l.length := by omega
      subst hk
      have h1 := HF1.out
      have h2 := HB1.out
      have h3 := HT1.out
      rw [show ((l.length : Int)).toNat = l.length by simp] at h1 h2 h3
      have f1 := HF.out.line
      have f2 := HF.out.flat
      have f3 := HF.out.both
      have f4 := HF.out.back
      obtain ⟨fl, hfl⟩ : ∃ t, t = flF l l.length := ⟨_, rfl⟩
      obtain ⟨bo, hbo⟩ : ∃ t, t = flB s l more l.length := ⟨_, rfl⟩
      obtain ⟨tu, htu⟩ : ∃ t, t = flT s l more l.length := ⟨_, rfl⟩
      have htl : tu.length = l.length := by rw [htu, flT_len]
      rw [← hfl] at h1 f2
      rw [← hbo] at h2 f3
      rw [← htu] at h3 f4
      obtain ⟨Af, cf, rfl, hcf, hCf⟩ := Kd.R_reads h1
      obtain ⟨Ab, cb, rfl, hcb, hCb⟩ := Kd.R_reads h2
      obtain ⟨At, ct, rfl, hct, hCt⟩ := Kd.R_reads h3
      have HCl := Lib.hid (Kd.C_below HC2.out HB.out)
      have HCf := Lib.hid hCf
      have HCb := Lib.hid hCb
      have HCt := Lib.hid hCt
      have HBw := Lib.hid (below_then HB2.out HB2.out.size HB.out)
      have L1 := Lib.hid f1
      have S1 := Lib.hid f2
      have S2 := Lib.hid f3
      have S3 := Lib.hid f4
      have HTL := Lib.hid htl
      have htl0 : 1 ≤ tu.length ∧ tu.length ≤ 60 := by omega
      obtain ⟨htl1, htl2⟩ := htl0
      clear h1 h2 h3 f1 f2 f3 f4 hfl hbo htu hCf hCb hCt HF1 HB1 HT1 HC2 HB HB2 hlt hk0 hk1 HR22 htl
      have z0 : wrap64 ((tu.length : Int) - 1) = (tu.length : Int) - 1 := w64 (by omega) (by omega)
      go_wp2
      obtain ⟨wo, hwo⟩ : ∃ wo : World, wo = wr := ⟨_, rfl⟩
      rw [← hwo] at HCl HCf HCb HCt HBw ⊢
      clear hwo
      go_loopw [13, 14] (fun vr i w3 => ∃ k : Int, 0 ≤ k ∧ k ≤ tu.length ∧ i = .int .i64 ((tu.length : Int) - 1 - k) ∧ Kd.R k50 50 w3 wo.heap.size (fun _ => True) vr (flR tu k.toNat) ∧ Below wo.heap.size wo w3) (fun _ i _ => ((intOf i) + 1).toNat)
      case atStart => exact ⟨0, by omega, by omega, by simp, by simpa [flR] using Kd.R_nil _ _ _ _ _, Below.refl _ _⟩
      case round =>
        obtain ⟨k, hk0, hk1, rfl, hr, hb⟩ := hrel
        have HRr := Lib.hid hr
        have HB := Lib.hid hb
        clear hr hb
        by_cases hlt : k < tu.length
        · obtain ⟨ad, eA, hx0, hx1⟩ := at_T50 (Kd.C_below HCt.out HB.out) ((tu.length : Int) - 1 - k) (by omega) (by omega)
          subst eA
          have z1 : wrap64 ((tu.length : Int) - 1 - k - 1) = (tu.length : Int) - 1 - (k + 1) := by rw [w64 (by omega) (by omega)]; omega
          have z2 : 0 ≤ (tu.length : Int) - 1 - k := by omega
          have z3 : (tu.length : Int) - 1 - k < tu.length := by omega
          have e1 := flR_succ tu k.toNat (by omega)
          rw [Int.toNat_of_nonneg hk0, show k.toNat + 1 = (k + 1).toNat by omega] at e1
          have E1 := Lib.hid e1
          clear e1
          obtain ⟨p, hp⟩ : ∃ p, p = rd_T50 tu ((tu.length : Int) - 1 - k) := ⟨_, rfl⟩
          rw [← hp] at hx0 hx1
          have HP := Lib.hid hp
          clear hp
          obtain ⟨ix, hix⟩ : ∃ ix, ix = (tu.length : Int) - 1 - k := ⟨_, rfl⟩
          rw [← hix] at hx0 hx1 z1 z2 z3 ⊢
          have HIX := Lib.hid hix
          clear hix
          go_wp2_with (first
            | ((with_reducible refine gate_builtin (b := .append) (xs := #[.tmp 86, .tmp 91]) rfl ?_); at_builtin; refine Kd.R_append k50 (w0 := wo) wo.heap.size rfl (.tmp 86) (.tmp 91) 46 50 (.agg #[(.int .i64 0), (.int .i64 0)]) 16 rfl Try.underlying46 info50 rfl (by decide) (by omega) u13 (flR tu k.toNat) p [.int .i64 p.f0, .int .i64 p.f1] (fun _ => True) (fun _ => False) rfl rfl ?aP (fun _ hk => hk.elim) ?aF ?aO ?aB ?aS ?aL ?_; (case aP => exact k50_mkM _ _ _ p); (case aB => exact HB.out); (case aF => exact fun _ _ => trivial); (case aO => exact HRr.out); (case aS => exact HB.out.size); (case aL => (unfold flR; rw [List.length_take]; omega)); intro v5 W5 ho hb hg hat; have HR5 := Lib.hid ho; have HB5 := Lib.hid hb; clear ho hb hg hat))
          go_roundw
          case rel => exact ⟨k + 1, by omega, by omega, by have := HIX.out; congr 1; omega, by rw [E1.out, ← HP.out]; exact HR5.out, HB5.out⟩
          case measure => have := HIX.out; simp [intOf]; omega
        · have hk : k = tu.length := by omega
          subst hk
          have hr := HRr.out
          rw [show ((tu.length : Int)).toNat = tu.length by simp, show flR tu tu.length = tu.reverse by unfold flR; rw [List.take_of_length_le (by simp)]] at hr
          obtain ⟨re, hre⟩ : ∃ t, t = tu.reverse := ⟨_, rfl⟩
          have S4 := Lib.hid (show spread_Sheet.f s re = some (b1, b2, p3, q3, o3, 0) by rw [hre]; exact S3.out)
          rw [← hre] at hr
          obtain ⟨Ar, cr, rfl, hcr, hCr⟩ := Kd.R_reads hr
          have HCl := Lib.hid (Kd.C_below HCl.out HB.out)
          have HCf := Lib.hid (Kd.C_below HCf.out HB.out)
          have HCb := Lib.hid (Kd.C_below HCb.out HB.out)
          have HCr := Lib.hid hCr
          have HBw := Lib.hid (below_then HBw.out HBw.out.size HB.out)
          have LS := Lib.hid HF.out.less
          clear hr hCr HRr HB S3 hlt hk0 hk1 HCt hre
          go_upto_region 18 with (go_at_call 20; refine (spread_Line.calls s A c l d1 d2 dp dq 0 _ HCl.out hc L1.out).mono ?_; rintro e x1 ⟨rfl, hb⟩)
          obtain ⟨Y1, hY⟩ : ∃ W, W = x1.alloc (.cells #[.int .i64 d1, .int .i64 d2] 26) := ⟨_, rfl⟩
          rw [← hY]
          have hb2 := hY ▸ below_alloc hb (.cells #[.int .i64 d1, .int .i64 d2] 26)
          have HCl := Lib.hid (Kd.C_below HCl.out hb2)
          have HCf := Lib.hid (Kd.C_below HCf.out hb2)
          have HCb := Lib.hid (Kd.C_below HCb.out hb2)
          have HCr := Lib.hid (Kd.C_below HCr.out hb2)
          have HBw := Lib.hid (below_then HBw.out HBw.out.size hb2)
          have K15 := Lib.hid (show Y1.heap[x1.heap.size]? = some (.cells #[.int .i64 d1, .int .i64 d2] 26 (0, 0)) from hY ▸ blk_new x1 _)
          obtain ⟨z1, hz⟩ : ∃ b, b = x1.heap.size := ⟨_, rfl⟩
          rw [← hz] at K15 ⊢
          clear hY hb2 hb hz
          go_upto_region 19 with (go_at_call 45; refine (spread_Sheet.calls s Af cf fl a1 a2 p1 q1 o1 0 _ HCf.out hcf S1.out).mono ?_; rintro e x2 ⟨rfl, hb⟩)
          obtain ⟨Y2, hY⟩ : ∃ W, W = (x2.alloc (.cells #[.int .i64 a1, .int .i64 a2] 26)).alloc (.cells #[.int .i64 p1, .int .i64 q1] 50) := ⟨_, rfl⟩
          rw [← hY]
          have hb2 := hY ▸ below_alloc (below_alloc hb (.cells #[.int .i64 a1, .int .i64 a2] 26)) (.cells #[.int .i64 p1, .int .i64 q1] 50)
          have K15 := Lib.hid (blk_below K15.out hb2)
          have HCl := Lib.hid (Kd.C_below HCl.out hb2)
          have HCf := Lib.hid (Kd.C_below HCf.out hb2)
          have HCb := Lib.hid (Kd.C_below HCb.out hb2)
          have HCr := Lib.hid (Kd.C_below HCr.out hb2)
          have HBw := Lib.hid (below_then HBw.out HBw.out.size hb2)
          have K19 := Lib.hid (show Y2.heap[x2.heap.size]? = some (.cells #[.int .i64 a1, .int .i64 a2] 26 (0, 0)) from hY ▸ blk_alloc (blk_new x2 _) _)
          obtain ⟨z2, hz⟩ : ∃ b, b = x2.heap.size := ⟨_, rfl⟩
          rw [← hz] at K19 ⊢
          clear hY hb2 hb hz
          go_upto_region 20 with (go_at_call 45; refine (spread_Sheet.calls s Ab cb bo b1 b2 p2 q2 o2 0 _ HCb.out hcb S2.out).mono ?_; rintro e x3 ⟨rfl, hb⟩)
          obtain ⟨Y3, hY⟩ : ∃ W, W = (x3.alloc (.cells #[.int .i64 b1, .int .i64 b2] 26)).alloc (.cells #[.int .i64 p2, .int .i64 q2] 50) := ⟨_, rfl⟩
          rw [← hY]
          have hb2 := hY ▸ below_alloc (below_alloc hb (.cells #[.int .i64 b1, .int .i64 b2] 26)) (.cells #[.int .i64 p2, .int .i64 q2] 50)
          have K15 := Lib.hid (blk_below K15.out hb2)
          have K19 := Lib.hid (blk_below K19.out hb2)
          have HCl := Lib.hid (Kd.C_below HCl.out hb2)
          have HCf := Lib.hid (Kd.C_below HCf.out hb2)
          have HCb := Lib.hid (Kd.C_below HCb.out hb2)
          have HCr := Lib.hid (Kd.C_below HCr.out hb2)
          have HBw := Lib.hid (below_then HBw.out HBw.out.size hb2)
          have K23 := Lib.hid (show Y3.heap[x3.heap.size]? = some (.cells #[.int .i64 b1, .int .i64 b2] 26 (0, 0)) from hY ▸ blk_alloc (blk_new x3 _) _)
          obtain ⟨z3, hz⟩ : ∃ b, b = x3.heap.size := ⟨_, rfl⟩
          rw [← hz] at K23 ⊢
          clear hY hb2 hb hz
          go_upto_region 21 with (go_at_call 45; refine (spread_Sheet.calls s Ar cr re b1 b2 p3 q3 o3 0 _ HCr.out hcr S4.out).mono ?_; rintro e x4 ⟨rfl, hb⟩)
          obtain ⟨Y4, hY⟩ : ∃ W, W = (x4.alloc (.cells #[.int .i64 b1, .int .i64 b2] 26)).alloc (.cells #[.int .i64 p3, .int .i64 q3] 50) := ⟨_, rfl⟩
          rw [← hY]
          have hb2 := hY ▸ below_alloc (below_alloc hb (.cells #[.int .i64 b1, .int .i64 b2] 26)) (.cells #[.int .i64 p3, .int .i64 q3] 50)
          have K15 := Lib.hid (blk_below K15.out hb2)
          have K19 := Lib.hid (blk_below K19.out hb2)
          have K23 := Lib.hid (blk_below K23.out hb2)
          have HCl := Lib.hid (Kd.C_below HCl.out hb2)
          have HCf := Lib.hid (Kd.C_below HCf.out hb2)
          have HCb := Lib.hid (Kd.C_below HCb.out hb2)
          have HCr := Lib.hid (Kd.C_below HCr.out hb2)
          have HBw := Lib.hid (below_then HBw.out HBw.out.size hb2)
          have K27 := Lib.hid (show Y4.heap[x4.heap.size]? = some (.cells #[.int .i64 b1, .int .i64 b2] 26 (0, 0)) from hY ▸ blk_alloc (blk_new x4 _) _)
          obtain ⟨z4, hz⟩ : ∃ b, b = x4.heap.size := ⟨_, rfl⟩
          rw [← hz] at K27 ⊢
          clear hY hb2 hb hz
          have a00 := blk_cell K15.out 0
          have a01 := blk_cell K15.out 1
          have a10 := blk_cell K19.out 0
          have a11 := blk_cell K19.out 1
          have a20 := blk_cell K23.out 0
          have a21 := blk_cell K23.out 1
          have a30 := blk_cell K27.out 0
          have a31 := blk_cell K27.out 1
          go_wp2_with (first
            | (go_at_call 21; refine (numnahlaw03_less.calls a1 a2 d1 d2 false _ LS.out).mono ?_; rintro e W8 ⟨rfl, hb⟩; have K23 := Lib.hid (blk_below K23.out hb); have K27 := Lib.hid (blk_below K27.out hb); have HBw := Lib.hid (below_then HBw.out HBw.out.size hb); clear hb; have a50 := blk_cell K23.out 0; have a51 := blk_cell K23.out 1; have a60 := blk_cell K27.out 0; have a61 := blk_cell K27.out 1)
            | (go_at_call 22; refine (awake_anyF _).mono ?_; rintro e u11 ⟨rfl, hb11⟩))
          go_ret
          exact ⟨rfl, below_then HBw.out HBw.out.size hb11⟩
end Go.Proofs.Ythngclneffngbaa.Pr
