import Derived.Test.YthngclneffngbaaHLine
namespace Go.Proofs.Ythngclneffngbaa.Pr
open Go.RowKit Go.Proofs.YthngclneffngbaaW.PrintWords Go.Proofs.YthngclneffngbaaW.PrintLast Go.Proofs.YthngclneffngbaaW.PrintMore
set_option linter.unusedVariables false
set_option linter.unusedSimpArgs false

def spread_Deviation.f (a0 : Int) (l1 : List Int) (a2 : Int) : Option (Int × Int × Int) :=
  if okLine a0 l1 = true ∧ 0 ≤ a2 ∧ a2 ≤ a0 then some ((redF (devL a0 l1.length (cnt l1) a2).1 (l1.length * a0)).1, (redF (devL a0 l1.length (cnt l1) a2).1 (l1.length * a0)).2, 0)
  else some (0, 0, 2)
set_option maxHeartbeats 4000000 in
theorem spread_Deviation.calls (a0 : Int) (A1 : Option Addr) (c1 : Nat) (l1 : List Int) (a2 : Int) (r1 r2 r3 : Int) (w : World) (hr1 : Kd.C (Kd.int .i64) w A1 l1.length l1) (hc1 : l1.length ≤ c1) (h : spread_Deviation.f a0 l1 a2 = some (r1, r2, r3)) :
    Calls Try.prog 24 #[.int .i64 a0, .slice A1 l1.length c1, .int .i64 a2] w fun e w' => e = .returned (.tuple #[.agg #[.int .i64 r1, .int .i64 r2], .int .i64 r3]) ∧ Below w.heap.size w w' := by
  have HR := Lib.hid hr1
  clear hr1
  unfold spread_Deviation.f at h
  by_cases ok : okLine a0 l1 = true
  · obtain ⟨b1, b2, b3, b4⟩ := okLine_bounds ok
    have OK := Lib.hid ok
    by_cases hin : 0 ≤ a2 ∧ a2 ≤ a0
    · obtain ⟨hi0, hi1⟩ := hin
      rw [if_pos ⟨ok, hi0, hi1⟩] at h
      clear ok
      simp only [Option.some.injEq, Prod.mk.injEq] at h
      obtain ⟨rfl, rfl, rfl⟩ := h
      have hbd := devL_bound a0 l1 a2 (by omega) (by omega) (by omega)
      obtain ⟨hbd1, hbd2⟩ := hbd
      have hmul := bnd_mul (a := l1.length) (b := a0) (A := 60) (B := 1000) (by omega) (by omega) (by omega) (by omega)
      have hmul1 : 1 ≤ (l1.length : Int) * a0 := by
        have := Int.mul_le_mul (a := 1) (b := 1) (c := (l1.length : Int)) (d := a0) (by omega) (by omega) (by omega) (by omega)
        omega
      have hw2 : wrap64 (l1.length * a0) = l1.length * a0 := wr (by omega) (by omega)
      have HM := Lib.hid (And.intro hmul hmul1)
      clear hmul hmul1
      go_enter Try.func24, Try.ntmps24
      go_wp2_with (first | (go_at_call 56; refine (newLine_any _ _ _ l1 _ (Kd.C_alloc HR.out _) hc1).mono ?_; rintro e w1 ⟨hb, ⟨hf, _⟩ | ⟨hf, b, hbl, rfl, hL⟩⟩; (exact absurd OK.out (by rw [hf]; simp)); have HB := Lib.hid hb; clear hb hf; have HL := Lib.hid hL; have hn := LineAt.n hL; clear hL; have hbk := blk_below (blk_new w (.cells #[.int .i64 0, .int .i64 0] 26 (0, 0))) HB.out; have HK := Lib.hid hbk; clear hbk) | (go_at_call 55; refine (within_true _ _ _ _ (by omega) (by omega)).mono ?_; rintro e w' ⟨rfl, rfl⟩) | (go_at_call 57; refine (deviation_any b a0 a2 l1 _ HL.out (by omega) (by omega) (by omega)).mono ?_; rintro e w3 ⟨rfl, ⟨md, rfl⟩⟩) | (go_at_call 58; refine (frac_any _ _ _ HM.out.2 (by have := HM.out; omega) (by omega) (by omega)).mono ?_; rintro e w3 ⟨rfl, hb3⟩; have HB3 := Lib.hid hb3; clear hb3; have hbk := blk_below (blk_drewN HK.out md) HB3.out; have hc0 := blk_cell hbk 0; have hc1' := blk_cell hbk 1; have hf0 := blk_frozen hbk 0; have hf1 := blk_frozen hbk 1; have HK3 := Lib.hid hbk; clear hbk))
      refine bodyPost_ret (results_ct rfl _ _ w.heap.size 26 #[.int .i64 _, .int .i64 _] (0, 0) _ rfl (blk_put (blk_put HK3.out 0 _ rfl) 1 _ rfl) Try.underlying26 rfl (by kernel_rfl)) rfl ⟨rfl, ?_⟩
      have hb0 : Below w.heap.size w w1 := (below_alloc (Below.refl _ w) _).trans (HB.out.mono (by simp))
      have hb5 : Below w.heap.size w w3 := below_then (pw_below_drewN hb0 md) (by have := hb0.size; simpa using this) HB3.out
      exact (hb5.setCell (p := ⟨w.heap.size, 0, none⟩) (Nat.le_refl _) _).setCell (p := ⟨w.heap.size, 1, none⟩) (Nat.le_refl _) _
    · rw [if_neg (fun h => hin h.2)] at h
      clear ok
      simp only [Option.some.injEq, Prod.mk.injEq] at h
      obtain ⟨rfl, rfl, rfl⟩ := h
      have HI := Lib.hid hin
      clear hin
      go_enter Try.func24, Try.ntmps24
      go_wp2_with (first | (go_at_call 56; refine (newLine_any _ _ _ l1 _ (Kd.C_alloc HR.out _) hc1).mono ?_; rintro e w1 ⟨hb, ⟨hf, _⟩ | ⟨hf, b, hbl, rfl, hL⟩⟩; (exact absurd OK.out (by rw [hf]; simp)); have HB := Lib.hid hb; clear hb hf hL; have hbk := blk_below (blk_new w (.cells #[.int .i64 0, .int .i64 0] 26 (0, 0))) HB.out; have hc0 := blk_cell hbk 0; have hc1' := blk_cell hbk 1; have hf0 := blk_frozen hbk 0; have hf1 := blk_frozen hbk 1; have HK := Lib.hid hbk; clear hbk) | (go_at_call 55; refine (within_false _ _ _ _ (by have := HI.out; omega)).mono ?_; rintro e w' ⟨rfl, rfl⟩))
      refine bodyPost_ret (results_ct rfl _ _ w.heap.size 26 #[.int .i64 0, .int .i64 0] (0, 0) _ rfl (blk_put (blk_put HK.out 0 _ rfl) 1 _ rfl) Try.underlying26 rfl (by kernel_rfl)) rfl ⟨rfl, ?_⟩
      have hb0 : Below w.heap.size w w1 := (below_alloc (Below.refl _ w) _).trans (HB.out.mono (by simp))
      exact (hb0.setCell (p := ⟨w.heap.size, 0, none⟩) (Nat.le_refl _) _).setCell (p := ⟨w.heap.size, 1, none⟩) (Nat.le_refl _) _
  · rw [if_neg (fun h => ok h.1)] at h
    simp only [Option.some.injEq, Prod.mk.injEq] at h
    obtain ⟨rfl, rfl, rfl⟩ := h
    have OK := Lib.hid ok
    clear ok
    go_enter Try.func24, Try.ntmps24
    go_wp2_with (go_at_call 56; refine (newLine_any _ _ _ l1 _ (Kd.C_alloc HR.out _) hc1).mono ?_; rintro e w' ⟨hb, ⟨hf, rfl⟩ | ⟨hf, _⟩⟩; rotate_left; (exact absurd hf OK.out); have HB := Lib.hid hb; clear hb hf; have hbk := blk_below (blk_new w (.cells #[.int .i64 0, .int .i64 0] 26 (0, 0))) HB.out; have hc0 := blk_cell hbk 0; have hc1' := blk_cell hbk 1; have hf0 := blk_frozen hbk 0; have hf1 := blk_frozen hbk 1; have HK := Lib.hid hbk; clear hbk)
    refine bodyPost_ret (results_ct rfl _ _ w.heap.size 26 #[.int .i64 0, .int .i64 0] (0, 0) _ rfl (blk_put (blk_put HK.out 0 _ rfl) 1 _ rfl) Try.underlying26 rfl (by kernel_rfl)) rfl ⟨rfl, ?_⟩
    have hb0 : Below w.heap.size w w' := (below_alloc (Below.refl _ w) _).trans (HB.out.mono (by simp))
    exact (hb0.setCell (p := ⟨w.heap.size, 0, none⟩) (Nat.le_refl _) _).setCell (p := ⟨w.heap.size, 1, none⟩) (Nat.le_refl _) _
end Go.Proofs.Ythngclneffngbaa.Pr
