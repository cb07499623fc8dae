import Derived.Test.YthngclneffngbaaHDev
namespace Go.Proofs.Ythngclneffngbaa.Pr
open Go.RowKit Go.Proofs.YthngclneffngbaaW.PrintWords Go.Proofs.YthngclneffngbaaW.PrintLast Go.Proofs.YthngclneffngbaaW.PrintMore
set_option linter.unusedVariables false
set_option linter.unusedSimpArgs false

/-- a moved point -/
def movF (s by_ x : Int) : Int := (x + Int.tmod by_ s + s) % s
def spread_Move.f (a0 : Int) (l1 : List Int) (a2 : Int) : Option (List Int × Int) :=
  if okLine a0 l1 = true then some (l1.map (movF a0 a2), 0) else some ([], 2)
theorem tmod_range (a s : Int) (h : 1 ≤ s) : -s < Int.tmod a s ∧ Int.tmod a s < s := by
  constructor
  · have := Int.lt_tmod_of_pos a (show 0 < s by omega)
    omega
  · exact Int.tmod_lt_of_pos a (by omega)
theorem w64' {x : Int} (h1 : -9223372036854775808 ≤ x) (h2 : x ≤ 9223372036854775807) : wrap64 x = x := wr h1 h2
theorem okLine_pts' {s : Int} {l : List Int} (h : okLine s l = true) : okPts s l = true := by
  unfold okLine at h
  simp at h
  exact h.2.2
theorem okPts_all {s : Int} {l : List Int} (h : okPts s l = true) (k : Int) (h0 : 0 ≤ k) (h1 : k < l.length) : 0 ≤ rd l k ∧ rd l k ≤ s - 1 := by
  unfold okPts at h
  have hm : rd l k ∈ l := by
    unfold rd
    rw [List.getD_eq_getElem?_getD, List.getElem?_eq_getElem (show k.toNat < l.length by omega)]
    exact List.getElem_mem _
  have := List.all_eq_true.1 h _ hm
  simpa using this
set_option maxHeartbeats 4000000 in
set_option maxRecDepth 100000 in
theorem spread_Move.calls (a0 : Int) (A1 : Option Addr) (c1 : Nat) (l1 : List Int) (a2 : Int) (r1 : List Int) (r2 : Int) (w : World) (hr1 : Kd.C (Kd.int .i64) w A1 l1.length l1) (hc1 : l1.length ≤ c1) (h : spread_Move.f a0 l1 a2 = some (r1, r2)) :
    Calls Try.prog 50 #[.int .i64 a0, .slice A1 l1.length c1, .int .i64 a2] w fun e w' => ∃ v0_ : Value, e = .returned (.tuple #[v0_, .int .i64 r2]) ∧ Kd.R (Kd.int .i64) 3 w' w.heap.size (fun _ => True) v0_ r1 ∧ Below w.heap.size w w' := by
  have HR := Lib.hid hr1
  clear hr1
  unfold spread_Move.f at h
  by_cases ok : okLine a0 l1 = true
  · rw [if_pos ok] at h
    simp only [Option.some.injEq, Prod.mk.injEq] at h
    obtain ⟨rfl, rfl⟩ := h
    obtain ⟨b1, b2, b3, b4⟩ := okLine_bounds ok
    have OK := Lib.hid ok
    clear ok
    have hz : (a0 == 0) = false := by simp; omega
    go_enter Try.func50, Try.ntmps50
    go_wp2_with (go_at_call 56; refine (newLine_any _ _ _ l1 _ HR.out hc1).mono ?_; rintro e w1 ⟨hb, ⟨hf, _⟩ | ⟨hf, b, hbl, rfl, hL⟩⟩; (exact absurd OK.out (by rw [hf]; simp)); have HB := Lib.hid hb; clear hb hf hL)
    go_loopw [10, 23] (fun v i wr => ∃ k : Int, 0 ≤ k ∧ k ≤ l1.length ∧ i = .int .i64 k ∧ Kd.R (Kd.int .i64) 3 wr w.heap.size (fun _ => True) v ((l1.take k.toNat).map (movF a0 a2)) ∧ Below w.heap.size w wr) (fun _ i _ => l1.length - (intOf i).toNat)
    case atStart => exact ⟨0, by omega, by omega, rfl, by simpa using Kd.R_nil _ _ _ _ _, HB.out⟩
    case round =>
      obtain ⟨k, hk0, hk1, rfl, hown, hb⟩ := hrel
      have HO := Lib.hid hown
      have HB2 := Lib.hid hb
      clear hown hb
      by_cases hlt : k < l1.length
      · obtain ⟨ad, eA, hx⟩ := Kd.at_int (Kd.C_below HR.out HB2.out) k hk0 hlt
        subst eA
        have hp := okPts_all (okLine_pts' OK.out) k hk0 hlt
        obtain ⟨hp0, hp1⟩ := hp
        have ht := tmod_range a2 a0 b1
        obtain ⟨ht0, ht1⟩ := ht
        have e1 : wrap64 (Int.tmod a2 a0) = Int.tmod a2 a0 := w64' (by omega) (by omega)
        have e2 : wrap64 (rd l1 k + Int.tmod a2 a0) = rd l1 k + Int.tmod a2 a0 := w64' (by omega) (by omega)
        have e3 : wrap64 (rd l1 k + Int.tmod a2 a0 + a0) = rd l1 k + Int.tmod a2 a0 + a0 := w64' (by omega) (by omega)
        have e4 : Int.tmod (rd l1 k + Int.tmod a2 a0 + a0) a0 = movF a0 a2 (rd l1 k) := Int.tmod_eq_emod_of_nonneg (by omega)
        have e5 : wrap64 (movF a0 a2 (rd l1 k)) = movF a0 a2 (rd l1 k) := by
          have := Int.emod_nonneg (rd l1 k + Int.tmod a2 a0 + a0) (show a0 ≠ 0 by omega)
          have := Int.emod_lt_of_pos (rd l1 k + Int.tmod a2 a0 + a0) (show 0 < a0 by omega)
          unfold movF
          exact w64' (by omega) (by omega)
        have hst : (l1.take (k + 1).toNat).map (movF a0 a2) = (l1.take k.toNat).map (movF a0 a2) ++ [movF a0 a2 (rd l1 k)] := by
          have e := take_succ_rd l1 k.toNat (by omega)
          rw [Int.toNat_of_nonneg hk0] at e
          rw [show (k + 1).toNat = k.toNat + 1 by omega, e, List.map_append]
          rfl
        have HS := Lib.hid hst
        clear hst
        obtain ⟨y, hy⟩ : ∃ y, y = movF a0 a2 (rd l1 k) := ⟨_, rfl⟩
        rw [← hy] at e4 e5
        have HY := Lib.hid hy
        clear hy
        go_wp2_with (first | ((with_reducible refine gate_builtin (b := .append) (xs := #[.tmp 27, .tmp 37]) rfl ?_); at_builtin; refine Kd.R_append (Kd.int .i64) (w0 := w) w.heap.size rfl (.tmp 27) (.tmp 37) 22 3 (.int .i64 0) 8 rfl Try.underlying22 info3 rfl (by decide) (by omega) u10 ((l1.take k.toNat).map (movF a0 a2)) y [.int .i64 y] (fun _ => True) (fun _ => False) rfl rfl ?aP (fun _ hk => hk.elim) ?aF ?aO ?aB ?aS ?aL ?_; (case aP => exact rfl); (case aB => repeat (first | exact HB2.out | apply below_alloc)); (case aF => exact (fun _ _ => trivial)); (case aO => repeat (first | exact HO.out | apply Kd.R_alloc)); (case aS => refine below_size (w := w) ?_; repeat (first | exact HB2.out | apply below_alloc)); (case aL => simp; omega); intro v131 w16 ho hb hg hat; have HO3 := Lib.hid ho; have HB3 := Lib.hid hb; clear ho hb hg hat))
        go_roundw
        case rel => exact ⟨k + 1, by omega, by omega, rfl, by rw [HS.out, ← HY.out]; exact HO3.out, HB3.out⟩
        case measure => simp [intOf]; omega
      · have hk : k = l1.length := by omega
        subst hk
        go_wp2
        go_ret2
        refine ⟨_, rfl, ?_, HB2.out⟩
        have := HO.out
        simpa using this
  · rw [if_neg ok] at h
    simp only [Option.some.injEq, Prod.mk.injEq] at h
    obtain ⟨rfl, rfl⟩ := h
    have OK := Lib.hid ok
    clear ok
    go_enter Try.func50, Try.ntmps50
    go_wp2_with (go_at_call 56; refine (newLine_any _ _ _ l1 _ HR.out hc1).mono ?_; rintro e w' ⟨hb, ⟨hf, rfl⟩ | ⟨hf, _⟩⟩; rotate_left; (exact absurd hf OK.out); have HB := Lib.hid hb; clear hb hf)
    go_ret2
    exact ⟨_, rfl, Kd.R_nil _ _ _ _ _, HB.out⟩
end Go.Proofs.Ythngclneffngbaa.Pr
