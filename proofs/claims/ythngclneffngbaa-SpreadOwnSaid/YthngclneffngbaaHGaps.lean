import Derived.Test.YthngclneffngbaaHGa0
import Derived.Test.YthngclneffngbaaHMove
namespace Go.Proofs.Ythngclneffngbaa.Pr
open Go.RowKit Go.Proofs.YthngclneffngbaaW.PrintWords Go.Proofs.YthngclneffngbaaW.PrintLast Go.Proofs.YthngclneffngbaaW.PrintMore
set_option linter.unusedVariables false
set_option linter.unusedSimpArgs false

/-- the different places, in order -/
def placesL (l : List Int) : List Int := Lib.compact (sortI l)
/-- the way from place i to the next one -/
def gapAt (s : Int) (q : List Int) (i : Nat) : Int := (if i + 1 < q.length then rd q ((i : Int) + 1) else rd q 0 + s) - rd q (i : Int)
def gapsL (s : Int) (q : List Int) : List Int := (List.range q.length).map (gapAt s q)
def spread_Gaps.f (a0 : Int) (l1 : List Int) : Option (List Int × Int) :=
  if okLine a0 l1 = true then some (Lib.compact (sortI (gapsL a0 (placesL l1))), 0) else some ([], 2)
theorem sortI_mem (l : List Int) (x : Int) : x ∈ sortI l ↔ x ∈ l := (sortI_perm l).mem_iff
theorem compact_sub (l : List Int) (x : Int) (h : x ∈ Lib.compact l) : x ∈ l := by
  unfold Lib.compact Lib.compactUpTo at h
  obtain ⟨j, hj, rfl⟩ := List.mem_map.1 h
  have := List.mem_range.1 (List.mem_filter.1 hj).1
  simp [this]
theorem compact_ne {l : List Int} (h : 1 ≤ l.length) : 1 ≤ (Lib.compact l).length := by
  unfold Lib.compact Lib.compactUpTo
  rw [List.length_map]
  refine List.length_pos_iff.2 (fun e => ?_)
  have : (0 : Nat) ∈ (List.range l.length).filter (Lib.keeps l.toArray) := List.mem_filter.2 ⟨List.mem_range.2 (by omega), by simp [Lib.keeps]⟩
  rw [e] at this
  cases this
theorem places_ok {s : Int} {l : List Int} (h : okLine s l = true) : (1 ≤ (placesL l).length ∧ (placesL l).length ≤ 60) ∧ ∀ x ∈ placesL l, 0 ≤ x ∧ x ≤ s - 1 := by
  obtain ⟨b1, b2, b3, b4⟩ := okLine_bounds h
  have hs : (sortI l).length = l.length := sortI_len l
  refine ⟨⟨compact_ne (by omega), Nat.le_trans (compact_le _) (by omega)⟩, fun x hx => ?_⟩
  have hm := (sortI_mem l x).1 (compact_sub _ x hx)
  have := okLine_pts' h
  unfold okPts at this
  have := List.all_eq_true.1 this _ hm
  simpa using this
theorem rd_mem' {l : List Int} (k : Int) (h0 : 0 ≤ k) (h1 : k < l.length) : rd l k ∈ l := by
  unfold rd
  rw [List.getD_eq_getElem?_getD, List.getElem?_eq_getElem (show k.toNat < l.length by omega)]
  exact List.getElem_mem _
set_option maxHeartbeats 4000000 in
set_option maxRecDepth 100000 in
theorem spread_Gaps.calls (a0 : Int) (A1 : Option Addr) (c1 : Nat) (l1 : List Int) (r1 : List Int) (r2 : Int) (w : World) (hr1 : Kd.C (Kd.int .i64) w A1 l1.length l1) (hc1 : l1.length ≤ c1) (h : spread_Gaps.f a0 l1 = some (r1, r2)) :
    Calls Try.prog 48 #[.int .i64 a0, .slice A1 l1.length c1] w fun e w' => ∃ v0_ : Value, e = .returned (.tuple #[v0_, .int .i64 r2]) ∧ Kd.R (Kd.int .i64) 3 w' w.heap.size (fun _ => True) v0_ r1 ∧ Below w.heap.size w w' := by
  have HR := Lib.hid hr1
  clear hr1
  unfold spread_Gaps.f at h
  by_cases ok : okLine a0 l1 = true
  · rw [if_pos ok] at h
    simp only [Option.some.injEq, Prod.mk.injEq] at h
    obtain ⟨rfl, rfl⟩ := h
    obtain ⟨b1, b2, b3, b4⟩ := okLine_bounds ok
    obtain ⟨⟨q1, q2⟩, q3⟩ := places_ok ok
    obtain ⟨q, hq⟩ : ∃ q, q = placesL l1 := ⟨_, rfl⟩
    rw [← hq] at q1 q2 q3 ⊢
    have HQ := Lib.hid hq
    clear hq
    have HQ3 := Lib.hid q3
    clear q3
    have OK := Lib.hid ok
    clear ok
    go_enter Try.func48, Try.ntmps48
    go_wp2_with (first
      | (go_at_call 56; refine (newLine_any _ _ _ l1 _ HR.out hc1).mono ?_; rintro e w1 ⟨hb, ⟨hf, _⟩ | ⟨hf, b, hbl, rfl, hL⟩⟩; (exact absurd OK.out (by rw [hf]; simp)); have HB := Lib.hid hb; clear hb hf hL hbl)
      | (go_at_call 72; refine (values_R A1 c1 l1.length w1).mono ?_; rintro e w2 ⟨rfl, hw2⟩; subst hw2)
      | (go_at_call 71; refine (sorted_R (c := c1) (Kd.C_below HR.out HB.out) (by omega) (by omega)).mono ?_; rintro e w3 ⟨v, rfl, hown, hb3⟩; have HO3 := Lib.hid hown; have HB3 := Lib.hid hb3; clear hown hb3)
      | (go_at_call 70; refine (compact_R HO3.out (by rw [sortI_len]; omega)).mono ?_; rintro e w4 ⟨v4, rfl, hown, hb4⟩; rw [show Lib.compact (sortI l1) = q from HQ.out.symm] at hown; obtain ⟨A4, c4, rfl, hc4, hC4⟩ := Kd.R_reads hown; have HC4 := Lib.hid hC4; have HB4 := Lib.hid hb4; clear hown hb4 hC4))
    clear HQ
    have HBa := Lib.hid (show Below w.heap.size w w4 from below_then HB.out HB.out.size (HB3.out.trans HB4.out))
    clear HB HB3 HO3 HB4
    go_loopw [9, 27] (fun v i wr => ∃ k : Int, 0 ≤ k ∧ k ≤ q.length ∧ i = .int .i64 k ∧ Kd.R (Kd.int .i64) 3 wr w4.heap.size (fun _ => True) v ((List.range k.toNat).map (gapAt a0 q)) ∧ Below w4.heap.size w4 wr) (fun _ i _ => q.length - (intOf i).toNat)
    case atStart => exact ⟨0, by omega, by omega, rfl, by simpa using Kd.R_nil _ _ _ _ _, Below.refl _ _⟩
    case round =>
      obtain ⟨k, hk0, hk1, rfl, hown, hb⟩ := hrel
      have HO := Lib.hid hown
      have HB2 := Lib.hid hb
      clear hown hb
      by_cases hlt : k < q.length
      · obtain ⟨ad, eA, hx⟩ := Kd.at_int (Kd.C_below HC4.out HB2.out) k hk0 hlt
        subst eA
        obtain ⟨ad2, eA, hx0⟩ := Kd.at_int (Kd.C_below HC4.out HB2.out) 0 (by omega) (by omega)
        injection eA with eA
        subst eA
        have hz0 : wr.cell? ad = some (.int .i64 (rd q 0)) := by simpa [Addr.add] using hx0
        clear hx0
        have p0 := HQ3.out _ (rd_mem' (l := q) 0 (by omega) (by omega))
        have pk := HQ3.out _ (rd_mem' (l := q) k hk0 hlt)
        obtain ⟨p01, p02⟩ := p0
        obtain ⟨pk1, pk2⟩ := pk
        have hst : (List.range (k + 1).toNat).map (gapAt a0 q) = (List.range k.toNat).map (gapAt a0 q) ++ [gapAt a0 q k.toNat] := by
          rw [show (k + 1).toNat = k.toNat + 1 by omega, List.range_succ, List.map_append]
          rfl
        have HS := Lib.hid hst
        clear hst
        have e0 : wrap64 (rd q 0 + a0) = rd q 0 + a0 := w64' (by omega) (by omega)
        have e1 : wrap64 (k + 1) = k + 1 := w64' (by omega) (by omega)
        by_cases hn : k + 1 < q.length
        · obtain ⟨ad2, eA, hx1⟩ := Kd.at_int (Kd.C_below HC4.out HB2.out) (k + 1) (by omega) hn
          injection eA with eA
          subst eA
          have pn := HQ3.out _ (rd_mem' (l := q) (k + 1) (by omega) hn)
          obtain ⟨pn1, pn2⟩ := pn
          have e2 : wrap64 (rd q (k + 1) - rd q k) = rd q (k + 1) - rd q k := w64' (by omega) (by omega)
          have hy : gapAt a0 q k.toNat = rd q (k + 1) - rd q k := by
            unfold gapAt
            rw [if_pos (by omega), Int.toNat_of_nonneg hk0]
          rw [hy] at HS
          have HY := Lib.hid hy
          clear hy
          go_wp2_with (first | ((with_reducible refine gate_builtin (b := .append) (xs := #[.tmp 47, .tmp 51]) rfl ?_); at_builtin; refine Kd.R_append (Kd.int .i64) (w0 := w4) w4.heap.size rfl (.tmp 47) (.tmp 51) 22 3 (.int .i64 0) 8 rfl Try.underlying22 info3 rfl (by decide) (by omega) u9 ((List.range k.toNat).map (gapAt a0 q)) (rd q (k + 1) - rd q k) [.int .i64 (rd q (k + 1) - rd q k)] (fun _ => True) (fun _ => False) rfl rfl ?aP (fun _ hk => hk.elim) ?aF ?aO ?aB ?aS ?aL ?_; (case aP => exact rfl); (case aB => repeat (first | exact HB2.out | apply below_alloc)); (case aF => exact (fun _ _ => trivial)); (case aO => repeat (first | exact HO.out | apply Kd.R_alloc)); (case aS => refine below_size (w := w4) ?_; repeat (first | exact HB2.out | apply below_alloc)); (case aL => simp; omega); intro v131 w16 ho hb hg hat; have HO3 := Lib.hid ho; have HB3 := Lib.hid hb; clear ho hb hg hat))
          go_roundw
          case rel => exact ⟨k + 1, by omega, by omega, rfl, by rw [HS.out]; exact HO3.out, HB3.out⟩
          case measure => simp [intOf]; omega
        · have e2 : wrap64 (rd q 0 + a0 - rd q k) = rd q 0 + a0 - rd q k := w64' (by omega) (by omega)
          have hy : gapAt a0 q k.toNat = rd q 0 + a0 - rd q k := by
            unfold gapAt
            rw [if_neg (by omega), Int.toNat_of_nonneg hk0]
          rw [hy] at HS
          clear hy
          go_wp2_with (first | ((with_reducible refine gate_builtin (b := .append) (xs := #[.tmp 47, .tmp 51]) rfl ?_); at_builtin; refine Kd.R_append (Kd.int .i64) (w0 := w4) w4.heap.size rfl (.tmp 47) (.tmp 51) 22 3 (.int .i64 0) 8 rfl Try.underlying22 info3 rfl (by decide) (by omega) u9 ((List.range k.toNat).map (gapAt a0 q)) (rd q 0 + a0 - rd q k) [.int .i64 (rd q 0 + a0 - rd q k)] (fun _ => True) (fun _ => False) rfl rfl ?aP (fun _ hk => hk.elim) ?aF ?aO ?aB ?aS ?aL ?_; (case aP => exact rfl); (case aB => repeat (first | exact HB2.out | apply below_alloc)); (case aF => exact (fun _ _ => trivial)); (case aO => repeat (first | exact HO.out | apply Kd.R_alloc)); (case aS => refine below_size (w := w4) ?_; repeat (first | exact HB2.out | apply below_alloc)); (case aL => simp; omega); intro v131 w16 ho hb hg hat; have HO3 := Lib.hid ho; have HB3 := Lib.hid hb; clear ho hb hg hat))
          go_roundw
          case rel => exact ⟨k + 1, by omega, by omega, rfl, by rw [HS.out]; exact HO3.out, HB3.out⟩
          case measure => simp [intOf]; omega
      · have hk : k = q.length := by omega
        subst hk
        have hg : (List.range (q.length : Int).toNat).map (gapAt a0 q) = gapsL a0 q := rfl
        have HO5 := Lib.hid (hg ▸ HO.out)
        have hgl : (gapsL a0 q).length = q.length := by simp [gapsL]
        go_wp2_with (first
          | (go_at_call 73; refine (sort_R HO5.out (by omega)).mono ?_; rintro e w5 ⟨rfl, hown, hb5⟩; have HO6 := Lib.hid hown; have HB5 := Lib.hid hb5; clear hown hb5)
          | (go_at_call 70; refine (compact_R HO6.out (by rw [sortI_len]; omega)).mono ?_; rintro e w6 ⟨v6, rfl, hown, hb6⟩; have HO7 := Lib.hid hown; have HB6 := Lib.hid hb6; clear hown hb6))
        go_ret2
        refine ⟨_, rfl, Kd.R_lower HO7.out HBa.out.size, ?_⟩
        exact HBa.out.trans (((Below.mono HB2.out HBa.out.size).trans (Below.mono HB5.out HBa.out.size)).trans (Below.mono HB6.out HBa.out.size))
  · rw [if_neg ok] at h
    simp only [Option.some.injEq, Prod.mk.injEq] at h
    obtain ⟨rfl, rfl⟩ := h
    have OK := Lib.hid ok
    clear ok
    go_enter Try.func48, Try.ntmps48
    go_wp2_with (go_at_call 56; refine (newLine_any _ _ _ l1 _ HR.out hc1).mono ?_; rintro e w' ⟨hb, ⟨hf, rfl⟩ | ⟨hf, _⟩⟩; rotate_left; (exact absurd hf OK.out); have HB := Lib.hid hb; clear hb hf)
    go_ret2
    exact ⟨_, rfl, Kd.R_nil _ _ _ _ _, HB.out⟩
end Go.Proofs.Ythngclneffngbaa.Pr
