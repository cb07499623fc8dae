/- Mirror and Back go there and back, and mirrors add up: for every base, number and digit. -/
import Derived.Test.YthngclneffngbaaPrB7
import Derived.Test.YthngclneffngbaaHMr
namespace Go.Proofs.Ythngclneffngbaa.Pure
open Go.RowKit Go.Proofs.Ythngclneffngbaa.Pr Go.Proofs.YthngclneffngbaaW.PrintWords Go.Proofs.YthngclneffngbaaW.PrintLast Go.Proofs.YthngclneffngbaaW.PrintMore
set_option linter.unusedVariables false

theorem awake_bindT : Evt (fun k => (numnahlaw03_awake.f k).bind fun t => some t) true := Evt.congr awake_ev (fun k => by cases numnahlaw03_awake.f k <;> rfl)
theorem small_redF (n d : Int) (h : 1 ≤ d) (h2 : d ≤ 1000000000) (h3 : 0 ≤ n) (h4 : n < d) : smallB (redF n d).1 (redF n d).2 = true ∧ 0 ≤ (redF n d).1 ∧ (redF n d).1 < (redF n d).2 := by
  have p := redF_posM n d h
  have l := redF_leM n d h
  have g := redF_gcdM n d h
  have m := redF_mulM n d h
  have q0 : 0 ≤ (redF n d).1 := Int.ediv_nonneg h3 (by omega)
  have q1 : (redF n d).1 < (redF n d).2 := by
    rcases Int.lt_or_le (redF n d).1 (redF n d).2 with h | h
    · exact h
    · have e1 := Int.mul_le_mul_of_nonneg_right h (show 0 ≤ d by omega)
      have e2 := Int.mul_lt_mul_of_pos_right h4 (show 0 < (redF n d).2 by omega)
      have e3 : d * (redF n d).2 = (redF n d).2 * d := Int.mul_comm ..
      omega
  refine ⟨?_, q0, q1⟩
  unfold smallB
  rw [decide_eq_true_eq]
  exact ⟨⟨p, by omega⟩, ⟨by omega, by omega⟩, g⟩
theorem there_eq (b k d : Int) (hb : 2 ≤ b ∧ b ≤ 16) (hk : 0 ≤ k) (hd : 0 ≤ d ∧ d < b) (hkb : k * b + d ≤ 1000000) (M G : Int × Int) (hM : M = redF (mirF b k).1 ((mirF b k).2 * b)) (hG : G = redF d b) (hm : 1 ≤ (mirF b k).2) :
    redF (M.1 * G.2 + G.1 * M.2) (M.2 * G.2) = mirF b (k * b + d) := by
  have hmb : 1 ≤ (mirF b k).2 * b := by
    have := Int.mul_pos (show 0 < (mirF b k).2 by omega) (show 0 < b by omega)
    omega
  have hk20 : k < 2 ^ 20 := by
    have : k * 1 ≤ k * b := Int.mul_le_mul_of_nonneg_left (by omega) hk
    have e : (2 : Int) ^ 20 = 1048576 := by decide
    omega
  obtain ⟨r0, r1⟩ := mP_range b hb.1 20 k
  have a1 := redF_mulM (mirF b k).1 ((mirF b k).2 * b) hmb
  have a2 := redF_mulM d b (by omega)
  have p1 := redF_posM (mirF b k).1 ((mirF b k).2 * b) hmb
  have p2 := redF_posM d b (by omega)
  rw [← hM] at a1 p1
  rw [← hG] at a2 p2
  have a3 := redF_mulM (mP b 20 k).1 (mP b 20 k).2 (by omega)
  rw [← mirF_mP b k hb.1] at a3
  have hx : mirF b (k * b + d) = redF (d * (mP b 20 k).2 + (mP b 20 k).1) (b * (mP b 20 k).2) := by
    have h0 : 0 ≤ k * b := Int.mul_nonneg hk (by omega)
    have e20 : (2 : Int) ^ 20 = 1048576 := by decide
    rw [mirF_mP b _ hb.1, ← mP_grow b hb.1 20 (k * b + d) (by omega) (by omega)]
    by_cases hz : 0 < k * b + d
    · rw [mP_app b hb.1 20 k d hk hd hz]
    · have hk0 : k = 0 := by
        rcases Int.lt_or_le 0 k with h | h
        · have := Int.mul_pos h (show 0 < b by omega)
          omega
        · omega
      have hd0 : d = 0 := by omega
      subst hk0 hd0
      rw [Int.zero_mul, Int.zero_add, mP_zero, mP_zero]
      exact redF_eq (by omega) (by omega) (by simp)
  rw [hx]
  refine redF_eq (Int.mul_pos (show 0 < M.2 by omega) (show 0 < G.2 by omega)) (Int.mul_pos (show 0 < b by omega) (show 0 < (mP b 20 k).2 by omega)) ?_
  obtain ⟨N, hN⟩ : ∃ N, N = (mP b 20 k).1 := ⟨_, rfl⟩
  obtain ⟨E, hE⟩ : ∃ E, E = (mP b 20 k).2 := ⟨_, rfl⟩
  obtain ⟨m, hm'⟩ : ∃ m, m = (mirF b k).1 := ⟨_, rfl⟩
  obtain ⟨e, he⟩ : ∃ e, e = (mirF b k).2 := ⟨_, rfl⟩
  rw [← hm', ← he] at a1
  rw [← hN, ← hE, ← hm', ← he] at a3
  rw [← hN, ← hE]
  rw [← he] at hm
  obtain ⟨M1, M2⟩ := M
  obtain ⟨G1, G2⟩ := G
  dsimp only at a1 a2 ⊢
  -- M1 / M2 = m / (e b), G1 / G2 = d / b, m / e = N / E
  have k1 : M1 * (b * E) = N * M2 := by
    refine Int.eq_of_mul_eq_mul_right (a := e) (by omega) ?_
    calc M1 * (b * E) * e = (M1 * (e * b)) * E := by ac_rfl
      _ = (m * M2) * E := by rw [a1]
      _ = (m * E) * M2 := by ac_rfl
      _ = (N * e) * M2 := by rw [a3]
      _ = N * M2 * e := by ac_rfl
  calc (M1 * G2 + G1 * M2) * (b * E) = (M1 * (b * E)) * G2 + (G1 * b) * (M2 * E) := by rw [Int.add_mul]; congr 1 <;> ac_rfl
    _ = (N * M2) * G2 + (d * G2) * (M2 * E) := by rw [k1, a2]
    _ = (d * E + N) * (M2 * G2) := by rw [Int.add_mul, Int.add_comm]; congr 1 <;> ac_rfl
theorem SpreadThere : numnahlaw03_SpreadThere.Pure := by
  intro a0 a1 a2 _ _ _
  refine Evt.ex ?_
  unfold numnahlaw03_SpreadThere.f
  obtain ⟨t, ht⟩ : ∃ t, t = modF a0 15 := ⟨_, rfl⟩
  have ht1 := modF_range a0 15 (by omega)
  rw [mod_eq a0 15 (by omega) (by omega), ← ht]
  rw [← ht] at ht1
  simp only [Option.bind_some]
  obtain ⟨b, hbe⟩ : ∃ b, b = 2 + t := ⟨_, rfl⟩
  rw [wr (x := 2 + t) (by omega) (by omega), ← hbe, Int.tdiv_eq_ediv_of_nonneg (by omega)]
  have hb : 2 ≤ b ∧ b ≤ 16 := by omega
  simp only [if_neg (show ¬ b = 0 by omega)]
  obtain ⟨m, hme⟩ : ∃ m, m = (1000000 : Int) / b := ⟨_, rfl⟩
  have hm1 : m * b ≤ 1000000 := by rw [hme]; exact Int.ediv_mul_le _ (by omega)
  have hm2 : 1 ≤ m := by rw [hme]; exact (Int.le_ediv_iff_mul_le (by omega)).2 (by omega)
  have hm3 : m ≤ 1000000 := by rw [hme]; exact Int.ediv_le_self _ (by omega)
  rw [← hme, wr (x := m) (by omega) (by omega), mod_eq a1 m hm2 (by omega), mod_eq a2 b (by omega) (by omega)]
  have hk := modF_range a1 m hm2
  have hd := modF_range a2 b (by omega)
  generalize modF a1 m = k at hk ⊢
  generalize modF a2 b = d at hd ⊢
  simp only [Option.bind_some]
  have hkb0 : 0 ≤ k * b := Int.mul_nonneg hk.1 (by omega)
  have hkb1 : k * b + b ≤ 1000000 := by
    have := Int.mul_le_mul_of_nonneg_right (show k + 1 ≤ m by omega) (show 0 ≤ b by omega)
    rw [Int.add_mul] at this
    omega
  have hk6 : k ≤ 1000000 := by omega
  have hk20 : k < 2 ^ 20 := by
    have e : (2 : Int) ^ 20 = 1048576 := by decide
    omega
  rw [wr (x := k * b) (by omega) (by omega), wr (x := k * b + d) (by omega) (by omega)]
  refine Evt.bind (mirror_yes b k hb ⟨hk.1, hk6⟩) ?_
  dsimp only
  obtain ⟨r0, r1⟩ := mP_range b hb.1 20 k
  have hden : (mP b 20 k).2 ≤ 1000000 := by
    rcases mP_den b hb.1 20 k hk.1 with h | h
    · rw [Int.mul_comm] at h
      omega
    · omega
  obtain ⟨hs, n0, n1⟩ := small_redF (mP b 20 k).1 (mP b 20 k).2 (by omega) (by omega) r0 r1
  have hle := redF_leM (mP b 20 k).1 (mP b 20 k).2 (by omega)
  have a3 := redF_mulM (mP b 20 k).1 (mP b 20 k).2 (by omega)
  rw [← mirF_mP b k hb.1] at hs n0 n1 hle a3
  have sp := smallB_spec hs
  have hback := (back_yes b (mirF b k).1 (mirF b k).2 (by omega) ⟨hb, sp.1.1, n0, n1, sp.2.2⟩).1
  rw [if_neg (by omega), backP_mir b (mirF b k).2 hb sp.1.1 20 k 0 (mirF b k).1 1 hk.1 hk20 a3 (by omega) (by omega)] at hback
  dsimp only at hback
  rw [if_neg (by omega), show (0 : Int) + 1 * k = k by omega] at hback
  refine Evt.bind hback (Evt.bind (mirror_yes b (k * b + d) hb ⟨by omega, by omega⟩) ?_)
  dsimp only
  simp only [if_true]
  refine Evt.bind (valid_ev (mirF b k).1 (mirF b k).2 (by omega) (by omega)) ?_
  rw [decide_eq_true ⟨sp.1.1, sp.2.2⟩]
  simp only [if_true]
  simp only [if_neg (show ¬ (mirF b k).1 < 0 by omega), if_neg (show ¬ (mirF b k).1 ≥ (mirF b k).2 by omega), decide_eq_false (show ¬ (mirF b k).2 > 16000000 by omega)]
  have hmb := mul9 (x := (mirF b k).2) (y := b) (by omega) (by omega) (by omega) (by omega)
  have hmb2 : (mirF b k).2 * b ≤ 16000000 := by
    have := Int.mul_le_mul (a := (mirF b k).2) (b := b) (c := 1000000) (d := 16) (by omega) (by omega) (by omega) (by omega)
    omega
  have hmb3 : 1 ≤ (mirF b k).2 * b := Int.mul_pos (show 0 < (mirF b k).2 by omega) (show 0 < b by omega)
  have hlt : (mirF b k).1 < (mirF b k).2 * b := by
    have := Int.mul_le_mul_of_nonneg_left (show 1 ≤ b by omega) (show 0 ≤ (mirF b k).2 by omega)
    omega
  obtain ⟨s1, _, _⟩ := small_redF (mirF b k).1 ((mirF b k).2 * b) hmb3 (by omega) n0 hlt
  obtain ⟨s2, _, _⟩ := small_redF d b (by omega) (by omega) hd.1 hd.2
  have hfin := there_eq b k d hb hk.1 hd (by omega) _ _ rfl rfl sp.1.1
  refine Evt.step (g' := fun r => (numnahref03_Reduced.f r (mirF b k).1 ((mirF b k).2 * b)).bind fun bt382 => ((numnahref03_Reduced.f r d b).bind fun bt384 => ((spread_Add.f bt382.1 bt382.2 bt384.1 bt384.2).bind fun bt386 => (if bt386.2.2 = 0 then (if (bt386.1 == (mirF b (k * b + d)).1 && (bt386.2.1 == (mirF b (k * b + d)).2)) = true then ((numnahlaw03_awake.f r).bind fun t390 => (some t390)) else (some false)) else (some false))))) (fun r => ?_) ?_
  · simp only [numnahlaw03_SpreadThere.j0]
    rw [if_neg (by simp), wr (by omega) (by omega)]
  · refine Evt.bind (reduced_ev _ _ hmb3 (by omega) (by omega) (by omega)) (Evt.bind (reduced_ev _ _ (by omega) (by omega) (by omega) (by omega)) ?_)
    rw [add_yes _ _ _ _ s1 s2, hfin]
    simp only [Option.bind_some, if_true, beq_self_eq_true, Bool.and_self]
    exact awake_bindT
end Go.Proofs.Ythngclneffngbaa.Pure
