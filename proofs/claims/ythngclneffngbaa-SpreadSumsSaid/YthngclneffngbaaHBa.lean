import Derived.Test.YthngclneffngbaaHMi
namespace Go.Proofs.Ythngclneffngbaa.Pr
open Go.RowKit Go.Proofs.YthngclneffngbaaW.PrintWords Go.Proofs.YthngclneffngbaaW.PrintLast Go.Proofs.YthngclneffngbaaW.PrintMore
set_option linter.unusedVariables false
set_option linter.unusedSimpArgs false

/-- Back's loop: the number so far, what is left, the power; none: the power is too great -/
def backP (b D : Int) : Nat → Int → Int → Int → Option Int
  | 0, _, _, _ => none
  | d + 1, out, rest, pw => if rest > 0 then (if pw > 1000000 then none else backP b D d (out + rest * b / D * pw) (rest * b % D) (pw * b)) else some out
def BackI (b D out rest pw : Int) : Prop := 0 ≤ out ∧ out < pw ∧ 0 ≤ rest ∧ rest < D ∧ 1 ≤ pw ∧ pw ≤ 16000000
theorem backI_step (b D out rest pw : Int) (hb : 2 ≤ b ∧ b ≤ 16) (hD : 1 ≤ D ∧ D ≤ 16000000) (h : BackI b D out rest pw) (hp : ¬ pw > 1000000) :
    BackI b D (out + rest * b / D * pw) (rest * b % D) (pw * b) ∧ 0 ≤ rest * b ∧ rest * b ≤ 256000000 ∧ 0 ≤ rest * b / D ∧ rest * b / D ≤ 15 ∧ 0 ≤ rest * b / D * pw ∧ rest * b / D * pw ≤ 15000000 := by
  obtain ⟨h1, h2, h3, h4, h5, h6⟩ := h
  have q1 := mul_bnd (a := rest) (b := b) (A := 16000000) h3 (by omega) (by omega) hb.2
  have q2 := Int.ediv_nonneg q1.1 (show 0 ≤ D by omega)
  have q3 : rest * b / D < b := by
    refine Int.ediv_lt_of_lt_mul (by omega) ?_
    rw [Int.mul_comm b]
    exact Int.mul_lt_mul_of_pos_right h4 (by omega)
  have q4 : 0 ≤ rest * b / D * pw := Int.mul_nonneg q2 (by omega)
  have q5 : rest * b / D * pw ≤ (b - 1) * pw := Int.mul_le_mul_of_nonneg_right (by omega) (by omega)
  have q6 : (b - 1) * pw ≤ 15 * pw := Int.mul_le_mul_of_nonneg_right (by omega) (by omega)
  have q7 := mul_bnd (a := pw) (b := b) (A := 1000000) (by omega) (by omega) (by omega) hb.2
  have q8 : pw * 1 ≤ pw * b := Int.mul_le_mul_of_nonneg_left (by omega) (by omega)
  rw [Int.sub_mul, Int.one_mul, Int.mul_comm b] at q5 q6
  exact ⟨⟨by omega, by omega, Int.emod_nonneg _ (by omega), Int.emod_lt_of_pos _ (by omega), by omega, by omega⟩, q1.1, by omega, q2, by omega, q4, by omega⟩
theorem back_loop (b D n0 : Int) (hb : 2 ≤ b ∧ b ≤ 16) (hD : 1 ≤ D ∧ D ≤ 16000000) : ∀ (d : Nat) (out rest pw : Int), BackI b D out rest pw → 1000000 < pw * 2 ^ d →
    Evt (fun k => spread_Back.l0 k b out rest pw n0 D) (match backP b D (d + 1) out rest pw with | none => (0, 6) | some v => if v > 1000000 then (0, 6) else (v, 0)) ∧
    Evt (fun k => numnahref03_Back.l0 k b rest out pw n0 D) (match backP b D (d + 1) out rest pw with | none => (0, false) | some v => (v, decide (v ≤ 1000000))) := by
  intro d
  induction d with
  | zero =>
    intro out rest pw h hp
    by_cases hr : rest > 0
    · simp only [backP, if_pos hr, if_pos (show pw > 1000000 by omega)]
      constructor
      · refine Evt.now fun k => ?_
        simp only [spread_Back.l0]
        rw [if_pos hr, if_pos (by omega)]
      · refine Evt.now fun k => ?_
        simp only [numnahref03_Back.l0]
        rw [if_pos hr, if_pos (by omega)]
    · simp only [backP, if_neg hr]
      constructor
      · refine Evt.now fun k => ?_
        simp only [spread_Back.l0]
        rw [if_neg hr]
        split <;> rfl
      · refine Evt.now fun k => ?_
        simp only [numnahref03_Back.l0]
        rw [if_neg hr]
  | succ d ih =>
    intro out rest pw h hp
    by_cases hr : rest > 0
    · by_cases hpw : pw > 1000000
      · rw [backP, if_pos hr, if_pos hpw]
        constructor
        · refine Evt.now fun k => ?_
          simp only [spread_Back.l0]
          rw [if_pos hr, if_pos hpw]
        · refine Evt.now fun k => ?_
          simp only [numnahref03_Back.l0]
          rw [if_pos hr, if_pos hpw]
      · obtain ⟨s1, s2, s3, s4, s5, s6, s7⟩ := backI_step b D out rest pw hb hD h hpw
        obtain ⟨h1, h2, h3, h4, h5, h6⟩ := h
        have hmul : 1000000 < pw * b * 2 ^ d := by
          rw [Int.pow_succ, Int.mul_comm (2 ^ d) 2, ← Int.mul_assoc] at hp
          have hp2 : (0 : Int) ≤ 2 ^ d := Int.le_of_lt (Int.pow_pos (by omega))
          have := Int.mul_le_mul_of_nonneg_right (Int.mul_le_mul_of_nonneg_left hb.1 (show 0 ≤ pw by omega)) hp2
          omega
        obtain ⟨e1, e2⟩ := ih _ _ _ s1 hmul
        have q7 := mul_bnd (a := pw) (b := b) (A := 1000000) (by omega) (by omega) (by omega) hb.2
        rw [backP, if_pos hr, if_neg hpw]
        constructor
        · refine Evt.step (fun k => ?_) e1
          simp only [spread_Back.l0]
          rw [if_pos hr, if_neg hpw, if_neg (by omega), wr (x := rest * b) (by omega) (by omega), Int.tdiv_eq_ediv_of_nonneg s2, Int.tmod_eq_emod_of_nonneg s2, wr (x := rest * b / D) (by omega) (by omega), wr (x := rest * b / D * pw) (by omega) (by omega), wr (x := out + _) (by omega) (by omega), wr (x := pw * b) (by omega) (by omega)]
        · refine Evt.step (fun k => ?_) e2
          simp only [numnahref03_Back.l0]
          rw [if_pos hr, if_neg hpw, if_neg (by omega), wr (x := rest * b) (by omega) (by omega), Int.tdiv_eq_ediv_of_nonneg s2, Int.tmod_eq_emod_of_nonneg s2, wr (x := rest * b / D) (by omega) (by omega), wr (x := rest * b / D * pw) (by omega) (by omega), wr (x := out + _) (by omega) (by omega), wr (x := pw * b) (by omega) (by omega)]
    · rw [backP, if_neg hr]
      constructor
      · refine Evt.now fun k => ?_
        simp only [spread_Back.l0]
        rw [if_neg hr]
        split <;> rfl
      · refine Evt.now fun k => ?_
        simp only [numnahref03_Back.l0]
        rw [if_neg hr]
/-- a denominator that is greater than the base times the greatest number is never used up -/
theorem backP_none (b D n0 : Int) (hb : 2 ≤ b ∧ b ≤ 16) (hD : b * 1000000 < D) (hn : 0 ≤ n0) (hg : Int.gcd n0 D = 1) : ∀ (d : Nat) (out rest pw : Int), 0 ≤ rest → 1 ≤ pw → pw ≤ b * 1000000 → (∃ q, n0 * pw = q * D + rest) → (rest = 0 → False) ∨ True → backP b D d out rest pw = none := by
  intro d
  induction d with
  | zero => intro out rest pw _ _ _ _ _; rfl
  | succ d ih =>
    intro out rest pw h1 h2 h3 hq _
    rw [backP]
    by_cases hr : rest > 0
    · rw [if_pos hr]
      by_cases hp : pw > 1000000
      · rw [if_pos hp]
      · rw [if_neg hp]
        refine ih _ _ _ (Int.emod_nonneg _ (by omega)) ?_ ?_ ?_ (.inr trivial)
        · have : pw * 1 ≤ pw * b := Int.mul_le_mul_of_nonneg_left (by omega) (by omega)
          omega
        · rw [Int.mul_comm]
          exact Int.mul_le_mul_of_nonneg_left (by omega) (by omega)
        · obtain ⟨q, hq⟩ := hq
          refine ⟨q * b + rest * b / D, ?_⟩
          have := Int.mul_ediv_add_emod (rest * b) D
          rw [← Int.mul_assoc, hq, Int.add_mul, Int.add_mul, Int.mul_right_comm q D b, Int.mul_comm (rest * b / D) D]
          omega
    · -- nothing is left: D divides the power
      exfalso
      obtain ⟨q, hq⟩ := hq
      have e : rest = 0 := by omega
      rw [e, Int.add_zero] at hq
      obtain ⟨n, rfl⟩ := Int.eq_ofNat_of_zero_le hn
      obtain ⟨D', rfl⟩ := Int.eq_ofNat_of_zero_le (show 0 ≤ D by omega)
      obtain ⟨p, rfl⟩ := Int.eq_ofNat_of_zero_le (show 0 ≤ pw by omega)
      rw [Int.gcd_natCast_natCast] at hg
      have hd : D' ∣ n * p := by
        have : (D' : Int) ∣ (n : Int) * p := ⟨q, by rw [hq, Int.mul_comm]⟩
        rw [← Int.natCast_mul] at this
        exact Int.natCast_dvd_natCast.1 this
      have hco : Nat.Coprime D' n := by rw [Nat.coprime_comm]; exact hg
      have hdp := Nat.Coprime.dvd_of_dvd_mul_left hco hd
      have := Nat.le_of_dvd (by omega) hdp
      omega
/-- what Back answers for a fraction that it takes -/
def okBack (b n D : Int) : Prop := (2 ≤ b ∧ b ≤ 16) ∧ 1 ≤ D ∧ 0 ≤ n ∧ n < D ∧ Int.gcd n D = 1
theorem back_no (b n D : Int) (hD : D ≤ 9223372036854775807) (h : ¬ okBack b n D) : Evt (fun k => spread_Back.f k b n D) (0, 2) := by
  have hj : Evt (fun k => spread_Back.j0 k b true n D) (0, 2) := by
    refine Evt.now fun k => ?_
    simp only [spread_Back.j0]
    simp
  unfold spread_Back.f
  simp only [within_eq, Option.bind_some]
  by_cases hb : 2 ≤ b ∧ b ≤ 16
  · simp only [decide_eq_true hb, if_true]
    by_cases h1 : D < 1
    · simp only [if_pos h1]
      exact hj
    · simp only [if_neg h1]
      rw [wr (by omega) (by omega)]
      by_cases h2 : 0 ≤ n ∧ n ≤ D - 1
      · simp only [decide_eq_true h2, if_true]
        refine Evt.bind (gcd_ev D.toNat n D h2.1 (by omega) (Nat.le_refl _)) ?_
        have h3 : ((Int.gcd n D : Int) != 1) = true := by
          rw [bne_iff_ne]
          intro e
          exact h ⟨hb, by omega, by omega, by omega, by omega⟩
        rw [h3]
        exact hj
      · simp only [decide_eq_false h2]
        simpa using hj
  · simp only [decide_eq_false hb]
    simpa using hj
theorem back_yes (b n D : Int) (hD9 : D ≤ 9223372036854775807) (h : okBack b n D) :
    Evt (fun k => spread_Back.f k b n D) (if D > b * 1000000 then (0, 6) else (match backP b D 21 0 n 1 with | none => (0, 6) | some v => if v > 1000000 then (0, 6) else (v, 0))) ∧
    Evt (fun k => numnahref03_Back.f k b n D) (if D > b * 1000000 then (0, false) else (match backP b D 21 0 n 1 with | none => (0, false) | some v => (v, decide (v ≤ 1000000)))) := by
  obtain ⟨hb, h1, h2, h3, h4⟩ := h
  have hbm : b * 1000000 ≤ 16000000 := by omega
  constructor
  · unfold spread_Back.f
    simp only [within_eq, Option.bind_some, decide_eq_true hb, if_true, if_neg (show ¬ D < 1 by omega)]
    rw [wr (by omega) (by omega)]
    simp only [decide_eq_true (show 0 ≤ n ∧ n ≤ D - 1 by omega), if_true]
    refine Evt.bind (gcd_ev D.toNat n D h2 (by omega) (Nat.le_refl _)) ?_
    rw [h4]
    by_cases hbig : D > 16000000
    · rw [if_pos (by omega)]
      refine Evt.now fun k => ?_
      simp only [spread_Back.j0]
      simp [hbig]
    · have hl := (back_loop b D n hb (by omega) 20 0 n 1 ⟨by omega, by omega, h2, h3, by omega, by omega⟩ (by omega)).1
      refine Evt.val (Evt.step (fun k => ?_) hl) ?_
      · simp only [spread_Back.j0]
        simp
        omega
      · by_cases hm : D > b * 1000000
        · rw [if_pos hm, backP_none b D n hb (by omega) h2 h4 21 0 n 1 h2 (by omega) (by omega) ⟨0, by omega⟩ (.inr trivial)]
        · rw [if_neg hm]
  · unfold numnahref03_Back.f
    rw [wr (by omega) (by omega)]
    by_cases hm : D > b * 1000000
    · simp only [if_pos hm]
      exact Evt.all fun _ => rfl
    · simp only [if_neg hm]
      exact (back_loop b D n hb (by omega) 20 0 n 1 ⟨by omega, by omega, h2, h3, by omega, by omega⟩ (by omega)).2
/-- the reference's word for a valid fraction -/
theorem valid_ev (n D : Int) (hn : -9223372036854775808 ≤ n ∧ n ≤ 9223372036854775807) (hD : -9223372036854775808 ≤ D ∧ D ≤ 9223372036854775807) : Evt (fun k => numnahref03_Valid.f k n D) (decide (1 ≤ D ∧ Int.gcd n D = 1)) := by
  unfold numnahref03_Valid.f
  by_cases h1 : D ≥ 1
  · simp only [if_pos h1, size_eq n hn.1 hn.2, Option.bind_some]
    have e : mx D 0 = D := by unfold mx; rw [if_neg (by omega)]
    rw [e, wu (by omega) (by omega)]
    have hg := rgcd_ev D.toNat n.natAbs D (by omega) (by omega) (Nat.le_refl _)
    have e : Int.gcd (n.natAbs : Int) D = Int.gcd n D := by simp [Int.gcd]
    rw [e] at hg
    refine Evt.bind hg (Evt.all fun k => ?_)
    congr 1
    by_cases h2 : Int.gcd n D = 1
    · rw [h2]; simp; omega
    · rw [decide_eq_false (fun h => h2 h.2)]
      simp
      omega
  · simp only [if_neg h1]
    rw [decide_eq_false (fun h => h1 h.1)]
    exact Evt.all fun _ => rfl
end Go.Proofs.Ythngclneffngbaa.Pr
