import Derived.Test.YthngclneffngbaaHT
import Derived.Test.YthngclneffngbaaPrA4
namespace Go.Proofs.Ythngclneffngbaa.Pr
open Go.RowKit Go.Proofs.YthngclneffngbaaW.PrintWords Go.Proofs.YthngclneffngbaaW.PrintLast Go.Proofs.YthngclneffngbaaW.PrintMore
set_option linter.unusedVariables false
set_option linter.unusedSimpArgs false

/-! ### powers and mirrors with a number of digits -/
def powL (b most : Int) : Int → Nat → Int
  | out, 0 => out
  | out, d + 1 => if out * b > most then 0 else powL b most (out * b) d
theorem powL_bound (b most : Int) (hb : 2 ≤ b) : ∀ (d : Nat) (out : Int), 1 ≤ out → out ≤ most → 0 ≤ powL b most out d ∧ powL b most out d ≤ most
  | 0, out, h1, h2 => by simp only [powL]; omega
  | d + 1, out, h1, h2 => by
    simp only [powL]
    have h3 := Int.mul_le_mul (a := 1) (b := 1) (c := out) (d := b) (by omega) (by omega) (by omega) (by omega)
    split
    · omega
    · exact powL_bound b most hb d (out * b) (by omega) (by omega)
theorem mul_bnd {a b A : Int} (h1 : 0 ≤ a) (h2 : a ≤ A) (h3 : 0 ≤ b) (h4 : b ≤ 16) : 0 ≤ a * b ∧ a * b ≤ A * 16 :=
  ⟨Int.mul_nonneg h1 h3, Int.mul_le_mul h2 h4 h3 (by omega)⟩
theorem power_loop (b most n : Int) (hb : 2 ≤ b ∧ b ≤ 16) (hm : most ≤ 1000) (hn : n ≤ 9) : ∀ (d : Nat) (i out : Int), 0 ≤ i → n - i = d → 1 ≤ out → out ≤ most →
    Evt (fun k => spread_power.l0 k b most out n i) (powL b most out d) := by
  intro d
  induction d with
  | zero =>
    intro i out hi hd h1 h2
    refine Evt.now fun k => ?_
    simp only [spread_power.l0]
    rw [if_neg (by omega)]
    rfl
  | succ d ih =>
    intro i out hi hd h1 h2
    have hmb := mul_bnd (a := out) (b := b) (A := 1000) (by omega) (by omega) (by omega) (by omega)
    by_cases hc : out * b > most
    · refine Evt.now fun k => ?_
      simp only [spread_power.l0]
      rw [if_pos (by omega), wr (x := out * b) (by omega) (by omega), if_pos hc]
      simp only [powL, if_pos hc]
    · have h3 := Int.mul_le_mul (a := 1) (b := 1) (c := out) (d := b) (by omega) (by omega) (by omega) (by omega)
      refine Evt.val (Evt.step (fun k => ?_) (ih (i + 1) (out * b) (by omega) (by omega) (by omega) (by omega))) (by simp only [powL, if_neg hc])
      simp only [spread_power.l0]
      rw [if_pos (by omega), wr (x := out * b) (by omega) (by omega), if_neg hc, wr (x := i + 1) (by omega) (by omega)]
theorem power_ev (b d most : Int) (hb : 2 ≤ b ∧ b ≤ 16) (hm : 1 ≤ most ∧ most ≤ 1000) (hd : 0 ≤ d ∧ d ≤ 9) : Evt (fun k => spread_power.f k b d most) (powL b most 1 d.toNat) :=
  power_loop b most d hb hm.2 hd.2 d.toNat 0 1 (by omega) (by omega) (by omega) (by omega)
theorem whole_loop (b most n : Int) (hb : 2 ≤ b ∧ b ≤ 16) (hm : most ≤ 1000) (hn : n ≤ 9) : ∀ (d : Nat) (i out : Int), 0 ≤ i → n - i = d → 1 ≤ out → out ≤ most →
    Evt (fun k => numnahref03_Whole.l0 k b n most out i) (powL b most out d) := by
  intro d
  induction d with
  | zero =>
    intro i out hi hd h1 h2
    refine Evt.now fun k => ?_
    simp only [numnahref03_Whole.l0]
    rw [if_neg (by omega)]
    rfl
  | succ d ih =>
    intro i out hi hd h1 h2
    have hmb := mul_bnd (a := out) (b := b) (A := 1000) (by omega) (by omega) (by omega) (by omega)
    by_cases hc : out * b > most
    · refine Evt.now fun k => ?_
      simp only [numnahref03_Whole.l0]
      rw [if_pos (by omega), wr (x := out * b) (by omega) (by omega), if_pos hc]
      simp only [powL, if_pos hc]
    · have h3 := Int.mul_le_mul (a := 1) (b := 1) (c := out) (d := b) (by omega) (by omega) (by omega) (by omega)
      refine Evt.val (Evt.step (fun k => ?_) (ih (i + 1) (out * b) (by omega) (by omega) (by omega) (by omega))) (by simp only [powL, if_neg hc])
      simp only [numnahref03_Whole.l0]
      rw [if_pos (by omega), wr (x := out * b) (by omega) (by omega), if_neg hc, wr (x := i + 1) (by omega) (by omega)]
theorem whole_ev (b d most : Int) (hm : 1 ≤ most ∧ most ≤ 1000) : Evt (fun k => numnahref03_Whole.f k b d most) (if (2 ≤ b ∧ b ≤ 16) ∧ 1 ≤ d ∧ d ≤ 9 then powL b most 1 d.toNat else 0) := by
  unfold numnahref03_Whole.f numnahref03_Base.f
  by_cases hb : 2 ≤ b ∧ b ≤ 16
  · rw [if_pos (show b ≥ 2 by omega), decide_eq_true (show b ≤ 16 by omega)]
    simp only [Option.bind_some, if_true]
    by_cases hd1 : d < 1
    · rw [if_neg (show ¬ ((2 ≤ b ∧ b ≤ 16) ∧ 1 ≤ d ∧ d ≤ 9) by omega)]
      simp only [if_pos hd1]
      refine Evt.now fun k => ?_
      simp only [numnahref03_Whole.j0, if_true]
    · simp only [if_neg hd1]
      by_cases hd2 : d > 9
      · rw [if_neg (show ¬ ((2 ≤ b ∧ b ≤ 16) ∧ 1 ≤ d ∧ d ≤ 9) by omega), decide_eq_true hd2]
        refine Evt.now fun k => ?_
        simp only [numnahref03_Whole.j0, if_true]
      · rw [if_pos (show ((2 ≤ b ∧ b ≤ 16) ∧ 1 ≤ d ∧ d ≤ 9) by omega), decide_eq_false hd2]
        refine Evt.step (fun k => ?_) (whole_loop b most d hb hm.2 (by omega) d.toNat 0 1 (by omega) (by omega) (by omega) (by omega))
        simp only [numnahref03_Whole.j0]
        simp
  · rw [if_neg (show ¬ ((2 ≤ b ∧ b ≤ 16) ∧ 1 ≤ d ∧ d ≤ 9) by omega)]
    by_cases hb2 : b ≥ 2
    · rw [if_pos hb2, decide_eq_false (show ¬ b ≤ 16 by omega)]
      simp only [Option.bind_some]
      refine Evt.now fun k => ?_
      simp only [numnahref03_Whole.j0]
      simp
    · rw [if_neg hb2]
      simp only [Option.bind_some]
      refine Evt.now fun k => ?_
      simp only [numnahref03_Whole.j0]
      simp
/-- the mirror of a number with a number of digits -/
def mirL (b : Int) : Int → Int → Nat → Int
  | out, _, 0 => out
  | out, x, d + 1 => mirL b (out * b + x % b) (x / b) d
theorem pow16 (d : Nat) : (1 : Int) ≤ 16 ^ d := by
  have : 0 < (16 : Int) ^ d := Int.pow_pos (by omega)
  omega
theorem mir_step (b out x : Int) (d : Nat) (hb : 2 ≤ b ∧ b ≤ 16) (h1 : 0 ≤ out) (h2 : (out + 1) * 16 ^ (d + 1) ≤ 68719476736) : out ≤ 68719476736 ∧ (out * b + x % b + 1) * 16 ^ d ≤ 68719476736 := by
  have p1 := pow16 (d + 1)
  have p0 := pow16 d
  have m1 := Int.emod_nonneg x (show b ≠ 0 by omega)
  have m2 := Int.emod_lt_of_pos x (show 0 < b by omega)
  have h3 : (out + 1) * 1 ≤ (out + 1) * 16 ^ (d + 1) := Int.mul_le_mul_of_nonneg_left p1 (by omega)
  refine ⟨by omega, ?_⟩
  have h4 : out * b ≤ out * 16 := Int.mul_le_mul_of_nonneg_left hb.2 h1
  have h5 : (out * b + x % b + 1) * 16 ^ d ≤ ((out + 1) * 16) * 16 ^ d := Int.mul_le_mul_of_nonneg_right (by omega) (by omega)
  have h6 : ((out + 1) * 16) * 16 ^ d = (out + 1) * 16 ^ (d + 1) := by rw [Int.mul_assoc, Int.pow_succ, Int.mul_comm 16]
  omega
theorem mirrored_loop (b n : Int) (hb : 2 ≤ b ∧ b ≤ 16) (hn : n ≤ 9) : ∀ (d : Nat) (i out x : Int), 0 ≤ i → n - i = d → 0 ≤ out → (out + 1) * 16 ^ d ≤ 68719476736 → 0 ≤ x → x ≤ 1000000 →
    Evt (fun k => spread_mirrored.l0 k b x out n i) (mirL b out x d) := by
  intro d
  induction d with
  | zero =>
    intro i out x hi hd h1 h2 h3 h4
    refine Evt.now fun k => ?_
    simp only [spread_mirrored.l0]
    rw [if_neg (by omega)]
    rfl
  | succ d ih =>
    intro i out x hi hd h1 h2 h3 h4
    obtain ⟨q1, q2⟩ := mir_step b out x d hb h1 h2
    have m1 := Int.emod_nonneg x (show b ≠ 0 by omega)
    have m2 := Int.emod_lt_of_pos x (show 0 < b by omega)
    have m3 := Int.ediv_nonneg h3 (show 0 ≤ b by omega)
    have m4 := Int.ediv_le_self b h3
    have hmb := mul_bnd (a := out) (b := b) (A := 68719476736) (by omega) (by omega) (by omega) (by omega)
    refine Evt.val (Evt.step (fun k => ?_) (ih (i + 1) (out * b + x % b) (x / b) (by omega) (by omega) (by omega) q2 (by omega) (by omega))) rfl
    simp only [spread_mirrored.l0]
    rw [if_pos (by omega), if_neg (by omega), Int.tdiv_eq_ediv_of_nonneg h3, Int.tmod_eq_emod_of_nonneg h3, wr (x := out * b) (by omega) (by omega), wr (x := out * b + x % b) (by omega) (by omega), wr (x := x / b) (by omega) (by omega), wr (x := i + 1) (by omega) (by omega)]
theorem turned_loop (b n : Int) (hb : 2 ≤ b ∧ b ≤ 16) (hn : n ≤ 9) : ∀ (d : Nat) (i out x : Int), 0 ≤ i → n - i = d → 0 ≤ out → (out + 1) * 16 ^ d ≤ 68719476736 → 0 ≤ x → x ≤ 1000000 →
    Evt (fun k => numnahref03_Turned.l0 k b n x out i) (mirL b out x d) := by
  intro d
  induction d with
  | zero =>
    intro i out x hi hd h1 h2 h3 h4
    refine Evt.now fun k => ?_
    simp only [numnahref03_Turned.l0]
    rw [if_neg (by omega)]
    rfl
  | succ d ih =>
    intro i out x hi hd h1 h2 h3 h4
    obtain ⟨q1, q2⟩ := mir_step b out x d hb h1 h2
    have m1 := Int.emod_nonneg x (show b ≠ 0 by omega)
    have m2 := Int.emod_lt_of_pos x (show 0 < b by omega)
    have m3 := Int.ediv_nonneg h3 (show 0 ≤ b by omega)
    have m4 := Int.ediv_le_self b h3
    have hmb := mul_bnd (a := out) (b := b) (A := 68719476736) (by omega) (by omega) (by omega) (by omega)
    refine Evt.val (Evt.step (fun k => ?_) (ih (i + 1) (out * b + x % b) (x / b) (by omega) (by omega) (by omega) q2 (by omega) (by omega))) rfl
    simp only [numnahref03_Turned.l0]
    rw [if_pos (by omega), if_neg (by omega), Int.tdiv_eq_ediv_of_nonneg h3, Int.tmod_eq_emod_of_nonneg h3, wr (x := out * b) (by omega) (by omega), wr (x := out * b + x % b) (by omega) (by omega), wr (x := x / b) (by omega) (by omega), wr (x := i + 1) (by omega) (by omega)]
theorem pow_le9 (d : Nat) (h : d ≤ 9) : (16 : Int) ^ d ≤ 68719476736 := by
  have : d = 0 ∨ d = 1 ∨ d = 2 ∨ d = 3 ∨ d = 4 ∨ d = 5 ∨ d = 6 ∨ d = 7 ∨ d = 8 ∨ d = 9 := by omega
  rcases this with rfl | rfl | rfl | rfl | rfl | rfl | rfl | rfl | rfl | rfl <;> decide
theorem mirrored_ev (b d x : Int) (hb : 2 ≤ b ∧ b ≤ 16) (hd : 0 ≤ d ∧ d ≤ 9) (hx : 0 ≤ x ∧ x ≤ 1000000) : Evt (fun k => spread_mirrored.f k b d x) (mirL b 0 x d.toNat) :=
  mirrored_loop b d hb hd.2 d.toNat 0 0 x (by omega) (by omega) (by omega) (by have := pow_le9 d.toNat (by omega); omega) hx.1 hx.2
theorem turned_ev (b d x : Int) (hb : 2 ≤ b ∧ b ≤ 16) (hd : 0 ≤ d ∧ d ≤ 9) (hx : 0 ≤ x ∧ x ≤ 1000000) : Evt (fun k => numnahref03_Turned.f k b d x) (mirL b 0 x d.toNat) :=
  turned_loop b d hb hd.2 d.toNat 0 0 x (by omega) (by omega) (by omega) (by have := pow_le9 d.toNat (by omega); omega) hx.1 hx.2

/-! ### Series and Pairs -/
def okSeries (b d n most : Int) : Prop := (2 ≤ b ∧ b ≤ 16) ∧ (1 ≤ d ∧ d ≤ 9) ∧ 1 ≤ n ∧ n ≤ 60 ∧ n ≤ powL b most 1 d.toNat
def mirs (b : Int) (d n : Nat) : List Int := (List.range n).map (fun (k : Nat) => mirL b 0 (k : Int) d)
theorem mirs_succ (b : Int) (d n : Nat) : mirs b d (n + 1) = mirs b d n ++ [mirL b 0 (n : Int) d] := by unfold mirs; rw [List.range_succ, List.map_append]; rfl
theorem series_loop (b d : Int) (n : Nat) (hb : 2 ≤ b ∧ b ≤ 16) (hd : 0 ≤ d ∧ d ≤ 9) (hn : n ≤ 60) : ∀ (m i : Nat), i ≤ n → n - i ≤ m → Evt (fun k => spread_Series.l0 k b d (mirs b d.toNat i) (n : Int) (i : Int)) (mirs b d.toNat n, 0) := by
  intro m
  induction m with
  | zero =>
    intro i hi hm
    obtain rfl : i = n := by omega
    refine Evt.now fun k => ?_
    simp only [spread_Series.l0]
    rw [if_neg (by omega)]
  | succ m ih =>
    intro i hi hm
    by_cases h : i = n
    · exact ih i hi (by omega)
    · refine Evt.step (g' := fun k => (spread_mirrored.f k b d i).bind fun t129 => spread_Series.l0 k b d (mirs b d.toNat i ++ [t129]) (n : Int) ((i + 1 : Nat) : Int)) (fun k => ?_) (Evt.bind (mirrored_ev b d i hb hd (by omega)) ?_)
      · simp only [spread_Series.l0]
        rw [if_pos (by omega), wr (by omega) (by omega)]
        congr 1
        funext t
        rw [if_pos (by simp [mirs]; omega)]
        rfl
      · rw [← mirs_succ]
        exact ih (i + 1) (by omega) (by omega)
theorem within_eq (a b c : Int) : spread_within.f a b c = some (decide (b ≤ a ∧ a ≤ c)) := by
  unfold spread_within.f
  by_cases h : a ≥ b
  · rw [if_pos h]
    congr 1
    rw [decide_eq_decide]
    omega
  · rw [if_neg h, decide_eq_false (by omega)]
theorem mn60 (x : Int) (n : Int) : (1 ≤ n ∧ n ≤ mn 60 x) ↔ (1 ≤ n ∧ n ≤ 60 ∧ n ≤ x) := by unfold mn; split <;> omega
theorem series_yes (b d n : Int) (h : okSeries b d n 1000) : Evt (fun k => spread_Series.f k b d n) (mirs b d.toNat n.toNat, 0) := by
  obtain ⟨hb, hd, h1, h2, h3⟩ := h
  unfold spread_Series.f
  simp only [within_eq, decide_eq_true hb, decide_eq_true hd, Option.bind_some, if_true]
  refine Evt.bind (power_ev b d 1000 hb (by omega) (by omega)) ?_
  rw [decide_eq_true ((mn60 _ n).2 ⟨h1, h2, h3⟩)]
  refine Evt.step (fun k => ?_) (Evt.val (series_loop b d n.toNat hb (by omega) (by omega) n.toNat 0 (by omega) (by omega)) rfl)
  simp only [spread_Series.j0, Bool.not_true]
  rw [Int.toNat_of_nonneg (by omega)]
  simp [mirs]
theorem series_no (b d n : Int) (h : ¬ okSeries b d n 1000) : Evt (fun k => spread_Series.f k b d n) (([] : List Int), 2) := by
  unfold spread_Series.f
  have hj : Evt (fun k => spread_Series.j0 k b d n true) (([] : List Int), 2) := by
    refine Evt.now fun k => ?_
    simp only [spread_Series.j0]
    simp
  simp only [within_eq, Option.bind_some]
  by_cases hb : 2 ≤ b ∧ b ≤ 16
  · simp only [decide_eq_true hb, if_true]
    by_cases hd : 1 ≤ d ∧ d ≤ 9
    · simp only [decide_eq_true hd, if_true]
      refine Evt.bind (power_ev b d 1000 hb (by omega) (by omega)) ?_
      rw [decide_eq_false (fun h2 => h ⟨hb, hd, (mn60 _ n).1 h2⟩)]
      exact hj
    · simp only [decide_eq_false hd]
      simpa using hj
  · simp only [decide_eq_false hb]
    simpa using hj

def prs (b : Int) (d n : Nat) : List S50 := (List.range n).map (fun (k : Nat) => (⟨(k : Int), mirL b 0 (k : Int) d⟩ : S50))
theorem prs_succ (b : Int) (d n : Nat) : prs b d (n + 1) = prs b d n ++ [⟨(n : Int), mirL b 0 (n : Int) d⟩] := by unfold prs; rw [List.range_succ, List.map_append]; rfl
theorem pairs_loop (b d : Int) (n : Nat) (hb : 2 ≤ b ∧ b ≤ 16) (hd : 0 ≤ d ∧ d ≤ 9) (hn : n ≤ 60) : ∀ (m i : Nat), i ≤ n → n - i ≤ m → Evt (fun k => spread_Pairs.l0 k b d (prs b d.toNat i) (n : Int) (i : Int)) (prs b d.toNat n, 0) := by
  intro m
  induction m with
  | zero =>
    intro i hi hm
    obtain rfl : i = n := by omega
    refine Evt.now fun k => ?_
    simp only [spread_Pairs.l0]
    rw [if_neg (by omega)]
  | succ m ih =>
    intro i hi hm
    by_cases h : i = n
    · exact ih i hi (by omega)
    · refine Evt.step (g' := fun k => (spread_mirrored.f k b d i).bind fun t129 => spread_Pairs.l0 k b d (prs b d.toNat i ++ [(⟨(i : Int), t129⟩ : S50)]) (n : Int) ((i + 1 : Nat) : Int)) (fun k => ?_) (Evt.bind (mirrored_ev b d i hb hd (by omega)) ?_)
      · simp only [spread_Pairs.l0]
        rw [if_pos (by omega), wr (by omega) (by omega)]
        congr 1
        funext t
        rw [if_pos (by simp [prs]; omega)]
        rfl
      · rw [← prs_succ]
        exact ih (i + 1) (by omega) (by omega)
theorem pairs_yes (b d : Int) (hb : 2 ≤ b ∧ b ≤ 16) (hd : 1 ≤ d ∧ d ≤ 9) (h : powL b 60 1 d.toNat ≠ 0) : Evt (fun k => spread_Pairs.f k b d) (prs b d.toNat (powL b 60 1 d.toNat).toNat, 0) := by
  have hbd := powL_bound b 60 hb.1 d.toNat 1 (by omega) (by omega)
  unfold spread_Pairs.f
  simp only [within_eq, decide_eq_true hb, decide_eq_true hd, Option.bind_some, if_true]
  have hp := power_ev b d 60 hb (by omega) (by omega)
  refine Evt.bind hp ?_
  refine Evt.step (g' := fun k => (spread_power.f k b d 60).bind fun t => spread_Pairs.l0 k b d ([] : List S50) t 0) (fun k => ?_) (Evt.bind hp ?_)
  · simp only [spread_Pairs.j0]
    rw [if_neg (by simpa using h)]
  · have := pairs_loop b d (powL b 60 1 d.toNat).toNat hb (by omega) (by omega) _ 0 (by omega) (Nat.le_refl _)
    rw [Int.toNat_of_nonneg hbd.1] at this
    exact this
theorem pairs_no (b d : Int) (h : ¬ ((2 ≤ b ∧ b ≤ 16) ∧ (1 ≤ d ∧ d ≤ 9) ∧ powL b 60 1 d.toNat ≠ 0)) : Evt (fun k => spread_Pairs.f k b d) (([] : List S50), 2) := by
  unfold spread_Pairs.f
  have hj : Evt (fun k => spread_Pairs.j0 k b d true) (([] : List S50), 2) := by
    refine Evt.now fun k => ?_
    simp only [spread_Pairs.j0]
    simp
  simp only [within_eq, Option.bind_some]
  by_cases hb : 2 ≤ b ∧ b ≤ 16
  · simp only [decide_eq_true hb, if_true]
    by_cases hd : 1 ≤ d ∧ d ≤ 9
    · simp only [decide_eq_true hd, if_true]
      refine Evt.bind (power_ev b d 60 hb (by omega) (by omega)) ?_
      have e : powL b 60 1 d.toNat = 0 := by
        by_cases e : powL b 60 1 d.toNat = 0
        · exact e
        · exact absurd ⟨hb, hd, e⟩ h
      rw [e]
      exact hj
    · simp only [decide_eq_false hd]
      simpa using hj
  · simp only [decide_eq_false hb]
    simpa using hj
end Go.Proofs.Ythngclneffngbaa.Pr
