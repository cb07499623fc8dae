import Derived.Test.YthngclneffngbaaHShP
namespace Go.Proofs.Ythngclneffngbaa.Pr
open Go.RowKit Go.Proofs.YthngclneffngbaaW.PrintWords Go.Proofs.YthngclneffngbaaW.PrintLast Go.Proofs.YthngclneffngbaaW.PrintMore
set_option linter.unusedVariables false
set_option linter.unusedSectionVars false
set_option linter.unusedSimpArgs false

theorem roff_eq (s n c x y : Int) (h1 : 0 ≤ s ∧ s ≤ 100) (h2 : 0 ≤ n ∧ n ≤ 60) (h3 : 0 ≤ c ∧ c ≤ 60) (h4 : 0 ≤ x ∧ x ≤ 100) (h5 : 0 ≤ y ∧ y ≤ 100) :
    numnahref03_off.f (wrap64 (wrap64 (c * s) * s)) (wrap64 (wrap64 (x * y) * n)) = some (offS s n c x y) := by
  obtain ⟨⟨p1, p2⟩, ⟨p3, p4⟩, ⟨p5, p6⟩, p7, p8⟩ := offS_pre s n c x y h1 h2 h3 h4 h5
  rw [wr (x := c * s) (by omega) (by omega), wr (x := c * s * s) (by omega) (by omega), wr (x := x * y) (by omega) (by omega), wr (x := x * y * n) (by omega) (by omega)]
  unfold numnahref03_off.f
  rw [wr (by omega) (by omega), wr (by omega) (by omega)]
  unfold offS mx
  congr 1
  split <;> split <;> omega
theorem rowsL_len (s : Int) (l : List S50) (n : Nat) : (rowsL s l n).length = n := by simp [rowsL]
theorem rowsL_rd (s : Int) (l : List S50) (n : Nat) (i : Int) (h0 : 0 ≤ i) (h1 : i < n) : rd_L1 (rowsL s l n) i = rowL (s + 1).toNat (fun t => cnt2 l i t) := by
  have : i.toNat < n := by omega
  simp [rd_L1, rowsL, this, Int.toNat_of_nonneg h0]
section
variable (s : Int) (l : List S50) (hs : 1 ≤ s ∧ s ≤ 100) (hl : l.length ≤ 60)
include hs hl
abbrev upW (x y : Int) : List Wit := witAll s l.length (cnt2 l) x.toNat ++ witRow s l.length (cnt2 l) x y.toNat
def finW (b : Wit) : Int × Int × Int × Int × Bool := ((redF b.2.2.1 (s * s * l.length)).1, (redF b.2.2.1 (s * s * l.length)).2, b.1, b.2.1, b.2.2.2)
theorem rsh_l4 (x : Int) (hx0 : 0 ≤ x) (hx1 : x ≤ s) (r : Int × Int × Int × Int × Bool)
    (hnext : ∀ b : Wit, b = bestW (witAll s l.length (cnt2 l) (x + 1).toNat) → Evt (fun k => numnahref03_Sheet.l3 k s l (rowsL s l (s + 1).toNat) b.2.2.1 b.2.2.2 (x + 1) b.1 b.2.1) r) : ∀ (d : Nat) (y : Int), 0 ≤ y → y ≤ s + 1 → (s + 1 - y).toNat ≤ d → ∀ b : Wit, b = bestW (upW s l x y) →
    Evt (fun k => numnahref03_Sheet.l4 k s l (rowsL s l (s + 1).toNat) b.2.2.1 b.2.2.2 x y b.1 b.2.1) r := by
  intro d
  induction d with
  | zero =>
    intro y y0 y1 hd b hb
    obtain rfl : y = s + 1 := by omega
    refine Evt.step (fun k => ?_) (hnext b ?_)
    · simp only [numnahref03_Sheet.l4]
      rw [if_neg (by omega), wr (by omega) (by omega)]
    · rw [hb, show (x + 1).toNat = x.toNat + 1 by omega, witAll, Int.toNat_of_nonneg hx0]
  | succ d ih =>
    intro y y0 y1 hd b hb
    by_cases h : y = s + 1
    · exact ih y y0 y1 (by omega) b hb
    · have c1 := cnt2_le l x y
      have c2 := cnt2_le l (x + 1) (y + 1)
      have hup : upW s l x (y + 1) = upW s l x y ++ witAt s l.length (cnt2 l) x y := by
        unfold upW
        rw [show (y + 1).toNat = y.toNat + 1 by omega, witRow, List.append_assoc, Int.toNat_of_nonneg y0]
      -- the second place
      have hsec : ∀ b1 : Wit, b1 = bestW (upW s l x y ++ if 0 < x ∧ 0 < y then [(x, y, offS s l.length (cnt2 l x y) x y, true)] else []) →
          Evt (fun k => numnahref03_Sheet.j6 k s l (rowsL s l (s + 1).toNat) b1.2.2.1 b1.2.2.2 x y (wrap64 (wrap64 (x * y) * l.length)) b1.1 b1.2.1) r := by
        intro b1 hb1
        have hi := ih (y + 1) (by omega) (by omega) (by omega)
        rw [hup] at hi
        unfold witAt at hi
        rw [← List.append_assoc] at hi
        by_cases hg : x < s ∧ y < s
        · rw [if_pos hg, bestW_snoc, ← hb1] at hi
          refine Evt.step (g' := fun k => numnahref03_Sheet.j7 k s l (rowsL s l (s + 1).toNat) b1.2.2.1 b1.2.2.2 x y (wrap64 (wrap64 (x * y) * l.length)) true b1.1 b1.2.1) (fun k => ?_) ?_
          · simp only [numnahref03_Sheet.j6]
            rw [if_pos hg.1, decide_eq_true hg.2]
          · by_cases hgt : b1.2.2.1 < offS s l.length (cnt2 l (x + 1) (y + 1)) x y
            · refine Evt.step (fun k => ?_) (hi _ rfl)
              simp only [numnahref03_Sheet.j7]
              rw [if_true, wr (x := x + 1) (by omega) (by omega), wr (x := y + 1) (by omega) (by omega), if_pos (by omega), if_pos (by rw [rowsL_len]; omega), if_pos (by omega), rowsL_rd _ _ _ _ (by omega) (by omega), if_pos (by rw [rowL_len]; omega), rowL_rd _ _ _ (by omega) (by omega), roff_eq s l.length _ x y (by omega) (by omega) (by omega) (by omega) (by omega)]
              simp only [Option.bind_some]
              rw [if_pos (by omega)]
              simp [bestStep, hgt]
            · refine Evt.step (fun k => ?_) (hi _ rfl)
              simp only [numnahref03_Sheet.j7]
              rw [if_true, wr (x := x + 1) (by omega) (by omega), wr (x := y + 1) (by omega) (by omega), if_pos (by omega), if_pos (by rw [rowsL_len]; omega), if_pos (by omega), rowsL_rd _ _ _ _ (by omega) (by omega), if_pos (by rw [rowL_len]; omega), rowL_rd _ _ _ (by omega) (by omega), roff_eq s l.length _ x y (by omega) (by omega) (by omega) (by omega) (by omega)]
              simp only [Option.bind_some]
              rw [if_neg (by omega)]
              simp [bestStep, hgt]
        · rw [if_neg hg, List.append_nil, ← hb1] at hi
          refine Evt.step (g' := fun k => numnahref03_Sheet.j7 k s l (rowsL s l (s + 1).toNat) b1.2.2.1 b1.2.2.2 x y (wrap64 (wrap64 (x * y) * l.length)) false b1.1 b1.2.1) (fun k => ?_) ?_
          · simp only [numnahref03_Sheet.j6]
            by_cases hgx : x < s
            · rw [if_pos hgx, decide_eq_false (by omega)]
            · rw [if_neg hgx]
          · refine Evt.step (fun k => ?_) (hi _ rfl)
            simp only [numnahref03_Sheet.j7]
            rw [if_neg (by simp), wr (x := y + 1) (by omega) (by omega)]
      by_cases hg : 0 < x ∧ 0 < y
      · rw [if_pos hg, bestW_snoc, ← hb] at hsec
        refine Evt.step (g' := fun k => numnahref03_Sheet.j5 k s l (rowsL s l (s + 1).toNat) b.2.2.1 b.2.2.2 x y (wrap64 (wrap64 (x * y) * l.length)) true b.1 b.2.1) (fun k => ?_) ?_
        · simp only [numnahref03_Sheet.l4]
          rw [if_pos (by omega), if_pos (by omega), decide_eq_true (by omega)]
        · by_cases hgt : b.2.2.1 < offS s l.length (cnt2 l x y) x y
          · refine Evt.step (fun k => ?_) (hsec _ rfl)
            simp only [numnahref03_Sheet.j5]
            rw [if_true, if_pos (by omega), if_pos (by rw [rowsL_len]; omega), if_pos (by omega), rowsL_rd _ _ _ _ (by omega) (by omega), if_pos (by rw [rowL_len]; omega), rowL_rd _ _ _ (by omega) (by omega), roff_eq s l.length _ x y (by omega) (by omega) (by omega) (by omega) (by omega)]
            simp only [Option.bind_some]
            rw [if_pos (by omega)]
            simp [bestStep, hgt]
          · refine Evt.step (fun k => ?_) (hsec _ rfl)
            simp only [numnahref03_Sheet.j5]
            rw [if_true, if_pos (by omega), if_pos (by rw [rowsL_len]; omega), if_pos (by omega), rowsL_rd _ _ _ _ (by omega) (by omega), if_pos (by rw [rowL_len]; omega), rowL_rd _ _ _ (by omega) (by omega), roff_eq s l.length _ x y (by omega) (by omega) (by omega) (by omega) (by omega)]
            simp only [Option.bind_some]
            rw [if_neg (by omega)]
            simp [bestStep, hgt]
      · rw [if_neg hg, List.append_nil, ← hb] at hsec
        refine Evt.step (g' := fun k => numnahref03_Sheet.j5 k s l (rowsL s l (s + 1).toNat) b.2.2.1 b.2.2.2 x y (wrap64 (wrap64 (x * y) * l.length)) false b.1 b.2.1) (fun k => ?_) ?_
        · simp only [numnahref03_Sheet.l4]
          rw [if_pos (by omega)]
          by_cases hgx : x > 0
          · rw [if_pos hgx, decide_eq_false (by omega)]
          · rw [if_neg hgx]
        · refine Evt.step (fun k => ?_) (hsec _ rfl)
          simp only [numnahref03_Sheet.j5]
          rw [if_neg (by simp)]
theorem rsh_l3 (hn : 1 ≤ l.length) : ∀ (d : Nat) (x : Int), 0 ≤ x → x ≤ s + 1 → (s + 1 - x).toNat ≤ d → ∀ b : Wit, b = bestW (witAll s l.length (cnt2 l) x.toNat) → (-1 ≤ (bestW (witAll s l.length (cnt2 l) (s + 1).toNat)).2.2.1 ∧ (bestW (witAll s l.length (cnt2 l) (s + 1).toNat)).2.2.1 ≤ 600000) →
    Evt (fun k => numnahref03_Sheet.l3 k s l (rowsL s l (s + 1).toNat) b.2.2.1 b.2.2.2 x b.1 b.2.1) (finW s l (bestW (witAll s l.length (cnt2 l) (s + 1).toNat))) := by
  intro d
  induction d with
  | zero =>
    intro x x0 x1 hd b hb hbd
    obtain rfl : x = s + 1 := by omega
    rw [← hb] at hbd ⊢
    have m1 := bnd_mul (a := s) (b := s) (A := 100) (B := 100) (by omega) (by omega) (by omega) (by omega)
    have m2 := bnd_mul (a := s * s) (b := (l.length : Int)) (A := 10000) (B := 60) (by omega) (by omega) (by omega) (by omega)
    have m3 : 1 ≤ s * s := by
      have := Int.mul_le_mul (a := 1) (b := 1) (c := s) (d := s) (by omega) (by omega) (by omega) (by omega)
      omega
    have m4 : 1 ≤ s * s * l.length := by
      have := Int.mul_le_mul (a := 1) (b := 1) (c := s * s) (d := (l.length : Int)) (by omega) (by omega) (by omega) (by omega)
      omega
    have hr := reduced_ev b.2.2.1 (s * s * l.length) m4 (by omega) (by omega) (by omega)
    refine Evt.step (g' := fun k => (numnahref03_Reduced.f k b.2.2.1 (s * s * l.length)).bind fun bt => some (bt.1, bt.2, b.1, b.2.1, b.2.2.2)) (fun k => ?_) (Evt.bind hr (Evt.all fun k => rfl))
    simp only [numnahref03_Sheet.l3]
    rw [if_neg (by omega), wr (x := s * s) (by omega) (by omega), wr (by omega) (by omega)]
  | succ d ih =>
    intro x x0 x1 hd b hb hbd
    by_cases h : x = s + 1
    · exact ih x x0 x1 (by omega) b hb hbd
    · have h4 := rsh_l4 s l hs hl x x0 (by omega) (finW s l (bestW (witAll s l.length (cnt2 l) (s + 1).toNat))) (fun b' hb' => ih (x + 1) (by omega) (by omega) (by omega) b' hb' hbd) (s + 1).toNat 0 (by omega) (by omega) (by omega) b (by rw [hb]; simp [upW, witRow])
      refine Evt.step (fun k => ?_) h4
      simp only [numnahref03_Sheet.l3]
      rw [if_pos (by omega)]
end
theorem rsheet_ev (s : Int) (l : List S50) (ok : okSheet s l = true) : Evt (fun k => numnahref03_Sheet.f k s l) (finW s l (sheetW s l)) := by
  obtain ⟨h1, h2, h3⟩ := okSheet_bounds ok
  have hb := sheetW_bound s l ok
  have e3 := rsh_l3 s l h1 h2.2 h2.1 (s + 1).toNat 0 (by omega) (by omega) (by omega) (0, 0, -1, false) rfl hb
  exact rsh_l0 s l h1 h2.2 h3 _ e3 (s + 1).toNat 0 (by omega) (by omega)
end Go.Proofs.Ythngclneffngbaa.Pr
