import Derived.Test.YthngclneffngbaaHFw
namespace Go.Proofs.Ythngclneffngbaa.Pr
open Go.RowKit Go.Proofs.YthngclneffngbaaW.PrintWords Go.Proofs.YthngclneffngbaaW.PrintLast Go.Proofs.YthngclneffngbaaW.PrintMore
set_option linter.unusedVariables false

theorem flF_map (l : List Int) : flF l l.length = l.map (fun v => (⟨v, 0⟩ : S50)) := by
  apply List.ext_getElem
  · simp [flF]
  · intro i h1 h2
    have : i < l.length := by simpa [flF] using h1
    simp [flF, rd, this]
theorem cnt2_swap (m : List S50) (x y : Int) : cnt2 (m.map (fun p => (⟨p.f1, p.f0⟩ : S50))) y x = cnt2 m x y := by
  induction m with
  | nil => rfl
  | cons p m ih =>
    rw [List.map_cons, cnt2_cons, cnt2_cons, ih]
    by_cases h : p.f0 < x ∧ p.f1 < y
    · rw [if_pos h, if_pos ⟨h.2, h.1⟩]
    · rw [if_neg h, if_neg (fun k => h ⟨k.2, k.1⟩)]
theorem cnt2_perm {l m : List S50} (h : l.Perm m) (x y : Int) : cnt2 l x y = cnt2 m x y := by
  unfold cnt2
  rw [(h.filter _).length_eq]
theorem flT_swap (s : Int) (l more : List Int) (k : Nat) : flT s l more k = (flB s l more k).map (fun p => (⟨p.f1, p.f0⟩ : S50)) := by
  unfold flT flB
  rw [List.map_map]
  rfl
theorem okSheet_mk {s : Int} {l : List S50} (h1 : 1 ≤ s ∧ s ≤ 100) (h2 : 1 ≤ l.length ∧ l.length ≤ 60) (h3 : ∀ p ∈ l, (0 ≤ p.f0 ∧ p.f0 ≤ s - 1) ∧ 0 ≤ p.f1 ∧ p.f1 ≤ s - 1) : okSheet s l = true := by
  unfold okSheet okPts2
  simp only [Bool.and_eq_true, decide_eq_true_eq, List.all_eq_true]
  exact ⟨h1, h2, fun p hp => h3 p hp⟩
theorem flat_facts (a0 : Int) (l1 more : List Int) (hl : l1.length * 8 ≤ 140737488351232) : ∃ s l d1 d2 a1 a2 b1 b2 dp dq p1 q1 p2 q2 p3 q3 o1 o2 o3, FlatF a0 l1 more s l d1 d2 a1 a2 b1 b2 dp dq p1 q1 p2 q2 p3 q3 o1 o2 o3 := by
  obtain ⟨h1, h2, ok⟩ := tame_ok a0 30 l1 (by omega) (by omega)
  have ht := tame_ev a0 30 l1 (by omega) (by omega) hl
  obtain ⟨s, hs⟩ : ∃ s, s = tameS a0 30 := ⟨_, rfl⟩
  rw [← hs] at h1 h2 ok ht
  obtain ⟨l, hl2⟩ : ∃ l, l = tameL s l1 := ⟨_, rfl⟩
  rw [← hl2] at ok ht
  obtain ⟨b1, b2, b3, b4⟩ := okLine_bounds ok
  have hall : ∀ j : Nat, j < l.length → 0 ≤ rd l (j : Int) ∧ rd l (j : Int) ≤ s - 1 := by
    intro j hj
    exact okPts_mem (okLine_pts ok) (by simp [rd, hj])
  have okF : okSheet s (flF l l.length) = true := okSheet_mk ⟨by omega, by omega⟩ (by rw [flF_len]; omega) (by
    intro p hp
    obtain ⟨j, hj, rfl⟩ := List.mem_map.1 hp
    have := hall j (List.mem_range.1 hj)
    dsimp only
    omega)
  have okB : okSheet s (flB s l more l.length) = true := okSheet_mk ⟨by omega, by omega⟩ (by rw [flB_len]; omega) (by
    intro p hp
    obtain ⟨j, hj, rfl⟩ := List.mem_map.1 hp
    have := hall j (List.mem_range.1 hj)
    have := flY_range s more j h1
    dsimp only
    omega)
  have okR : okSheet s (flT s l more l.length).reverse = true := okSheet_mk ⟨by omega, by omega⟩ (by rw [List.length_reverse, flT_len]; omega) (by
    intro p hp
    obtain ⟨j, hj, rfl⟩ := List.mem_map.1 (List.mem_reverse.1 hp)
    have := hall j (List.mem_range.1 hj)
    have := flY_range s more j h1
    dsimp only
    omega)
  have eL := spread_Line.f.eq_1 s l
  rw [if_pos ok] at eL
  have eF := spread_Sheet.f.eq_1 s (flF l l.length)
  rw [if_pos okF, flF_len] at eF
  have eB := spread_Sheet.f.eq_1 s (flB s l more l.length)
  rw [if_pos okB, flB_len] at eB
  have eR := spread_Sheet.f.eq_1 s (flT s l more l.length).reverse
  rw [if_pos okR, List.length_reverse, flT_len] at eR
  have hsw : (sheetW s (flT s l more l.length).reverse).2.2.1 = (sheetW s (flB s l more l.length)).2.2.1 := by
    unfold sheetW
    rw [List.length_reverse, flT_len, flB_len]
    refine (sheet_swap s l.length (cnt2 (flB s l more l.length)) (cnt2 (flT s l more l.length).reverse) (fun x y => ?_)).symm
    rw [cnt2_perm (List.reverse_perm _), flT_swap, cnt2_swap]
  rw [hsw] at eR
  have hfar : (lineW s l.length (cnt l) (s + 1).toNat).1 * s ≤ (sheetW s (flF l l.length)).2.2.1 := by
    have := flat_far s l ok (by omega)
    unfold sheetW
    rw [flF_len, flF_map]
    exact this
  have hhalf := line_half s l ok
  have hlb := lineW_bound s l (by omega) (by omega) (s + 1).toNat (by omega)
  have hsb := sheetW_bound s (flF l l.length) okF
  have m1 := bnd_mul (a := l.length) (b := s) (A := 60) (B := 30) (by omega) (by omega) (by omega) (by omega)
  have m2 := bnd_mul (a := l.length * s) (b := s) (A := 1800) (B := 30) (by omega) (by omega) (by omega) (by omega)
  have m3 : 1 ≤ (l.length : Int) * s := by
    have := Int.mul_le_mul (a := 1) (b := 1) (c := (l.length : Int)) (d := s) (by omega) (by omega) (by omega) (by omega)
    omega
  have m4 : 1 ≤ (l.length : Int) * s * s := by
    have := Int.mul_le_mul (a := 1) (b := 1) (c := (l.length : Int) * s) (d := s) (by omega) (by omega) (by omega) (by omega)
    omega
  have hoff : 0 ≤ (sheetW s (flF l l.length)).2.2.1 := by
    have := Int.mul_nonneg (show 0 ≤ (lineW s l.length (cnt l) (s + 1).toNat).1 by omega) (show 0 ≤ s by omega)
    omega
  have r1 := redF_range (sheetW s (flF l l.length)).2.2.1 (l.length * s * s) 600000 m4 hoff hsb.2
  have r2 := redF_range (lineW s l.length (cnt l) (s + 1).toNat).1 (l.length * s) 120000 m3 (by omega) hlb.2
  refine ⟨s, l, _, _, _, _, _, _, _, _, _, _, _, _, _, _, _, _, _, ht.ex, ⟨h1, h2⟩, ⟨by omega, by omega⟩, eL, eF, eB, eR, ?_⟩
  rw [less_eq _ _ _ _ (by omega) (by omega) (by omega) (by omega), decide_eq_false (flat_less _ _ _ _ m3 m4 h1 hfar)]
def numnahlaw03_SpreadFlat.f (a0 : Int) (l1 l2 : List Int) : Option Bool := if l1.length * 8 ≤ 140737488351232 ∧ l2.length * 8 ≤ 140737488351232 then some true else none
theorem numnahlaw03_SpreadFlat.calls (a0 : Int) (A1 : Option Addr) (c1 : Nat) (l1 : List Int) (A2 : Option Addr) (c2 : Nat) (l2 : List Int) (r : Bool) (w : World) (hr1 : Kd.C (Kd.int .i64) w A1 l1.length l1) (hc1 : l1.length ≤ c1) (hr2 : Kd.C (Kd.int .i64) w A2 l2.length l2) (hc2 : l2.length ≤ c2) (h : numnahlaw03_SpreadFlat.f a0 l1 l2 = some r) :
    Calls Try.prog 12 #[.int .i64 a0, .slice A1 l1.length c1, .slice A2 l2.length c2] w fun e w' => e = .returned (.bool r) ∧ Below w.heap.size w w' := by
  unfold numnahlaw03_SpreadFlat.f at h
  by_cases hl : l1.length * 8 ≤ 140737488351232 ∧ l2.length * 8 ≤ 140737488351232
  · rw [if_pos hl] at h
    obtain rfl : r = true := by simpa using h.symm
    obtain ⟨s, l, d1, d2, a1, a2, b1, b2, dp, dq, p1, q1, p2, q2, p3, q3, o1, o2, o3, hf⟩ := flat_facts a0 l1 l2 hl.1
    exact flat_walk a0 A1 c1 l1 A2 c2 l2 w hr1 hc1 hr2 hc2 hl.2 s l d1 d2 a1 a2 b1 b2 dp dq p1 q1 p2 q2 p3 q3 o1 o2 o3 hf
  · rw [if_neg hl] at h
    cases h
end Go.Proofs.Ythngclneffngbaa.Pr
