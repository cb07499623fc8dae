import Derived.Test.YthngclneffngbaaHM
namespace Go.Proofs.Ythngclneffngbaa.Pr
open Go.RowKit Go.Proofs.YthngclneffngbaaW.PrintWords Go.Proofs.YthngclneffngbaaW.PrintLast Go.Proofs.YthngclneffngbaaW.PrintMore
set_option linter.unusedVariables false
set_option linter.unusedSimpArgs false

/-! ### mod and tame -/
theorem wrap_u64_range (x : Int) : 0 ≤ IntKind.u64.wrap x ∧ IntKind.u64.wrap x ≤ 18446744073709551615 := by
  simp only [IntKind.wrap, IntKind.bits, IntKind.signed]
  simp
  omega
def modF (x n : Int) : Int := IntKind.u64.wrap x % n
theorem modF_range (x n : Int) (h : 1 ≤ n) : 0 ≤ modF x n ∧ modF x n < n := ⟨Int.emod_nonneg _ (by omega), Int.emod_lt_of_pos _ (by omega)⟩
theorem mod_eq (x n : Int) (h1 : 1 ≤ n) (h2 : n ≤ 4000000000) : numnahlaw03_mod.f x n = some (modF x n) := by
  have hr := wrap_u64_range x
  have hm := modF_range x n h1
  unfold numnahlaw03_mod.f
  rw [wu (x := n) (by omega) (by omega), if_neg (by omega), Int.tmod_eq_emod_of_nonneg hr.1, wr (by unfold modF at hm; omega) (by unfold modF at hm; omega)]
  rfl
/-- the points that are made of any list -/
def tameL (s : Int) (l : List Int) : List Int := if l = [] then [0] else (l.take 60).map (fun x => modF x s)
def tameS (x most : Int) : Int := 1 + modF x most
theorem tame_loop (s : Int) (l : List Int) (hs : 1 ≤ s) (hs2 : s ≤ 1000) (hl : l.length * 8 ≤ 140737488351232) : ∀ (d : Nat) (i : Nat) (acc : List Int), (i = 0 → acc = [0]) → (0 < i → acc = (l.take i).map (fun x => modF x s)) → i ≤ 60 → i ≤ l.length → 60 - i ≤ d →
    Evt (fun k => numnahlaw03_tame.l0 k s l acc (i : Int)) (s, if l = [] then [0] else (l.take 60).map (fun x => modF x s)) := by
  intro d
  induction d with
  | zero =>
    intro i acc h0 h1 hi hi2 hd
    obtain rfl : i = 60 := by omega
    have hacc := h1 (by omega)
    have hne : l ≠ [] := by intro e; subst e; simp at hi2
    rw [if_neg hne, ← hacc]
    by_cases hlt : ((60 : Nat) : Int) < l.length
    · refine Evt.step (g' := fun k => numnahlaw03_tame.j1 k s l acc ((60 : Nat) : Int) false) (fun k => ?_) (Evt.now fun k => ?_)
      · simp only [numnahlaw03_tame.l0]; rw [if_pos hlt]; simp
      · simp only [numnahlaw03_tame.j1]; simp
    · refine Evt.step (g' := fun k => numnahlaw03_tame.j1 k s l acc ((60 : Nat) : Int) false) (fun k => ?_) (Evt.now fun k => ?_)
      · simp only [numnahlaw03_tame.l0]; rw [if_neg hlt]
      · simp only [numnahlaw03_tame.j1]; simp
  | succ d ih =>
    intro i acc h0 h1 hi hi2 hd
    by_cases h60 : i = 60
    · exact ih i acc h0 h1 hi hi2 (by omega)
    by_cases hlt : (i : Int) < l.length
    · have hne : l ≠ [] := by intro e; subst e; simp at hlt; omega
      have hi3 : i < l.length := by omega
      have htk : (l.take (i + 1)).map (fun x => modF x s) = (l.take i).map (fun x => modF x s) ++ [modF (rd l (i : Int)) s] := by
        rw [take_succ_rd l i hi3, List.map_append]
        rfl
      have hgo := ih (i + 1) ((l.take (i + 1)).map (fun x => modF x s)) (by omega) (fun _ => rfl) (by omega) (by omega) (by omega)
      refine Evt.step (g' := fun k => numnahlaw03_tame.j1 k s l acc (i : Int) true) (fun k => ?_) (Evt.step (fun k => ?_) hgo)
      · simp only [numnahlaw03_tame.l0]; rw [if_pos hlt]
        congr 1
        simp
        omega
      · simp only [numnahlaw03_tame.j1]
        rw [if_pos trivial]
        have hw : wrap64 ((i : Int) + 1) = ((i + 1 : Nat) : Int) := by rw [wr (by omega) (by omega)]; omega
        by_cases hz : i = 0
        · rw [if_pos (by omega), if_pos (by omega), if_pos hlt, mod_eq _ _ hs (by omega), Option.bind_some, if_pos (by simp), hw, htk]
          subst hz
          simp
        · rw [if_neg (by omega), if_pos (by omega), if_pos hlt, mod_eq _ _ hs (by omega), Option.bind_some, if_pos (by rw [h1 (by omega)]; simp; omega), hw, htk, h1 (by omega)]
    · have hil : i = l.length := by omega
      refine Evt.step (g' := fun k => numnahlaw03_tame.j1 k s l acc (i : Int) false) (fun k => ?_) (Evt.now fun k => ?_)
      · simp only [numnahlaw03_tame.l0]; rw [if_neg hlt]
      · simp only [numnahlaw03_tame.j1]
        rw [if_neg (by simp)]
        congr 2
        by_cases hz : i = 0
        · rw [h0 hz, if_pos (List.eq_nil_of_length_eq_zero (by omega))]
        · rw [h1 (by omega), if_neg (by intro e; subst e; simp at hil; omega), List.take_of_length_le (by omega), List.take_of_length_le (by omega)]
theorem tame_ev (x most : Int) (l : List Int) (h1 : 1 ≤ most) (h2 : most ≤ 1000) (hl : l.length * 8 ≤ 140737488351232) :
    Evt (fun k => numnahlaw03_tame.f k x l most) (tameS x most, tameL (tameS x most) l) := by
  have hm := modF_range x most h1
  unfold numnahlaw03_tame.f
  rw [mod_eq x most h1 (by omega)]
  simp only [Option.bind_some]
  rw [wr (by omega) (by omega)]
  exact tame_loop _ l (by omega) (by omega) hl 60 0 [0] (fun _ => rfl) (by omega) (by omega) (by omega) (by omega)
theorem tame_ok (x most : Int) (l : List Int) (h1 : 1 ≤ most) (h2 : most ≤ 1000) : 1 ≤ tameS x most ∧ tameS x most ≤ most ∧ okLine (tameS x most) (tameL (tameS x most) l) = true := by
  have hm := modF_range x most h1
  obtain ⟨s, hs⟩ : ∃ s, s = tameS x most := ⟨_, rfl⟩
  rw [← hs]
  have hsb : 1 ≤ s ∧ s ≤ most := by rw [hs]; unfold tameS; omega
  refine ⟨hsb.1, hsb.2, ?_⟩
  have hp : ∀ y, y ∈ tameL s l → 0 ≤ y ∧ y ≤ s - 1 := by
    intro y hy
    unfold tameL at hy
    split at hy
    · simp at hy; omega
    · obtain ⟨z, _, rfl⟩ := List.mem_map.1 hy
      have := modF_range z s hsb.1
      omega
  have hlen : 1 ≤ (tameL s l).length ∧ (tameL s l).length ≤ 60 := by
    unfold tameL
    split
    · simp
    · rename_i hne
      have := List.length_pos_iff.2 hne
      simp
      omega
  unfold okLine okPts
  simp only [Bool.and_eq_true, decide_eq_true_eq, List.all_eq_true]
  exact ⟨⟨hsb.1, by omega⟩, hlen, fun y hy => hp y hy⟩

/-! ### Best -/
def odds (n : Nat) : List Int := (List.range n).map (fun (k : Nat) => 2 * (k : Int) + 1)
theorem odds_succ (n : Nat) : odds (n + 1) = odds n ++ [2 * (n : Int) + 1] := by unfold odds; rw [List.range_succ, List.map_append]; rfl
theorem best_loop (n : Nat) (hn : n ≤ 60) : ∀ (d i : Nat), i ≤ n → n - i ≤ d → Evt (fun k => spread_Best.l0 k (n : Int) (odds i) (n : Int) (i : Int)) (1, 2 * (n : Int), odds n, 0) := by
  intro d
  induction d with
  | zero =>
    intro i hi hd
    obtain rfl : i = n := by omega
    refine Evt.now fun k => ?_
    simp only [spread_Best.l0]
    rw [if_neg (by omega), wr (by omega) (by omega)]
  | succ d ih =>
    intro i hi hd
    by_cases h : i = n
    · exact ih i hi (by omega)
    · refine Evt.step (fun k => ?_) (ih (i + 1) (by omega) (by omega))
      simp only [spread_Best.l0]
      rw [if_pos (by omega), if_pos (by simp [odds]; omega), odds_succ, wr (x := 2 * (i : Int)) (by omega) (by omega), wr (by omega) (by omega), wr (by omega) (by omega)]
      rfl
theorem best_ev (n : Nat) (h1 : 1 ≤ n) (h2 : n ≤ 60) : Evt (fun k => spread_Best.f k (n : Int)) (1, 2 * (n : Int), odds n, 0) := by
  unfold spread_Best.f spread_within.f
  rw [if_pos (by omega), decide_eq_true (by omega)]
  simp only [Option.bind_some]
  exact best_loop n h2 n 0 (by omega) (by omega)

theorem redF_one (n : Int) (h : 1 ≤ n) : redF n (n * (2 * n)) = (1, 2 * n) := by
  have e : (Int.gcd n (n * (2 * n)) : Int) = n := (Int.gcd_eq_left_iff_dvd (by omega)).2 (Int.dvd_mul_right ..)
  unfold redF
  rw [e, Int.ediv_self (by omega), Int.mul_ediv_cancel_left _ (by omega)]
end Go.Proofs.Ythngclneffngbaa.Pr
