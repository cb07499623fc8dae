import Derived.Test.YthngclneffngbaaPrA16
import Derived.Test.YthngclneffngbaaHR
import Derived.Test.YthngclneffngbaaHGp
namespace Go.Proofs.Ythngclneffngbaa.Pr
open Go.RowKit Go.Proofs.YthngclneffngbaaW.PrintWords Go.Proofs.YthngclneffngbaaW.PrintLast Go.Proofs.YthngclneffngbaaW.PrintMore
set_option linter.unusedVariables false
set_option linter.unusedSectionVars false

def takenL (s : Int) (l : List Int) (i : Nat) : List Bool := (List.range s.toNat).map (fun (x : Nat) => decide ((x : Int) ∈ l.take i))
theorem takenL_len (s : Int) (l : List Int) (i : Nat) : (takenL s l i).length = s.toNat := by simp [takenL]
theorem takenL_rd (s : Int) (l : List Int) (i : Nat) (x : Int) (h0 : 0 ≤ x) (h1 : x < s) : rdOf false (takenL s l i) x = decide (x ∈ l.take i) := by
  obtain ⟨n, rfl⟩ : ∃ n : Nat, x = n := ⟨x.toNat, by omega⟩
  have : n < s.toNat := by omega
  simp [rdOf, takenL, this]
theorem takenL_set (s : Int) (l : List Int) (i : Nat) (hi : i < l.length) (hr : 0 ≤ rd l i ∧ rd l i ≤ s - 1) : (takenL s l i).set (rd l (i : Int)).toNat true = takenL s l (i + 1) := by
  apply List.ext_getElem
  · simp [takenL]
  · intro j h1 h2
    have hj : j < s.toNat := by simpa [takenL] using h2
    rw [List.getElem_set]
    have e : l.take (i + 1) = l.take i ++ [rd l i] := take_succ_rd l i hi
    by_cases h : (rd l (i : Int)).toNat = j
    · rw [if_pos h]
      have : (j : Int) = rd l i := by omega
      simp [takenL, e, this]
    · rw [if_neg h]
      have : (j : Int) ≠ rd l i := by omega
      simp [takenL, e, this]
def IsGapAt (s : Int) (l : List Int) (x g : Int) : Prop := 1 ≤ g ∧ g ≤ s ∧ (x + g) % s ∈ l ∧ ∀ d, 1 ≤ d → d < g → (x + d) % s ∉ l
def Finv (s : Int) (l : List Int) (F : List Bool) (i : Int) : Prop := F.length = (s + 1).toNat ∧ ∀ d, 0 ≤ d → d ≤ s → (rdOf false F d = true ↔ ∃ x, 0 ≤ x ∧ x < i ∧ x ∈ l ∧ IsGapAt s l x d)
def outL (F : List Bool) (n : Nat) : List Int := ((List.range n).map (fun (j : Nat) => (j : Int) + 1)).filter (fun e => rdOf false F e)
theorem outL_succ (F : List Bool) (n : Nat) : outL F (n + 1) = outL F n ++ (if rdOf false F ((n : Int) + 1) = true then [(n : Int) + 1] else []) := by
  unfold outL
  rw [List.range_succ, List.map_append, List.filter_append]
  congr 1
  simp [List.filter_cons]
theorem outL_len (F : List Bool) (n : Nat) : (outL F n).length ≤ n := by
  unfold outL
  exact Nat.le_trans (List.length_filter_le _ _) (by simp)
theorem outL_strict (F : List Bool) (n : Nat) : (outL F n).Pairwise (· < ·) := by
  unfold outL
  refine List.Pairwise.filter _ ?_
  rw [List.pairwise_map]
  exact List.pairwise_lt_range.imp (fun h => by omega)
theorem outL_mem (F : List Bool) (n : Nat) (g : Int) : g ∈ outL F n ↔ (1 ≤ g ∧ g ≤ n) ∧ rdOf false F g = true := by
  unfold outL
  rw [List.mem_filter, List.mem_map]
  constructor
  · rintro ⟨⟨j, hj, rfl⟩, h⟩
    have := List.mem_range.1 hj
    exact ⟨by omega, h⟩
  · rintro ⟨h1, h⟩
    exact ⟨⟨(g - 1).toNat, List.mem_range.2 (by omega), by omega⟩, h⟩
section
variable (s : Int) (l : List Int) (hs : 1 ≤ s ∧ s ≤ 1000) (hl : 1 ≤ l.length ∧ l.length ≤ 60) (hr : ∀ x ∈ l, 0 ≤ x ∧ x ≤ s - 1)
include hs hl hr
theorem rg_l3 (F : List Bool) (hF : Finv s l F s) : ∀ (d n : Nat), (n : Int) ≤ s → s.toNat - n ≤ d → Evt (fun k => numnahref03_Gaps.l3 k s F (outL F n) ((n : Int) + 1)) (gapsR s l) := by
  intro d
  induction d with
  | zero =>
    intro n hn hd
    obtain rfl : n = s.toNat := by omega
    refine Evt.now fun k => ?_
    simp only [numnahref03_Gaps.l3]
    rw [if_neg (by omega)]
    congr 1
    refine strict_unique (outL_strict _ _) (gapsR_strict _ _) (fun g => ?_)
    rw [outL_mem, gapsR_mem s l hr]
    constructor
    · rintro ⟨h1, h2⟩
      obtain ⟨x, x0, x1, hx, k1, k2, k3, k4⟩ := (hF.2 g (by omega) (by omega)).1 h2
      exact ⟨x, hx, k1, k2, k3, k4⟩
    · rintro ⟨x, hx, k1, k2, k3, k4⟩
      have hxr := hr x hx
      exact ⟨by omega, (hF.2 g (by omega) (by omega)).2 ⟨x, hxr.1, by omega, hx, k1, k2, k3, k4⟩⟩
  | succ d ih =>
    intro n hn hd
    by_cases h : n = s.toNat
    · exact ih n hn (by omega)
    · have hnx := ih (n + 1) (by omega) (by omega)
      rw [outL_succ, show ((n + 1 : Nat) : Int) = (n : Int) + 1 by omega] at hnx
      have hol := outL_len F n
      refine Evt.step (fun k => ?_) hnx
      simp only [numnahref03_Gaps.l3]
      rw [if_pos (by omega), if_pos (by omega), if_pos (by rw [hF.1]; omega), wr (x := (n : Int) + 1 + 1) (by omega) (by omega)]
      by_cases hq : rdOf false F ((n : Int) + 1) = true
      · rw [if_pos hq, if_pos hq, if_pos (by omega)]
      · rw [if_neg hq, if_neg hq, List.append_nil]
theorem rg_l2 (r : List Int) (F : List Bool) (i : Nat) (hi : (i : Int) < s) (hF : Finv s l F i) (hnext : ∀ F', Finv s l F' (i + 1) → Evt (fun k => numnahref03_Gaps.l1 k s (takenL s l l.length) F' ((i : Int) + 1)) r) :
    ∀ (n : Nat) (d : Int), 1 ≤ d → d ≤ s → (s - d).toNat ≤ n → (∀ e, 1 ≤ e → e < d → ((i : Int) + e) % s ∉ l) → Evt (fun k => numnahref03_Gaps.l2 k s (takenL s l l.length) F (i : Int) d) r := by
  have tl := takenL_len s l l.length
  have tr : ∀ x, 0 ≤ x → x < s → rdOf false (takenL s l l.length) x = decide (x ∈ l) := fun x h0 h1 => by rw [takenL_rd s l _ x h0 h1, List.take_length]
  have fin : ∀ d : Int, 1 ≤ d → d ≤ s → ((i : Int) + d) % s ∈ l ∨ (i : Int) ∉ l → (∀ e, 1 ≤ e → e < d → ((i : Int) + e) % s ∉ l) →
      Evt (fun k => if 0 ≤ (i : Int) then (if (i : Int) < ((takenL s l l.length).length : Int) then (if rdOf false (takenL s l l.length) (i : Int) = true then (if 0 ≤ d then (if d < (F.length : Int) then (numnahref03_Gaps.l1 k s (takenL s l l.length) (F.set (d : Int).toNat true) (wrap64 ((i : Int) + 1))) else none) else none) else (numnahref03_Gaps.l1 k s (takenL s l l.length) F (wrap64 ((i : Int) + 1)))) else none) else none) r := by
    intro d h1 h2 hor hno
    simp only [if_pos (show 0 ≤ (i : Int) by omega), tl, if_pos (show (i : Int) < (s.toNat : Int) by omega), tr (i : Int) (by omega) hi, decide_eq_true_eq, wr (x := (i : Int) + 1) (by omega) (by omega), if_pos (show 0 ≤ d by omega), hF.1, if_pos (show d < ((s + 1).toNat : Int) by omega)]
    by_cases hm : (i : Int) ∈ l
    · simp only [if_pos hm]
      have hd : ((i : Int) + d) % s ∈ l := hor.elim id (fun h => absurd hm h)
      refine hnext _ ⟨by rw [List.length_set]; exact hF.1, fun e e0 e1 => ?_⟩
      have hse : rdOf false (F.set d.toNat true) e = if e = d then true else rdOf false F e := by
        have hl1 : d.toNat < F.length := by rw [hF.1]; omega
        by_cases he : e = d
        · subst he
          simp [rdOf, hl1]
        · have : d.toNat ≠ e.toNat := by omega
          rw [if_neg he]
          simp [rdOf, List.getD_eq_getElem?_getD, List.getElem?_set_ne this]
      rw [hse]
      constructor
      · intro h
        by_cases he : e = d
        · subst he
          exact ⟨i, by omega, by omega, hm, h1, h2, hd, hno⟩
        · rw [if_neg he] at h
          obtain ⟨x, x0, x1, hx⟩ := (hF.2 e e0 e1).1 h
          exact ⟨x, x0, by omega, hx⟩
      · rintro ⟨x, x0, x1, hx, hg⟩
        by_cases he : e = d
        · rw [if_pos he]
        · rw [if_neg he]
          refine (hF.2 e e0 e1).2 ⟨x, x0, ?_, hx, hg⟩
          rcases Int.lt_or_le x i with h | h
          · exact h
          · exfalso
            have : x = i := by omega
            subst this
            rcases Int.lt_trichotomy e d with h | h | h
            · exact hno e hg.1 h hg.2.2.1
            · exact he h
            · exact hg.2.2.2 d h1 h hd
    · simp only [if_neg hm]
      refine hnext _ ⟨hF.1, fun e e0 e1 => ?_⟩
      rw [hF.2 e e0 e1]
      constructor
      · rintro ⟨x, x0, x1, hx⟩
        exact ⟨x, x0, by omega, hx⟩
      · rintro ⟨x, x0, x1, hx, hg⟩
        refine ⟨x, x0, ?_, hx, hg⟩
        rcases Int.lt_or_le x i with h | h
        · exact h
        · exfalso
          have : x = i := by omega
          subst this
          exact hm hx
  intro n
  induction n with
  | zero =>
    intro d h1 h2 hn hno
    obtain rfl : d = s := by omega
    have z0 := Int.emod_nonneg ((i : Int) + d) (show d ≠ 0 by omega)
    have z1 := Int.emod_lt_of_pos ((i : Int) + d) (show 0 < d by omega)
    have hmod : ((i : Int) + d) % d = i := by rw [Int.add_emod_right, Int.emod_eq_of_lt (by omega) hi]
    refine Evt.step (fun k => ?_) (fin d h1 h2 (by rw [hmod]; exact Classical.em _) hno)
    simp only [numnahref03_Gaps.l2]
    rw [if_neg (by omega), wr (x := (i : Int) + d) (by omega) (by omega), Int.tmod_eq_emod_of_nonneg (by omega), if_pos z0, if_pos (by rw [tl]; omega)]
    split
    · rfl
    · rw [if_neg (by omega)]
  | succ n ih =>
    intro d h1 h2 hn hno
    have z0 := Int.emod_nonneg ((i : Int) + d) (show s ≠ 0 by omega)
    have z1 := Int.emod_lt_of_pos ((i : Int) + d) (show 0 < s by omega)
    by_cases hm : ((i : Int) + d) % s ∈ l
    · refine Evt.step (fun k => ?_) (fin d h1 h2 (Or.inl hm) hno)
      simp only [numnahref03_Gaps.l2]
      rw [if_neg (by omega), wr (x := (i : Int) + d) (by omega) (by omega), Int.tmod_eq_emod_of_nonneg (by omega), if_pos z0, if_pos (by rw [tl]; omega), tr _ z0 z1, if_pos (decide_eq_true hm)]
    · by_cases hd : d < s
      · refine Evt.step (fun k => ?_) (ih (d + 1) (by omega) (by omega) (by omega) (fun e e0 e1 => by
          by_cases he : e = d
          · subst he
            exact hm
          · exact hno e e0 (by omega)))
        simp only [numnahref03_Gaps.l2]
        rw [if_neg (by omega), wr (x := (i : Int) + d) (by omega) (by omega), Int.tmod_eq_emod_of_nonneg (by omega), if_pos z0, if_pos (by rw [tl]; omega), tr _ z0 z1, if_neg (by simp [hm]), if_pos hd, wr (x := d + 1) (by omega) (by omega)]
      · exact ih d h1 h2 (by omega) hno
theorem rg_l1 : ∀ (n i : Nat) (F : List Bool), (i : Int) ≤ s → s.toNat - i ≤ n → Finv s l F i → Evt (fun k => numnahref03_Gaps.l1 k s (takenL s l l.length) F (i : Int)) (gapsR s l) := by
  intro n
  induction n with
  | zero =>
    intro i F hi hn hF
    have e : (i : Int) = s := by omega
    rw [e] at hF
    have h3 := rg_l3 s l hs hl hr F hF s.toNat 0 (by omega) (by omega)
    refine Evt.step (fun k => ?_) h3
    simp only [numnahref03_Gaps.l1]
    rw [if_neg (by omega)]
    rfl
  | succ n ih =>
    intro i F hi hn hF
    by_cases h : (i : Int) = s
    · exact ih i F hi (by omega) hF
    · have h2 := rg_l2 s l hs hl hr (gapsR s l) F i (by omega) hF (fun F' hF' => ih (i + 1) F' (by omega) (by omega) hF') s.toNat 1 (by omega) (by omega) (by omega) (fun e e0 e1 => by omega)
      refine Evt.step (fun k => ?_) h2
      simp only [numnahref03_Gaps.l1]
      rw [if_pos (by omega)]
theorem rg_l0 : ∀ (n i : Nat), i ≤ l.length → l.length - i ≤ n → Evt (fun k => numnahref03_Gaps.l0 k s l (takenL s l i) (i : Int)) (gapsR s l) := by
  intro n
  induction n with
  | zero =>
    intro i hi hn
    obtain rfl : i = l.length := by omega
    have h1 := rg_l1 s l hs hl hr s.toNat 0 (List.replicate (s + 1).toNat false) (by omega) (by omega) ⟨by simp, fun d d0 d1 => by
      constructor
      · intro h
        exfalso
        have : d.toNat < (s + 1).toNat := by omega
        simp [rdOf, this] at h
      · rintro ⟨x, x0, x1, _⟩
        omega⟩
    refine Evt.step (fun k => ?_) h1
    simp only [numnahref03_Gaps.l0]
    rw [if_neg (by omega), wr (by omega) (by omega), if_pos (by omega), if_pos (by omega)]
    rfl
  | succ n ih =>
    intro i hi hn
    by_cases h : i = l.length
    · exact ih i hi (by omega)
    · have hx : rd l (i : Int) ∈ l := rd_mem' (l := l) (i : Int) (by omega) (by omega)
      have hxr := hr _ hx
      have hnx := ih (i + 1) (by omega) (by omega)
      rw [← takenL_set s l i (by omega) hxr] at hnx
      have tl := takenL_len s l i
      refine Evt.step (fun k => ?_) hnx
      simp only [numnahref03_Gaps.l0]
      rw [if_pos (by omega), if_pos (by omega), if_pos (by omega), if_pos (by rw [tl]; omega), wr (by omega) (by omega)]
      rfl
theorem rgaps_ev : Evt (fun k => numnahref03_Gaps.f k s l) (gapsR s l) := by
  have h := rg_l0 s l hs hl hr l.length 0 (by omega) (by omega)
  have e : takenL s l 0 = List.replicate s.toNat false := by
    unfold takenL
    apply List.ext_getElem
    · simp
    · intro j h1 h2
      simp
  unfold numnahref03_Gaps.f
  simp only [if_pos (show 0 ≤ s by omega), if_pos (show s.toNat ≤ 281474976710656 by omega)]
  rw [← e]
  exact h
end
end Go.Proofs.Ythngclneffngbaa.Pr
