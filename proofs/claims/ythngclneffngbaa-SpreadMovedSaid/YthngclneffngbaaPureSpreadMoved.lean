/- Moving points and moving them back gives them again, moving leaves the gaps as they are, and gaps add up: for every scale, list and way. -/
import Derived.Test.YthngclneffngbaaPrB9
import Derived.Test.YthngclneffngbaaHGp
import Derived.Test.YthngclneffngbaaHT
import Derived.Test.YthngclneffngbaaHAw
namespace Go.Proofs.Ythngclneffngbaa.Pure
open Go.RowKit Go.Proofs.Ythngclneffngbaa.Pr Go.Proofs.YthngclneffngbaaW.PrintWords Go.Proofs.YthngclneffngbaaW.PrintLast Go.Proofs.YthngclneffngbaaW.PrintMore
set_option linter.unusedVariables false

theorem awake_bindV : Evt (fun k => (numnahlaw03_awake.f k).bind fun t => some t) true := Evt.congr awake_ev (fun k => by cases numnahlaw03_awake.f k <;> rfl)
theorem ints_loopV (l : List Int) (hl : l.length ≤ 61) : ∀ (d i : Nat), i ≤ l.length → l.length - i ≤ d → Evt (fun k => numnahlaw03_ints.l0 k l l (i : Int)) true := by
  intro d
  induction d with
  | zero =>
    intro i hi hd
    refine Evt.now fun k => ?_
    simp only [numnahlaw03_ints.l0]
    rw [if_neg (by omega)]
  | succ d ih =>
    intro i hi hd
    by_cases h : i = l.length
    · exact ih i hi (by omega)
    · refine Evt.step (fun k => ?_) (ih (i + 1) (by omega) (by omega))
      simp only [numnahlaw03_ints.l0]
      rw [if_pos (by omega), if_pos (by omega), if_pos (by omega), if_pos trivial, wr (by omega) (by omega)]
      rfl
theorem ints_evV (l : List Int) (hl : l.length ≤ 61) : Evt (fun k => numnahlaw03_ints.f k l l) true := by
  unfold numnahlaw03_ints.f
  simp only [if_true]
  exact ints_loopV l hl l.length 0 (by omega) (by omega)
theorem movF_range (s b x : Int) (hs : 1 ≤ s) : 0 ≤ movF s b x ∧ movF s b x ≤ s - 1 := by
  have h1 := Int.emod_nonneg (x + Int.tmod b s + s) (show s ≠ 0 by omega)
  have h2 := Int.emod_lt_of_pos (x + Int.tmod b s + s) (show 0 < s by omega)
  unfold movF
  omega
theorem movF_step (s b x d : Int) : (movF s b x + d) % s = movF s b ((x + d) % s) := by
  unfold movF
  rw [Int.emod_add_emod, Int.add_assoc ((x + d) % s), Int.emod_add_emod]
  congr 1
  omega
theorem movF_inj (s b x y : Int) (hs : 1 ≤ s) (x0 : 0 ≤ x) (x1 : x ≤ s - 1) (y0 : 0 ≤ y) (y1 : y ≤ s - 1) (h : movF s b x = movF s b y) : x = y := by
  unfold movF at h
  have h1 := Int.emod_eq_emod_iff_emod_sub_eq_zero.1 h
  rw [show x + Int.tmod b s + s - (y + Int.tmod b s + s) = x - y by omega] at h1
  obtain ⟨c, hc⟩ := Int.dvd_of_emod_eq_zero h1
  rcases Int.lt_trichotomy c 0 with h2 | h2 | h2
  · have := Int.mul_le_mul_of_nonneg_left (show c ≤ -1 by omega) (show 0 ≤ s by omega)
    omega
  · subst h2
    omega
  · have := Int.mul_le_mul_of_nonneg_left (show 1 ≤ c by omega) (show 0 ≤ s by omega)
    omega
theorem movF_back (s b x : Int) (hs : 1 ≤ s) (x0 : 0 ≤ x) (x1 : x ≤ s - 1) : movF s (-b) (movF s b x) = x := by
  unfold movF
  rw [Int.neg_tmod, Int.add_assoc ((x + Int.tmod b s + s) % s), Int.emod_add_emod, show x + Int.tmod b s + s + (-Int.tmod b s + s) = x + s + s by omega, Int.add_emod_right, Int.add_emod_right, Int.emod_eq_of_lt x0 (by omega)]
theorem okLine_mk {s : Int} {l : List Int} (h1 : 1 ≤ s ∧ s ≤ 1000) (h2 : 1 ≤ l.length ∧ l.length ≤ 60) (h3 : ∀ x ∈ l, 0 ≤ x ∧ x ≤ s - 1) : okLine s l = true := by
  unfold okLine okPts
  simp only [Bool.and_eq_true, decide_eq_true_eq, List.all_eq_true]
  exact ⟨h1, by omega, fun y hy => by have := h3 y hy; simpa using this⟩
theorem okLine_all {s : Int} {l : List Int} (h : okLine s l = true) : ∀ x ∈ l, 0 ≤ x ∧ x ≤ s - 1 := by
  have := okLine_pts' h
  unfold okPts at this
  intro x hx
  simpa using List.all_eq_true.1 this x hx
/-! the end of the law -/
section
variable (s : Int) (l a : List Int)
theorem moved_l2 (hs : 1 ≤ s ∧ s ≤ 1000) (hl : l.length ≤ 60) (ha : 1 ≤ a.length ∧ a.length ≤ 60) (hb : ∀ x ∈ a, 1 ≤ x ∧ x ≤ s) (hst : a.Pairwise (· < ·)) (p : Nat) (hp : p ≤ 60) (hlo : rd a 0 * p ≤ s) (hhi : s ≤ rd a ((a.length - 1 : Nat) : Int) * p) :
    ∀ (d i : Nat), i ≤ a.length → a.length - i ≤ d → Evt (fun k => numnahlaw03_SpreadMoved.l2 k s a (p : Int) (i : Int)) true := by
  have r0 := hb _ (rd_mem' (l := a) 0 (by omega) (by omega))
  have rl := hb _ (rd_mem' (l := a) ((a.length - 1 : Nat) : Int) (by omega) (by omega))
  have m0 := Int.mul_le_mul (a := rd a 0) (b := (p : Int)) (c := 1000) (d := 60) (by omega) (by omega) (by omega) (by omega)
  have m1 := Int.mul_le_mul (a := rd a ((a.length - 1 : Nat) : Int)) (b := (p : Int)) (c := 1000) (d := 60) (by omega) (by omega) (by omega) (by omega)
  have m2 := Int.mul_nonneg (show 0 ≤ rd a 0 by omega) (show 0 ≤ (p : Int) by omega)
  have m3 := Int.mul_nonneg (show 0 ≤ rd a ((a.length - 1 : Nat) : Int) by omega) (show 0 ≤ (p : Int) by omega)
  intro d
  induction d with
  | zero =>
    intro i hi hd
    refine Evt.step (fun k => ?_) awake_bindV
    simp only [numnahlaw03_SpreadMoved.l2]
    rw [if_neg (by omega), if_pos (by omega), wr (x := rd a 0 * p) (by omega) (by omega), if_pos hlo, wr (x := (a.length : Int) - 1) (by omega) (by omega), if_pos (by omega), if_pos (by omega), show (a.length : Int) - 1 = ((a.length - 1 : Nat) : Int) by omega, wr (by omega) (by omega), if_pos hhi]
  | succ d ih =>
    intro i hi hd
    by_cases h : i = a.length
    · exact ih i hi (by omega)
    · have hm := hb _ (rd_mem' (l := a) (i : Int) (by omega) (by omega))
      refine Evt.step (fun k => ?_) (ih (i + 1) (by omega) (by omega))
      simp only [numnahlaw03_SpreadMoved.l2]
      rw [if_pos (by omega), if_pos (by omega), if_neg (by omega), if_neg (by omega), wr (x := (i : Int) + 1) (by omega) (by omega)]
      by_cases hz : (i : Int) > 0
      · rw [if_pos hz, wr (x := (i : Int) - 1) (by omega) (by omega), if_pos (by omega), if_pos (by omega)]
        have : rd a ((i : Int) - 1) < rd a (i : Int) := by
          rw [show (i : Int) - 1 = ((i - 1 : Nat) : Int) by omega, rd_get (show i - 1 < a.length by omega), rd_get (show i < a.length by omega)]
          exact List.pairwise_iff_getElem.1 hst (i - 1) i (by omega) (by omega) (by omega)
        rw [if_neg (by omega)]
        rfl
      · rw [if_neg hz]
        rfl
theorem moved_l1 (hl : l.length ≤ 60) (c : Int) (i : Nat) (hi : i < l.length) (r : Bool)
    (hnext : Evt (fun k => numnahlaw03_SpreadMoved.l0 k s l a (if rd l i ∈ l.take i then c else wrap64 (c + 1)) ((i + 1 : Nat) : Int)) r) :
    ∀ (d j : Nat), j ≤ i → i - j ≤ d → Evt (fun k => numnahlaw03_SpreadMoved.l1 k s l a c (i : Int) (decide (rd l i ∉ l.take j)) (j : Int)) r := by
  intro d
  induction d with
  | zero =>
    intro j hj hd
    obtain rfl : j = i := by omega
    refine Evt.step (fun k => ?_) hnext
    simp only [numnahlaw03_SpreadMoved.l1]
    rw [if_neg (by omega), wr (x := (j : Int) + 1) (by omega) (by omega)]
    by_cases hm : rd l j ∈ l.take j
    · simp [hm]
    · simp [hm]
  | succ d ih =>
    intro j hj hd
    by_cases h : j = i
    · exact ih j hj (by omega)
    · have e : l.take (j + 1) = l.take j ++ [rd l j] := take_succ_rd l j (by omega)
      refine Evt.step (fun k => ?_) (ih (j + 1) (by omega) (by omega))
      simp only [numnahlaw03_SpreadMoved.l1]
      rw [if_pos (by omega), wr (x := (j : Int) + 1) (by omega) (by omega), e]
      by_cases hm : rd l i ∈ l.take j
      · rw [if_neg (by simp [hm])]
        simp [hm]
      · rw [if_pos (by simp [hm]), if_pos (by omega), if_pos (by omega), if_pos (by omega), if_pos (by omega)]
        have : (rd l j != rd l i) = decide (rd l i ∉ l.take j ++ [rd l j]) := by
          rw [Bool.eq_iff_iff]
          simp [hm]
          exact ⟨fun h e => h e.symm, fun h e => h e.symm⟩
        rw [this]
        rfl
theorem moved_l0 (hl : l.length ≤ 60) (hend : Evt (fun k => numnahlaw03_SpreadMoved.l2 k s a ((firsts l l.length).length : Int) 0) true) :
    ∀ (d i : Nat), i ≤ l.length → l.length - i ≤ d → Evt (fun k => numnahlaw03_SpreadMoved.l0 k s l a ((firsts l i).length : Int) (i : Int)) true := by
  intro d
  induction d with
  | zero =>
    intro i hi hd
    obtain rfl : i = l.length := by omega
    refine Evt.step (fun k => ?_) hend
    simp only [numnahlaw03_SpreadMoved.l0]
    rw [if_neg (by omega)]
  | succ d ih =>
    intro i hi hd
    by_cases h : i = l.length
    · exact ih i hi (by omega)
    · have hn := ih (i + 1) (by omega) (by omega)
      have hlen : (firsts l i).length ≤ i := by
        have : ∀ j, (firsts l j).length ≤ j := by
          intro j
          induction j with
          | zero => simp [firsts]
          | succ j ih =>
            rw [firsts]
            split
            · omega
            · rw [List.length_append, List.length_singleton]
              omega
        exact this i
      have e : ((firsts l (i + 1)).length : Int) = if rd l i ∈ l.take i then ((firsts l i).length : Int) else wrap64 ((firsts l i).length + 1) := by
        rw [firsts]
        split
        · rfl
        · rw [wr (by omega) (by omega)]
          simp
      rw [e] at hn
      have h1 := moved_l1 s l a hl ((firsts l i).length : Int) i (by omega) true hn i 0 (by omega) (by omega)
      refine Evt.step (fun k => ?_) h1
      simp only [numnahlaw03_SpreadMoved.l0]
      rw [if_pos (by omega)]
      simp
end
theorem SpreadMoved : numnahlaw03_SpreadMoved.Pure := by
  intro a0 l1 a2 _ _ hl _ _
  obtain ⟨hs1, hs2, hok⟩ := tame_ok a0 1000 l1 (by omega) (by omega)
  have ht := tame_ev a0 1000 l1 (by omega) (by omega) hl
  generalize tameL (tameS a0 1000) l1 = l at ht hok
  generalize tameS a0 1000 = s at ht hok hs1 hs2
  obtain ⟨b1, b2, b3, b4⟩ := okLine_bounds hok
  have hall := okLine_all hok
  have hm := modF_range a2 1000000 (by omega)
  refine Evt.ex ?_
  unfold numnahlaw03_SpreadMoved.f
  refine Evt.bind ht ?_
  dsimp only
  rw [mod_eq a2 1000000 (by omega) (by omega)]
  generalize modF a2 1000000 = t at hm ⊢
  simp only [Option.bind_some]
  rw [wr (x := t - 500000) (by omega) (by omega), wr (x := -(t - 500000)) (by omega) (by omega)]
  generalize t - 500000 = v
  have hok2 : okLine s (l.map (movF s v)) = true := okLine_mk ⟨hs1, hs2⟩ (by simp; omega) (fun x hx => by
    obtain ⟨y, hy, rfl⟩ := List.mem_map.1 hx
    exact movF_range s v y hs1)
  have hback : (l.map (movF s v)).map (movF s (-v)) = l := by
    rw [List.map_map]
    refine (List.map_congr_left fun x hx => ?_).trans (List.map_id l)
    have := hall x hx
    exact movF_back s v x hs1 this.1 this.2
  have hg : gapsR s (l.map (movF s v)) = gapsR s l := gapsR_map (movF s v) hall (fun x _ => movF_range s v x hs1) (movF_step s v) (fun x y x0 x1 y0 y1 h => movF_inj s v x y hs1 x0 x1 y0 y1 h) hs1
  have e1 : spread_Move.f s l v = some (l.map (movF s v), 0) := by unfold spread_Move.f; rw [if_pos hok]
  have e2 : spread_Move.f s (l.map (movF s v)) (-v) = some (l, 0) := by unfold spread_Move.f; rw [if_pos hok2, hback]
  have e3 : spread_Gaps.f s l = some (gapsR s l, 0) := by unfold spread_Gaps.f; rw [if_pos hok]; rfl
  have e4 : spread_Gaps.f s (l.map (movF s v)) = some (gapsR s l, 0) := by rw [← hg]; unfold spread_Gaps.f; rw [if_pos hok2]; rfl
  simp only [e1, e2, e3, e4, Option.bind_some, if_true]
  obtain ⟨⟨q1, q2⟩, q3⟩ := places_ok hok
  have gl : (gapsL s (placesL l)).length = (placesL l).length := by simp [gapsL]
  have al : 1 ≤ (gapsR s l).length ∧ (gapsR s l).length ≤ 60 := by
    unfold gapsR
    constructor
    · exact compact_ne (by rw [sortI_len]; omega)
    · exact Nat.le_trans (compact_le _) (by rw [sortI_len]; omega)
  refine Evt.bind (ints_evV l (by omega)) ?_
  simp only [if_true]
  refine Evt.bind (ints_evV _ (by omega)) ?_
  simp only [if_true]
  have hbnd : ∀ x ∈ gapsR s l, 1 ≤ x ∧ x ≤ s := by
    intro x hx
    obtain ⟨y, _, h1, h2, _⟩ := (gapsR_mem s l hall x).1 hx
    exact ⟨h1, h2⟩
  have hst := gapsR_strict s l
  have hgm : ∀ i, i < (placesL l).length → rd (gapsR s l) 0 ≤ gapAt s (placesL l) i ∧ gapAt s (placesL l) i ≤ rd (gapsR s l) (((gapsR s l).length - 1 : Nat) : Int) := by
    intro i hi
    have hmem : gapAt s (placesL l) i ∈ gapsR s l := by
      unfold gapsR
      rw [compact_mem, sortI_mem]
      exact List.mem_map.2 ⟨i, List.mem_range.2 hi, rfl⟩
    obtain ⟨j, hj, e⟩ := List.mem_iff_getElem.1 hmem
    have hp := List.pairwise_iff_getElem.1 hst
    rw [← e, show (0 : Int) = ((0 : Nat) : Int) from rfl, rd_get (show 0 < (gapsR s l).length by omega), rd_get (show (gapsR s l).length - 1 < (gapsR s l).length by omega)]
    constructor
    · by_cases h0 : j = 0
      · subst h0
        exact Int.le_refl _
      · have := hp 0 j (by omega) hj (by omega)
        omega
    · by_cases h0 : j = (gapsR s l).length - 1
      · subst h0
        exact Int.le_refl _
      · have := hp j ((gapsR s l).length - 1) hj (by omega) (by omega)
        omega
  obtain ⟨s1, s2⟩ := gaps_sum s _ _ (placesL l) (by omega) hgm
  rw [← firsts_len] at s1 s2
  have hfl : (firsts l l.length).length ≤ 60 := by rw [firsts_len]; omega
  have h2 := moved_l2 s l (gapsR s l) ⟨hs1, hs2⟩ (by omega) al hbnd hst _ hfl s1 s2 _ 0 (by omega) (Nat.le_refl _)
  have h0 := moved_l0 s l (gapsR s l) (by omega) h2 _ 0 (by omega) (Nat.le_refl _)
  refine Evt.step (fun k => ?_) h0
  simp only [numnahlaw03_SpreadMoved.j0]
  rw [if_neg (by simp; intro e; simp [e] at al)]
  rfl
end Go.Proofs.Ythngclneffngbaa.Pure
