/- Greater. -/
import Derived.Test.YtaafeallcaiooaaGreatHOt
namespace Go.Proofs.YtaafeallcaiooaaGreat.Pr
open Go.RowKit Go.Maps Go.Proofs.YtaafeallcaiooaaGreatW.PrintWords Go.Proofs.YtaafeallcaiooaaGreatW.PrintLast Go.Proofs.YtaafeallcaiooaaGreatW.PrintMore
set_option linter.unusedVariables false
set_option linter.unusedSimpArgs false
/-- Greater: the error, and the answer -/
def greaterE (p a b : ByteArray) : Int × Bool := match precOk p with
  | false => (2, false)
  | true => match readT a with
    | none => (4, false)
    | some x => match readT b with
      | none => (4, false)
      | some y => (0, gt (rankP p) x y)
set_option maxRecDepth 100000 in
set_option maxHeartbeats 1000000 in
theorem greater1_calls (p a b : ByteArray) (hp : p.size ≤ 1000000) (bs : Nat → Nat) (bo : Nat) (w : World) (hb0 : w.heap[bs 0]? = some (.cells #[.string p] 9 (0, 0))) (hb1 : w.heap[bs 1]? = some (.cells #[.string a] 9 (0, 0))) (hb2 : w.heap[bs 2]? = some (.cells #[.string b] 9 (0, 0))) (hbo : w.heap[bo]? = some (.cells #[.bool false] 4 (0, 0))) :
    Calls Tryz.prog 92 #[.pointer (some ⟨bs 0, 0, none⟩), .pointer (some ⟨bs 1, 0, none⟩), .pointer (some ⟨bs 2, 0, none⟩), .pointer (some ⟨bo, 0, none⟩)] w fun e w' => e = endE (greaterE p a b).1 ∧ But bo w w' ∧ w'.heap[bo]? = some (.cells #[.bool (greaterE p a b).2] 4 (0, 0)) := by
  have hx0 := blk_cell hb0 0
  have hnp := newPrec_calls p hp w
  cases hP : precOk p with
  | false =>
    have e : greaterE p a b = (2, false) := by unfold greaterE; rw [hP]
    rw [e]
    unfold OutP at hnp
    rw [hP] at hnp
    have HNP := Aside0.mk hnp
    have HB := Aside0.mk hbo
    clear hnp hb0 hb1 hb2 hbo hP e
    go_enter Tryz.func92, Tryz.ntmps92
    go_wp2_with (go_at_call 87; refine HNP.out.mono ?_; rintro e w3 ⟨hb, rfl⟩; have H3 := Aside0.mk hb; clear hb)
    exact ⟨rfl, rfl, But.of_below H3.out, blk_below HB.out H3.out⟩
  | true =>
    unfold OutP at hnp
    rw [hP] at hnp
    dsimp only at hnp
    have HNP := Aside0.mk hnp
    have HK := Aside0.mk (And.intro hb1 (And.intro hb2 hbo))
    have hr1 := fun w' : World => read_calls (fun _ => True) a w' (fun _ _ => trivial)
    have hr2 := fun w' : World => read_calls (fun _ => True) b w' (fun _ _ => trivial)
    have HFN : Aside0 (∀ w', Below w.heap.size w w' → troubled 4 = endE 4 ∧ But bo w w' ∧ w'.heap[bo]? = some (.cells #[.bool false] 4 (0, 0))) := ⟨fun w' h => ⟨rfl, But.of_below h, blk_below hbo h⟩⟩
    cases hR1 : readT a with
    | none =>
      have e : greaterE p a b = (4, false) := by unfold greaterE; rw [hP]; dsimp only; rw [hR1]
      rw [e]
      rw [hR1] at hr1
      have HR1 := Aside0.mk hr1
      have HR2 := Aside0.mk hr2
      clear hnp hb0 hb1 hb2 hbo hP e hR1 hr1 hr2
      go_enter Tryz.func92, Tryz.ntmps92
      go_wp2_with (go_at_call 87; refine HNP.out.mono ?_; rintro e w1 ⟨hb, c1, c2, rfl, hne, hs1, hs2, hRk, hMp⟩; have H1 := Aside0.mk (And.intro hb (And.intro hne (And.intro hs1 (And.intro hs2 (And.intro hRk hMp))))); clear hb hne hs1 hs2 hRk hMp)
      obtain ⟨W, hW⟩ : ∃ W, W = w1.alloc (.cells #[.map (some c1), .map (some c2)] 120) := ⟨_, rfl⟩
      rw [← hW]
      have HW : Aside0 (Below w.heap.size w W ∧ W.heap[bs 1]? = some (.cells #[.string a] 9 (0, 0)) ∧ W.heap[bs 2]? = some (.cells #[.string b] 9 (0, 0)) ∧ W.heap[w1.heap.size]? = some (.cells #[.map (some c1), .map (some c2)] 120 (0, 0)) ∧ Prec W (rankP p) c1 c2) := by
        rw [hW]
        have hP1 : Prec w1 (rankP p) c1 c2 := ⟨H1.out.2.2.2.2.1, H1.out.2.1, [], H1.out.2.2.2.2.2, known_nil _⟩
        have hBb := below_alloc (Below.refl w1.heap.size w1) (.cells #[.map (some c1), .map (some c2)] 120)
        exact ⟨below_on H1.out.1 hBb, blk_below (blk_below HK.out.1 H1.out.1) hBb, blk_below (blk_below HK.out.2.1 H1.out.1) hBb, blk_new w1 _, hP1.below hBb⟩
      clear hW
      have hy0 : W.drew.cell? ⟨bs 1, 0, none⟩ = some (.string a) := blk_cell (blk_drew HW.out.2.1) 0
      have hy1 : W.drew.cell? ⟨bs 2, 0, none⟩ = some (.string b) := blk_cell (blk_drew HW.out.2.2.1) 0
      refine start_ (n := 6) (S := fun w' => w'.cell? ⟨bs 1, 0, none⟩ = some (.string a) ∧ w'.cell? ⟨bs 2, 0, none⟩ = some (.string b)) (ds := [3]) #[false, false, false, false, false, false] (by kernel_rfl) rfl rfl ⟨hy0, hy1⟩ (fun hHeld => ?_)
      refine take_ (i := 0) (N := some 9) (v := ?_) (a' := ?_) #[true, false, false, false, false, false] rfl rfl (by kernel_rfl) (fun _ _ _ h => h) (Or.inl ⟨by rfl, ?_⟩) hHeld ?_ ?_
      rotate_left
      · rintro w' ⟨s0, s1⟩
        go_simp
        with_reducible rfl
      rotate_left
      · simp only [Act.put, List.setIfInBounds_toArray, List.set_cons_zero, List.set_cons_succ, i64_w, i32_w]
        rfl
      refine take_ (i := 2) (N := some 11) (v := ?_) (a' := ?_) #[true, false, true, false, false, false] rfl rfl (by kernel_rfl) (fun _ _ _ h => h) (Or.inl ⟨by rfl, ?_⟩) hHeld ?_ ?_
      rotate_left
      · rintro w' ⟨s0, s1⟩
        go_simp
        with_reducible rfl
      rotate_left
      · simp only [Act.put, List.setIfInBounds_toArray, List.set_cons_zero, List.set_cons_succ, i64_w, i32_w]
        rfl
      refine one_ (i := 1) (N := some 10) #[true, true, true, false, false, false] rfl rfl (by kernel_rfl) (by decide) (fun K hK => ?_)
      refine goesD_ Tryz.func69 (by kernel_rfl) rfl #[.string a] (by rfl) rfl rfl (by simp only [List.map_toArray, List.map_cons, List.map_nil]; rfl) ?_
      refine (HR1.out _).mono ?_
      rintro e w5 ⟨hb5, rfl⟩
      refine .inr ⟨_, rfl, ?_⟩
      have hw5 : Below W.heap.size W w5 := ⟨hb5.os, hb5.tape, hb5.output, hb5.size, hb5.block⟩
      have hW5 := below_on HW.out.1 hw5
      exact ⟨rfl, HFN.out _ hW5⟩
    | some x =>
      rw [hR1] at hr1
      have hg1 := readT_good hR1
      cases hR2 : readT b with
      | none =>
        have e : greaterE p a b = (4, false) := by unfold greaterE; rw [hP]; dsimp only; rw [hR1]; dsimp only; rw [hR2]
        rw [e]
        rw [hR2] at hr2
        have HR1 := Aside0.mk hr1
        have HR2 := Aside0.mk hr2
        clear hnp hb0 hb1 hb2 hbo hP e hR1 hr1 hr2 hR2 hg1
        go_enter Tryz.func92, Tryz.ntmps92
        go_wp2_with (go_at_call 87; refine HNP.out.mono ?_; rintro e w1 ⟨hb, c1, c2, rfl, hne, hs1, hs2, hRk, hMp⟩; have H1 := Aside0.mk (And.intro hb (And.intro hne (And.intro hs1 (And.intro hs2 (And.intro hRk hMp))))); clear hb hne hs1 hs2 hRk hMp)
        obtain ⟨W, hW⟩ : ∃ W, W = w1.alloc (.cells #[.map (some c1), .map (some c2)] 120) := ⟨_, rfl⟩
        rw [← hW]
        have HW : Aside0 (Below w.heap.size w W ∧ W.heap[bs 1]? = some (.cells #[.string a] 9 (0, 0)) ∧ W.heap[bs 2]? = some (.cells #[.string b] 9 (0, 0)) ∧ W.heap[w1.heap.size]? = some (.cells #[.map (some c1), .map (some c2)] 120 (0, 0)) ∧ Prec W (rankP p) c1 c2) := by
          rw [hW]
          have hP1 : Prec w1 (rankP p) c1 c2 := ⟨H1.out.2.2.2.2.1, H1.out.2.1, [], H1.out.2.2.2.2.2, known_nil _⟩
          have hBb := below_alloc (Below.refl w1.heap.size w1) (.cells #[.map (some c1), .map (some c2)] 120)
          exact ⟨below_on H1.out.1 hBb, blk_below (blk_below HK.out.1 H1.out.1) hBb, blk_below (blk_below HK.out.2.1 H1.out.1) hBb, blk_new w1 _, hP1.below hBb⟩
        clear hW
        have hy0 : W.drew.cell? ⟨bs 1, 0, none⟩ = some (.string a) := blk_cell (blk_drew HW.out.2.1) 0
        have hy1 : W.drew.cell? ⟨bs 2, 0, none⟩ = some (.string b) := blk_cell (blk_drew HW.out.2.2.1) 0
        refine start_ (n := 6) (S := fun w' => w'.cell? ⟨bs 1, 0, none⟩ = some (.string a) ∧ w'.cell? ⟨bs 2, 0, none⟩ = some (.string b)) (ds := [3]) #[false, false, false, false, false, false] (by kernel_rfl) rfl rfl ⟨hy0, hy1⟩ (fun hHeld => ?_)
        refine take_ (i := 0) (N := some 9) (v := ?_) (a' := ?_) #[true, false, false, false, false, false] rfl rfl (by kernel_rfl) (fun _ _ _ h => h) (Or.inl ⟨by rfl, ?_⟩) hHeld ?_ ?_
        rotate_left
        · rintro w' ⟨s0, s1⟩
          go_simp
          with_reducible rfl
        rotate_left
        · simp only [Act.put, List.setIfInBounds_toArray, List.set_cons_zero, List.set_cons_succ, i64_w, i32_w]
          rfl
        refine take_ (i := 2) (N := some 11) (v := ?_) (a' := ?_) #[true, false, true, false, false, false] rfl rfl (by kernel_rfl) (fun _ _ _ h => h) (Or.inl ⟨by rfl, ?_⟩) hHeld ?_ ?_
        rotate_left
        · rintro w' ⟨s0, s1⟩
          go_simp
          with_reducible rfl
        rotate_left
        · simp only [Act.put, List.setIfInBounds_toArray, List.set_cons_zero, List.set_cons_succ, i64_w, i32_w]
          rfl
        refine one_ (i := 1) (N := some 10) #[true, true, true, false, false, false] rfl rfl (by kernel_rfl) (by decide) (fun K hK => ?_)
        refine goesD_ Tryz.func69 (by kernel_rfl) rfl #[.string a] (by rfl) rfl rfl (by simp only [List.map_toArray, List.map_cons, List.map_nil]; rfl) ?_
        refine (HR1.out _).mono ?_
        rintro e w5 ⟨hb5, ⟨t1, p1⟩, he1, hp1⟩
        obtain rfl : e = .returned (.iface t1 p1) := he1
        refine .inl ⟨_, rfl, ?_⟩
        have hw5 : Below W.heap.size W w5 := ⟨hb5.os, hb5.tape, hb5.output, hb5.size, hb5.block⟩
        have hW5 := below_on HW.out.1 hw5
        have hc50 : w5.cell? ⟨bs 1, 0, none⟩ = some (.string a) := blk_cell (blk_below HW.out.2.1 hw5) 0
        have hc51 : w5.cell? ⟨bs 2, 0, none⟩ = some (.string b) := blk_cell (blk_below HW.out.2.2.1 hw5) 0
        refine hK.out _ _ ⟨hc50, hc51⟩ (fun hHeld => ?_)
        clear hK K
        refine norm_ (a' := ?_) ?_ ?_
        rotate_left
        · show Act.put _ (some 10) _ = _
          simp only [Act.put, List.setIfInBounds_toArray, List.set_cons_zero, List.set_cons_succ, i64_w, i32_w]
          rfl
        refine last_ (i := 3) (N := some 12) #[true, true, true, true, false, false] rfl rfl (by kernel_rfl) (by decide) (fun K hK => ?_)
        refine goesD_ Tryz.func69 (by kernel_rfl) rfl #[.string b] (by rfl) rfl rfl (by simp only [List.map_toArray, List.map_cons, List.map_nil]; rfl) ?_
        refine (HR2.out _).mono ?_
        rintro e w6 ⟨hb6, rfl⟩
        refine .inr ⟨_, rfl, ?_⟩
        have hW6 := below_on hW5 hb6
        exact ⟨rfl, HFN.out _ hW6⟩
      | some y =>
        rw [hR2] at hr2
        have hg2 := readT_good hR2
        have e : greaterE p a b = (0, gt (rankP p) x y) := by unfold greaterE; rw [hP]; dsimp only; rw [hR1]; dsimp only; rw [hR2]
        rw [e]
        have e0 : endE (0, gt (rankP p) x y).1 = .returned (.tuple #[]) := rfl
        rw [e0]
        have HGA := Aside0.mk (greater_all (rankP p) x y hg1.1 hg2.1 (by omega))
        have HR1 := Aside0.mk hr1
        have HR2 := Aside0.mk hr2
        have HB0 := Aside0.mk (Array.getElem?_eq_some_iff.1 hbo).1
        clear hnp hb0 hb1 hb2 hbo hP e e0 hR1 hr1 hr2 hR2 hg1 hg2
        unfold CmpOk at HGA
        generalize gt (rankP p) x y = g at *
        go_enter Tryz.func92, Tryz.ntmps92
        go_wp2_with (go_at_call 87; refine HNP.out.mono ?_; rintro e w1 ⟨hb, c1, c2, rfl, hne, hs1, hs2, hRk, hMp⟩; have H1 := Aside0.mk (And.intro hb (And.intro hne (And.intro hs1 (And.intro hs2 (And.intro hRk hMp))))); clear hb hne hs1 hs2 hRk hMp)
        obtain ⟨W, hW⟩ : ∃ W, W = w1.alloc (.cells #[.map (some c1), .map (some c2)] 120) := ⟨_, rfl⟩
        rw [← hW]
        have HW : Aside0 (Below w.heap.size w W ∧ W.heap[bs 1]? = some (.cells #[.string a] 9 (0, 0)) ∧ W.heap[bs 2]? = some (.cells #[.string b] 9 (0, 0)) ∧ W.heap[w1.heap.size]? = some (.cells #[.map (some c1), .map (some c2)] 120 (0, 0)) ∧ Prec W (rankP p) c1 c2) := by
          rw [hW]
          have hP1 : Prec w1 (rankP p) c1 c2 := ⟨H1.out.2.2.2.2.1, H1.out.2.1, [], H1.out.2.2.2.2.2, known_nil _⟩
          have hBb := below_alloc (Below.refl w1.heap.size w1) (.cells #[.map (some c1), .map (some c2)] 120)
          exact ⟨below_on H1.out.1 hBb, blk_below (blk_below HK.out.1 H1.out.1) hBb, blk_below (blk_below HK.out.2.1 H1.out.1) hBb, blk_new w1 _, hP1.below hBb⟩
        clear hW
        have hy0 : W.drew.cell? ⟨bs 1, 0, none⟩ = some (.string a) := blk_cell (blk_drew HW.out.2.1) 0
        have hy1 : W.drew.cell? ⟨bs 2, 0, none⟩ = some (.string b) := blk_cell (blk_drew HW.out.2.2.1) 0
        refine start_ (n := 6) (S := fun w' => w'.cell? ⟨bs 1, 0, none⟩ = some (.string a) ∧ w'.cell? ⟨bs 2, 0, none⟩ = some (.string b)) (ds := [3]) #[false, false, false, false, false, false] (by kernel_rfl) rfl rfl ⟨hy0, hy1⟩ (fun hHeld => ?_)
        refine take_ (i := 0) (N := some 9) (v := ?_) (a' := ?_) #[true, false, false, false, false, false] rfl rfl (by kernel_rfl) (fun _ _ _ h => h) (Or.inl ⟨by rfl, ?_⟩) hHeld ?_ ?_
        rotate_left
        · rintro w' ⟨s0, s1⟩
          go_simp
          with_reducible rfl
        rotate_left
        · simp only [Act.put, List.setIfInBounds_toArray, List.set_cons_zero, List.set_cons_succ, i64_w, i32_w]
          rfl
        refine take_ (i := 2) (N := some 11) (v := ?_) (a' := ?_) #[true, false, true, false, false, false] rfl rfl (by kernel_rfl) (fun _ _ _ h => h) (Or.inl ⟨by rfl, ?_⟩) hHeld ?_ ?_
        rotate_left
        · rintro w' ⟨s0, s1⟩
          go_simp
          with_reducible rfl
        rotate_left
        · simp only [Act.put, List.setIfInBounds_toArray, List.set_cons_zero, List.set_cons_succ, i64_w, i32_w]
          rfl
        refine one_ (i := 1) (N := some 10) #[true, true, true, false, false, false] rfl rfl (by kernel_rfl) (by decide) (fun K hK => ?_)
        refine goesD_ Tryz.func69 (by kernel_rfl) rfl #[.string a] (by rfl) rfl rfl (by simp only [List.map_toArray, List.map_cons, List.map_nil]; rfl) ?_
        refine (HR1.out _).mono ?_
        rintro e w5 ⟨hb5, ⟨t1, p1⟩, he1, hp1⟩
        obtain rfl : e = .returned (.iface t1 p1) := he1
        refine .inl ⟨_, rfl, ?_⟩
        have hw5 : Below W.heap.size W w5 := ⟨hb5.os, hb5.tape, hb5.output, hb5.size, hb5.block⟩
        have hW5 := below_on HW.out.1 hw5
        have hc50 : w5.cell? ⟨bs 1, 0, none⟩ = some (.string a) := blk_cell (blk_below HW.out.2.1 hw5) 0
        have hc51 : w5.cell? ⟨bs 2, 0, none⟩ = some (.string b) := blk_cell (blk_below HW.out.2.2.1 hw5) 0
        refine hK.out _ _ ⟨hc50, hc51⟩ (fun hHeld => ?_)
        clear hK K
        refine norm_ (a' := ?_) ?_ ?_
        rotate_left
        · show Act.put _ (some 10) _ = _
          simp only [Act.put, List.setIfInBounds_toArray, List.set_cons_zero, List.set_cons_succ, i64_w, i32_w]
          rfl
        refine last_ (i := 3) (N := some 12) #[true, true, true, true, false, false] rfl rfl (by kernel_rfl) (by decide) (fun K hK => ?_)
        refine goesD_ Tryz.func69 (by kernel_rfl) rfl #[.string b] (by rfl) rfl rfl (by simp only [List.map_toArray, List.map_cons, List.map_nil]; rfl) ?_
        refine (HR2.out _).mono ?_
        rintro e w6 ⟨hb6, ⟨t2, p2⟩, he2, hp2⟩
        obtain rfl : e = .returned (.iface t2 p2) := he2
        refine .inl ⟨_, rfl, ?_⟩
        have hW6 := below_on hW5 hb6
        refine hK.out _ _ ?_
        clear hK K
        refine norm_ (a' := ?_) ?_ ?_
        rotate_left
        · show Act.put _ (some 12) _ = _
          simp only [Act.put, List.setIfInBounds_toArray, List.set_cons_zero, List.set_cons_succ, i64_w, i32_w]
          rfl
        refine pure_ (i := 4) (N := some 5) (v := ?_) (a' := ?_) #[true, true, true, true, true, false] rfl rfl (by kernel_rfl) (fun _ _ _ h => h) (Or.inl ⟨by rfl, ?_⟩) ?_ ?_
        rotate_left
        · intro w'
          go_simp
          with_reducible rfl
        rotate_left
        · simp only [Act.put, List.setIfInBounds_toArray, List.set_cons_zero, List.set_cons_succ, i64_w, i32_w]
          rfl
        refine pure_ (i := 5) (N := some 6) (v := ?_) (a' := ?_) #[true, true, true, true, true, true] rfl rfl (by kernel_rfl) (fun _ _ _ h => h) (Or.inl ⟨by rfl, ?_⟩) ?_ ?_
        rotate_left
        · intro w'
          go_simp
          with_reducible rfl
        rotate_left
        · simp only [Act.put, List.setIfInBounds_toArray, List.set_cons_zero, List.set_cons_succ, i64_w, i32_w]
          rfl
        refine done_ (by kernel_rfl) ?_
        have HX : Aside0 (Below w.heap.size w w6 ∧ Has w6 (fun _ => True) x (t1, p1) ∧ Has w6 (fun _ => True) y (t2, p2) ∧ Prec w6 (rankP p) c1 c2) := ⟨hW6, hp1.below hb6, hp2, (HW.out.2.2.2.2.below hw5).below hb6⟩
        have hz6 := blk_below (blk_below HW.out.2.2.2.1 hw5) hb6
        have hx60 := blk_cell hz6 0
        have hx61 : w6.cell? ⟨w1.heap.size, 1, none⟩ = some (.map (some c2)) := blk_cell hz6 1
        have HC := Aside0.mk (HGA.out (t1, p1) (t2, p2) w6 _ _ c1 c2 HX.out.2.1 HX.out.2.2.1 HX.out.2.2.2)
        unfold precV encI at HC
        have hc2 : w.heap.size ≤ c2 := H1.out.2.2.2.1
        have HC2 := Aside0.mk hc2
        clear hp1 hp2 hb5 hb6 hw5 hW5 hW6 hz6 hc50 hc51 hy0 hy1 hc2
        go_wp2_with (go_at_call 93; refine HC.out.mono ?_; rintro e w7 ⟨rfl, hb7, hP7⟩; have H7 := Aside0.mk (And.intro ((But.of_below (g := bo) HX.out.1).new hb7 HC2.out) ((hb7.block _ (Nat.lt_of_lt_of_le HB0.out HX.out.1.size) (Nat.ne_of_lt (Nat.lt_of_lt_of_le HB0.out HC2.out))).trans (blk_below HK.out.2.2 HX.out.1))); clear hb7 hP7; have hz0 := blk_frozen H7.out.2 0; have hd0 : w7.cell? ⟨bo, 0, none⟩ = some (.bool false) := blk_cell H7.out.2 0)
        have hf1 : But bo w (w7.setCell ⟨bo, 0, none⟩ (.bool g)) := H7.out.1.trans (But.set _ 0 _)
        have hf2 : (w7.setCell ⟨bo, 0, none⟩ (.bool g)).heap[bo]? = some (.cells #[.bool g] 4 (0, 0)) := blk_setCell H7.out.2 _
        generalize (w7.setCell ⟨bo, 0, none⟩ (.bool g)) = w9 at *
        simp [bodyPost, results, Tryz.results92]
        exact ⟨hf1, hf2⟩
theorem enters92 : ∀ args w, (callFunc 92 args).run Tryz.prog w = .ok (.enter 92 args) w := fun args w => enters_ Tryz.func92 (by kernel_rfl) rfl args w
set_option maxRecDepth 100000 in
set_option maxHeartbeats 1000000 in
theorem greaterX_calls (p : ByteArray) (a : ByteArray) (b : ByteArray) (hp : p.size ≤ 1000000) (w : World) :
    Calls Tryz.prog 43 #[.string p, .string a, .string b] w fun e w' => e = .returned (.tuple #[.bool (greaterE p a b).2, .int .i64 (greaterE p a b).1]) ∧ Below w.heap.size w w' := by
  obtain ⟨r, l, hv⟩ : ∃ r l, greaterE p a b = (r, l) := ⟨_, _, rfl⟩
  have h1 := fun (bs : Nat → Nat) (bo : Nat) (w' : World) => greater1_calls p a b hp bs bo w'
  rw [hv] at h1 ⊢
  dsimp only at h1 ⊢
  obtain ⟨w3, hw3⟩ : ∃ w3, w3 = (((w.alloc (.cells #[.string p] 9)).alloc (.cells #[.string a] 9)).alloc (.cells #[.string b] 9)).alloc (.cells #[.bool false] 4) := ⟨_, rfl⟩
  have hB3 : Below w.heap.size w w3 := by rw [hw3]; exact below_alloc (below_alloc (below_alloc (below_alloc (Below.refl _ _) _) _) _) _
  have hsz : w3.heap.size = w.heap.size + 4 := by rw [hw3]; simp
  have hk0 : w3.heap[w.heap.size + 0]? = some (.cells #[.string p] 9 (0, 0)) := by
    have h := blk_new w (.cells #[.string p] 9)
    have hs : w.heap.size = w.heap.size + 0 := by simp
    rw [hs] at h
    rw [hw3]
    exact blk_alloc (blk_alloc (blk_alloc h _) _) _
  have hk1 : w3.heap[w.heap.size + 1]? = some (.cells #[.string a] 9 (0, 0)) := by
    have h := blk_new (w.alloc (.cells #[.string p] 9)) (.cells #[.string a] 9)
    have hs : (w.alloc (.cells #[.string p] 9)).heap.size = w.heap.size + 1 := by simp
    rw [hs] at h
    rw [hw3]
    exact blk_alloc (blk_alloc h _) _
  have hk2 : w3.heap[w.heap.size + 2]? = some (.cells #[.string b] 9 (0, 0)) := by
    have h := blk_new ((w.alloc (.cells #[.string p] 9)).alloc (.cells #[.string a] 9)) (.cells #[.string b] 9)
    have hs : ((w.alloc (.cells #[.string p] 9)).alloc (.cells #[.string a] 9)).heap.size = w.heap.size + 2 := by simp
    rw [hs] at h
    rw [hw3]
    exact blk_alloc h _
  have hkr : w3.heap[w.heap.size + 3]? = some (.cells #[.bool false] 4 (0, 0)) := by
    have h := blk_new (((w.alloc (.cells #[.string p] 9)).alloc (.cells #[.string a] 9)).alloc (.cells #[.string b] 9)) (.cells #[.bool false] 4)
    have hs : (((w.alloc (.cells #[.string p] 9)).alloc (.cells #[.string a] 9)).alloc (.cells #[.string b] 9)).heap.size = w.heap.size + 3 := by simp
    rw [hs] at h
    rw [hw3]
    exact h
  have hg := guard_keeps 92 enters92 #[.pointer (some ⟨w.heap.size + 0, 0, none⟩), .pointer (some ⟨w.heap.size + 1, 0, none⟩), .pointer (some ⟨w.heap.size + 2, 0, none⟩), .pointer (some ⟨w.heap.size + 3, 0, none⟩)] w3 (fun c w1 => c = r ∧ But (w.heap.size + 3) w3 w1 ∧ w1.heap[w.heap.size + 3]? = some (.cells #[.bool l] 4 (0, 0))) ((h1 (fun i => w.heap.size + i) (w.heap.size + 3) (w3.alloc (.cells #[.int .i64 0] 26))  (blk_alloc hk0 _) (blk_alloc hk1 _) (blk_alloc hk2 _) (blk_alloc hkr _)).mono (fun e w1 hh => by
    obtain ⟨rfl, hb, hv1⟩ := hh
    have hbt : But (w.heap.size + 3) w3 w1 := (But.of_below (below_alloc (Below.refl _ _) _)).trans hb
    refine ⟨(hb.block _ (by simp) (by omega)).trans (blk_new w3 _), ?_⟩
    by_cases hr : r = 0
    · subst hr
      exact .inl ⟨rfl, rfl, hbt, hv1⟩
    · exact .inr ⟨r, endE_no hr, rfl, hbt, hv1⟩))
  have HG := Aside0.mk hg
  have HB := Aside0.mk hB3
  have HZ := Aside0.mk hsz
  simp only [Nat.add_zero] at HG
  clear hg hB3 hsz hk0 hk1 hk2 hkr h1 hv 
  subst hw3
  go_enter Tryz.func43, Tryz.ntmps43
  go_wp2_with (go_at_call 65; refine HG.out.mono ?_; rintro e w1 ⟨c, w2, rfl, ⟨rfl, hb, hv1⟩, hb2⟩; have hv2 := (hb2.block _ (Array.getElem?_eq_some_iff.1 hv1).1 (by have := HZ.out; omega)).trans hv1; have hz0 := blk_frozen hv2 0; have hd0 : w1.cell? ⟨w.heap.size + 3, 0, none⟩ = some (.bool l) := blk_cell hv2 0; have HH := Aside0.mk (And.intro hb (And.intro hb2 hv2)); clear hb hb2 hv2)
  have hz := HZ.out
  have b1 := HB.out
  obtain ⟨b2, b3, hv2⟩ := HH.out
  have b4 : Below w.heap.size w w1 := (b1.trans (b2.below (Nat.le_add_right _ _) (by omega))).trans (b3.below (by omega) (by have := b2.size; omega))
  have hv9 : (w1.setCell ⟨w.heap.size + 1 + 1 + 1, 0, none⟩ (.bool l)).heap[w.heap.size + 1 + 1 + 1]? = some (.cells #[.bool l] 4 (0, 0)) := blk_setCell hv2 _
  have hcc : (w1.setCell ⟨w.heap.size + 1 + 1 + 1, 0, none⟩ (.bool l)).cell? ⟨w.heap.size + 1 + 1 + 1, 0, none⟩ = some (.bool l) := blk_cell hv9 0
  have b5 : Below w.heap.size w (w1.setCell ⟨w.heap.size + 1 + 1 + 1, 0, none⟩ (.bool l)) := below_set b4 (by omega)
  generalize w1.setCell ⟨w.heap.size + 1 + 1 + 1, 0, none⟩ (.bool l) = w9 at *
  simp [bodyPost, results, Tryz.results43, go_sem, hcc]
  exact b5
def rules_Greater.f (a0 a1 a2 : ByteArray) : Option (Bool × Int) := if a0.size ≤ 1000000 then some ((greaterE a0 a1 a2).2, (greaterE a0 a1 a2).1) else none
theorem rules_Greater.calls (a0 a1 a2 : ByteArray) (r0 : Bool) (r1 : Int) (w : World) (h : rules_Greater.f a0 a1 a2 = some (r0, r1)) :
    Calls Tryz.prog 43 #[.string a0, .string a1, .string a2] w fun e w' => e = .returned (.tuple #[.bool r0, .int .i64 r1]) ∧ Below w.heap.size w w' := by
  unfold rules_Greater.f at h
  split at h
  · rename_i hs
    injection h with h
    injection h with h1 h2
    subst h1 h2
    exact greaterX_calls a0 a1 a2 hs w
  · cases h
end Go.Proofs.YtaafeallcaiooaaGreat.Pr
