/- short cuts a string; awake holds. -/
import Derived.Test.YtaafeallcaiooaaGreatHEx
import Derived.Test.YtaafeallcaiooaaGreatHPt
import Derived.Test.YtaafeallcaiooaaGreatHPn
import Derived.Test.YtaafeallcaiooaaGreatPr0
import Derived.Test.YtaafeallcaiooaaGreatHEv
import Derived.Test.YtaafeallcaiooaaGreatPrB1
import Derived.Test.YtaafeallcaiooaaGreatHGs
/- Greater. -/
namespace Go.Proofs.YtaafeallcaiooaaGreat.Pr
open Go.RowKit Go.Maps Go.Proofs.YtaafeallcaiooaaGreatW.PrintWords Go.Proofs.YtaafeallcaiooaaGreatW.PrintLast Go.Proofs.YtaafeallcaiooaaGreatW.PrintMore
set_option linter.unusedVariables false
set_option linter.unusedSimpArgs false
/-- Greater: the error, and the answer -/
def greaterE (p a b : ByteArray) : Int × Bool := match precOk p with
  | false => (2, false)
  | true => match readT a with
    | none => (4, false)
    | some x => match readT b with
      | none => (4, false)
      | some y => (0, gt (rankP p) x y)
set_option maxRecDepth 100000 in
set_option maxHeartbeats 1000000 in
theorem greater1_calls (p a b : ByteArray) (hp : p.size ≤ 1000000) (bs : Nat → Nat) (bo : Nat) (w : World) (hb0 : w.heap[bs 0]? = some (.cells #[.string p] 9 (0, 0))) (hb1 : w.heap[bs 1]? = some (.cells #[.string a] 9 (0, 0))) (hb2 : w.heap[bs 2]? = some (.cells #[.string b] 9 (0, 0))) (hbo : w.heap[bo]? = some (.cells #[.bool false] 4 (0, 0))) :
    Calls Tryz.prog 92 #[.pointer (some ⟨bs 0, 0, none⟩), .pointer (some ⟨bs 1, 0, none⟩), .pointer (some ⟨bs 2, 0, none⟩), .pointer (some ⟨bo, 0, none⟩)] w fun e w' => e = endE (greaterE p a b).1 ∧ But bo w w' ∧ w'.heap[bo]? = some (.cells #[.bool (greaterE p a b).2] 4 (0, 0)) := by
  have hx0 := blk_cell hb0 0
  have hnp := newPrec_calls p hp w
  cases hP : precOk p with
  | false =>
    have e : greaterE p a b = (2, false) := by unfold greaterE; rw [hP]
    rw [e]
    unfold OutP at hnp
    rw [hP] at hnp
    have HNP := Aside0.mk hnp
    have HB := Aside0.mk hbo
    clear hnp hb0 hb1 hb2 hbo hP e
    go_enter Tryz.func92, Tryz.ntmps92
    go_wp2_with (go_at_call 87; refine HNP.out.mono ?_; rintro e w3 ⟨hb, rfl⟩; have H3 := Aside0.mk hb; clear hb)
    exact ⟨rfl, rfl, But.of_below H3.out, blk_below HB.out H3.out⟩
  | true =>
    unfold OutP at hnp
    rw [hP] at hnp
    dsimp only at hnp
    have HNP := Aside0.mk hnp
    have HK := Aside0.mk (And.intro hb1 (And.intro hb2 hbo))
    have hr1 := fun w' : World => read_calls (fun _ => True) a w' (fun _ _ => trivial)
    have hr2 := fun w' : World => read_calls (fun _ => True) b w' (fun _ _ => trivial)
    have HFN : Aside0 (∀ w', Below w.heap.size w w' → troubled 4 = endE 4 ∧ But bo w w' ∧ w'.heap[bo]? = some (.cells #[.bool false] 4 (0, 0))) := ⟨fun w' h => ⟨rfl, But.of_below h, blk_below hbo h⟩⟩
    cases hR1 : readT a with
    | none =>
      have e : greaterE p a b = (4, false) := by unfold greaterE; rw [hP]; dsimp only; rw [hR1]
      rw [e]
      rw [hR1] at hr1
      have HR1 := Aside0.mk hr1
      have HR2 := Aside0.mk hr2
      clear hnp hb0 hb1 hb2 hbo hP e hR1 hr1 hr2
      go_enter Tryz.func92, Tryz.ntmps92
      go_wp2_with (go_at_call 87; refine HNP.out.mono ?_; rintro e w1 ⟨hb, c1, c2, rfl, hne, hs1, hs2, hRk, hMp⟩; have H1 := Aside0.mk (And.intro hb (And.intro hne (And.intro hs1 (And.intro hs2 (And.intro hRk hMp))))); clear hb hne hs1 hs2 hRk hMp)
      obtain ⟨W, hW⟩ : ∃ W, W = w1.alloc (.cells #[.map (some c1), .map (some c2)] 120) := ⟨_, rfl⟩
      rw [← hW]
      have HW : Aside0 (Below w.heap.size w W ∧ W.heap[bs 1]? = some (.cells #[.string a] 9 (0, 0)) ∧ W.heap[bs 2]? = some (.cells #[.string b] 9 (0, 0)) ∧ W.heap[w1.heap.size]? = some (.cells #[.map (some c1), .map (some c2)] 120 (0, 0)) ∧ Prec W (rankP p) c1 c2) := by
        rw [hW]
        have hP1 : Prec w1 (rankP p) c1 c2 := ⟨H1.out.2.2.2.2.1, H1.out.2.1, [], H1.out.2.2.2.2.2, known_nil _⟩
        have hBb := below_alloc (Below.refl w1.heap.size w1) (.cells #[.map (some c1), .map (some c2)] 120)
        exact ⟨below_on H1.out.1 hBb, blk_below (blk_below HK.out.1 H1.out.1) hBb, blk_below (blk_below HK.out.2.1 H1.out.1) hBb, blk_new w1 _, hP1.below hBb⟩
      clear hW
      have hy0 : W.drew.cell? ⟨bs 1, 0, none⟩ = some (.string a) := blk_cell (blk_drew HW.out.2.1) 0
      have hy1 : W.drew.cell? ⟨bs 2, 0, none⟩ = some (.string b) := blk_cell (blk_drew HW.out.2.2.1) 0
      refine start_ (n := 6) (S := fun w' => w'.cell? ⟨bs 1, 0, none⟩ = some (.string a) ∧ w'.cell? ⟨bs 2, 0, none⟩ = some (.string b)) (ds := [3]) (bm 6 0) (by kernel_rfl) rfl rfl ⟨hy0, hy1⟩ (fun hHeld => ?_)
      refine take_ (i := 0) (N := some 9) (v := ?_) (a' := ?_) (bm 6 1) rfl rfl (by kernel_rfl) (fun _ _ _ h => h) (Or.inl ⟨by rfl, ?_⟩) hHeld ?_ ?_; rotate_left; (rintro w' ⟨s0, s1⟩; go_simp; with_reducible rfl); rotate_left; exact tP_
      refine take_ (i := 2) (N := some 11) (v := ?_) (a' := ?_) (bm 6 5) rfl rfl (by kernel_rfl) (fun _ _ _ h => h) (Or.inl ⟨by rfl, ?_⟩) hHeld ?_ ?_; rotate_left; (rintro w' ⟨s0, s1⟩; go_simp; with_reducible rfl); rotate_left; exact tP_
      refine one_ (i := 1) (N := some 10) (bm 6 7) rfl rfl (by kernel_rfl) (by decide) (fun K hK => ?_)
      refine goesD_ Tryz.func69 (by kernel_rfl) rfl #[.string a] (by rfl) rfl rfl (by simp only [List.map_toArray, List.map_cons, List.map_nil]; rfl) ?_
      refine (HR1.out _).mono ?_
      rintro e w5 ⟨hb5, rfl⟩
      refine .inr ⟨_, rfl, ?_⟩
      have hw5 : Below W.heap.size W w5 := ⟨hb5.os, hb5.tape, hb5.output, hb5.size, hb5.block⟩
      have hW5 := below_on HW.out.1 hw5
      exact ⟨rfl, HFN.out _ hW5⟩
    | some x =>
      rw [hR1] at hr1
      have hg1 := readT_good hR1
      cases hR2 : readT b with
      | none =>
        have e : greaterE p a b = (4, false) := by unfold greaterE; rw [hP]; dsimp only; rw [hR1]; dsimp only; rw [hR2]
        rw [e]
        rw [hR2] at hr2
        have HR1 := Aside0.mk hr1
        have HR2 := Aside0.mk hr2
        clear hnp hb0 hb1 hb2 hbo hP e hR1 hr1 hr2 hR2 hg1
        go_enter Tryz.func92, Tryz.ntmps92
        go_wp2_with (go_at_call 87; refine HNP.out.mono ?_; rintro e w1 ⟨hb, c1, c2, rfl, hne, hs1, hs2, hRk, hMp⟩; have H1 := Aside0.mk (And.intro hb (And.intro hne (And.intro hs1 (And.intro hs2 (And.intro hRk hMp))))); clear hb hne hs1 hs2 hRk hMp)
        obtain ⟨W, hW⟩ : ∃ W, W = w1.alloc (.cells #[.map (some c1), .map (some c2)] 120) := ⟨_, rfl⟩
        rw [← hW]
        have HW : Aside0 (Below w.heap.size w W ∧ W.heap[bs 1]? = some (.cells #[.string a] 9 (0, 0)) ∧ W.heap[bs 2]? = some (.cells #[.string b] 9 (0, 0)) ∧ W.heap[w1.heap.size]? = some (.cells #[.map (some c1), .map (some c2)] 120 (0, 0)) ∧ Prec W (rankP p) c1 c2) := by
          rw [hW]
          have hP1 : Prec w1 (rankP p) c1 c2 := ⟨H1.out.2.2.2.2.1, H1.out.2.1, [], H1.out.2.2.2.2.2, known_nil _⟩
          have hBb := below_alloc (Below.refl w1.heap.size w1) (.cells #[.map (some c1), .map (some c2)] 120)
          exact ⟨below_on H1.out.1 hBb, blk_below (blk_below HK.out.1 H1.out.1) hBb, blk_below (blk_below HK.out.2.1 H1.out.1) hBb, blk_new w1 _, hP1.below hBb⟩
        clear hW
        have hy0 : W.drew.cell? ⟨bs 1, 0, none⟩ = some (.string a) := blk_cell (blk_drew HW.out.2.1) 0
        have hy1 : W.drew.cell? ⟨bs 2, 0, none⟩ = some (.string b) := blk_cell (blk_drew HW.out.2.2.1) 0
        refine start_ (n := 6) (S := fun w' => w'.cell? ⟨bs 1, 0, none⟩ = some (.string a) ∧ w'.cell? ⟨bs 2, 0, none⟩ = some (.string b)) (ds := [3]) (bm 6 0) (by kernel_rfl) rfl rfl ⟨hy0, hy1⟩ (fun hHeld => ?_)
        refine take_ (i := 0) (N := some 9) (v := ?_) (a' := ?_) (bm 6 1) rfl rfl (by kernel_rfl) (fun _ _ _ h => h) (Or.inl ⟨by rfl, ?_⟩) hHeld ?_ ?_; rotate_left; (rintro w' ⟨s0, s1⟩; go_simp; with_reducible rfl); rotate_left; exact tP_
        refine take_ (i := 2) (N := some 11) (v := ?_) (a' := ?_) (bm 6 5) rfl rfl (by kernel_rfl) (fun _ _ _ h => h) (Or.inl ⟨by rfl, ?_⟩) hHeld ?_ ?_; rotate_left; (rintro w' ⟨s0, s1⟩; go_simp; with_reducible rfl); rotate_left; exact tP_
        refine one_ (i := 1) (N := some 10) (bm 6 7) rfl rfl (by kernel_rfl) (by decide) (fun K hK => ?_)
        refine goesD_ Tryz.func69 (by kernel_rfl) rfl #[.string a] (by rfl) rfl rfl (by simp only [List.map_toArray, List.map_cons, List.map_nil]; rfl) ?_
        refine (HR1.out _).mono ?_
        rintro e w5 ⟨hb5, ⟨t1, p1⟩, he1, hp1⟩
        obtain rfl : e = .returned (.iface t1 p1) := he1
        refine .inl ⟨_, rfl, ?_⟩
        have hw5 : Below W.heap.size W w5 := ⟨hb5.os, hb5.tape, hb5.output, hb5.size, hb5.block⟩
        have hW5 := below_on HW.out.1 hw5
        have hc50 : w5.cell? ⟨bs 1, 0, none⟩ = some (.string a) := blk_cell (blk_below HW.out.2.1 hw5) 0
        have hc51 : w5.cell? ⟨bs 2, 0, none⟩ = some (.string b) := blk_cell (blk_below HW.out.2.2.1 hw5) 0
        refine hK.out _ _ ⟨hc50, hc51⟩ (fun hHeld => ?_)
        clear hK K
        refine norm_ (a' := ?_) ?_ ?_; rotate_left; (show Act.put _ (some 10) _ = _; exact tP_)
        refine last_ (i := 3) (N := some 12) (bm 6 15) rfl rfl (by kernel_rfl) (by decide) (fun K hK => ?_)
        refine goesD_ Tryz.func69 (by kernel_rfl) rfl #[.string b] (by rfl) rfl rfl (by simp only [List.map_toArray, List.map_cons, List.map_nil]; rfl) ?_
        refine (HR2.out _).mono ?_
        rintro e w6 ⟨hb6, rfl⟩
        refine .inr ⟨_, rfl, ?_⟩
        have hW6 := below_on hW5 hb6
        exact ⟨rfl, HFN.out _ hW6⟩
      | some y =>
        rw [hR2] at hr2
        have hg2 := readT_good hR2
        have e : greaterE p a b = (0, gt (rankP p) x y) := by unfold greaterE; rw [hP]; dsimp only; rw [hR1]; dsimp only; rw [hR2]
        rw [e]
        have e0 : endE (0, gt (rankP p) x y).1 = .returned (.tuple #[]) := rfl
        rw [e0]
        have HGA := Aside0.mk (greater_all (rankP p) x y hg1.1 hg2.1 (by omega))
        have HR1 := Aside0.mk hr1
        have HR2 := Aside0.mk hr2
        have HB0 := Aside0.mk (Array.getElem?_eq_some_iff.1 hbo).1
        clear hnp hb0 hb1 hb2 hbo hP e e0 hR1 hr1 hr2 hR2 hg1 hg2
        unfold CmpOk at HGA
        generalize gt (rankP p) x y = g at *
        go_enter Tryz.func92, Tryz.ntmps92
        go_wp2_with (go_at_call 87; refine HNP.out.mono ?_; rintro e w1 ⟨hb, c1, c2, rfl, hne, hs1, hs2, hRk, hMp⟩; have H1 := Aside0.mk (And.intro hb (And.intro hne (And.intro hs1 (And.intro hs2 (And.intro hRk hMp))))); clear hb hne hs1 hs2 hRk hMp)
        obtain ⟨W, hW⟩ : ∃ W, W = w1.alloc (.cells #[.map (some c1), .map (some c2)] 120) := ⟨_, rfl⟩
        rw [← hW]
        have HW : Aside0 (Below w.heap.size w W ∧ W.heap[bs 1]? = some (.cells #[.string a] 9 (0, 0)) ∧ W.heap[bs 2]? = some (.cells #[.string b] 9 (0, 0)) ∧ W.heap[w1.heap.size]? = some (.cells #[.map (some c1), .map (some c2)] 120 (0, 0)) ∧ Prec W (rankP p) c1 c2) := by
          rw [hW]
          have hP1 : Prec w1 (rankP p) c1 c2 := ⟨H1.out.2.2.2.2.1, H1.out.2.1, [], H1.out.2.2.2.2.2, known_nil _⟩
          have hBb := below_alloc (Below.refl w1.heap.size w1) (.cells #[.map (some c1), .map (some c2)] 120)
          exact ⟨below_on H1.out.1 hBb, blk_below (blk_below HK.out.1 H1.out.1) hBb, blk_below (blk_below HK.out.2.1 H1.out.1) hBb, blk_new w1 _, hP1.below hBb⟩
        clear hW
        have hy0 : W.drew.cell? ⟨bs 1, 0, none⟩ = some (.string a) := blk_cell (blk_drew HW.out.2.1) 0
        have hy1 : W.drew.cell? ⟨bs 2, 0, none⟩ = some (.string b) := blk_cell (blk_drew HW.out.2.2.1) 0
        refine start_ (n := 6) (S := fun w' => w'.cell? ⟨bs 1, 0, none⟩ = some (.string a) ∧ w'.cell? ⟨bs 2, 0, none⟩ = some (.string b)) (ds := [3]) (bm 6 0) (by kernel_rfl) rfl rfl ⟨hy0, hy1⟩ (fun hHeld => ?_)
        refine take_ (i := 0) (N := some 9) (v := ?_) (a' := ?_) (bm 6 1) rfl rfl (by kernel_rfl) (fun _ _ _ h => h) (Or.inl ⟨by rfl, ?_⟩) hHeld ?_ ?_; rotate_left; (rintro w' ⟨s0, s1⟩; go_simp; with_reducible rfl); rotate_left; exact tP_
        refine take_ (i := 2) (N := some 11) (v := ?_) (a' := ?_) (bm 6 5) rfl rfl (by kernel_rfl) (fun _ _ _ h => h) (Or.inl ⟨by rfl, ?_⟩) hHeld ?_ ?_; rotate_left; (rintro w' ⟨s0, s1⟩; go_simp; with_reducible rfl); rotate_left; exact tP_
        refine one_ (i := 1) (N := some 10) (bm 6 7) rfl rfl (by kernel_rfl) (by decide) (fun K hK => ?_)
        refine goesD_ Tryz.func69 (by kernel_rfl) rfl #[.string a] (by rfl) rfl rfl (by simp only [List.map_toArray, List.map_cons, List.map_nil]; rfl) ?_
        refine (HR1.out _).mono ?_
        rintro e w5 ⟨hb5, ⟨t1, p1⟩, he1, hp1⟩
        obtain rfl : e = .returned (.iface t1 p1) := he1
        refine .inl ⟨_, rfl, ?_⟩
        have hw5 : Below W.heap.size W w5 := ⟨hb5.os, hb5.tape, hb5.output, hb5.size, hb5.block⟩
        have hW5 := below_on HW.out.1 hw5
        have hc50 : w5.cell? ⟨bs 1, 0, none⟩ = some (.string a) := blk_cell (blk_below HW.out.2.1 hw5) 0
        have hc51 : w5.cell? ⟨bs 2, 0, none⟩ = some (.string b) := blk_cell (blk_below HW.out.2.2.1 hw5) 0
        refine hK.out _ _ ⟨hc50, hc51⟩ (fun hHeld => ?_)
        clear hK K
        refine norm_ (a' := ?_) ?_ ?_; rotate_left; (show Act.put _ (some 10) _ = _; exact tP_)
        refine last_ (i := 3) (N := some 12) (bm 6 15) rfl rfl (by kernel_rfl) (by decide) (fun K hK => ?_)
        refine goesD_ Tryz.func69 (by kernel_rfl) rfl #[.string b] (by rfl) rfl rfl (by simp only [List.map_toArray, List.map_cons, List.map_nil]; rfl) ?_
        refine (HR2.out _).mono ?_
        rintro e w6 ⟨hb6, ⟨t2, p2⟩, he2, hp2⟩
        obtain rfl : e = .returned (.iface t2 p2) := he2
        refine .inl ⟨_, rfl, ?_⟩
        have hW6 := below_on hW5 hb6
        refine hK.out _ _ ?_
        clear hK K
        refine norm_ (a' := ?_) ?_ ?_; rotate_left; (show Act.put _ (some 12) _ = _; exact tP_)
        refine pure_ (i := 4) (N := some 5) (bm 6 31) rfl rfl (by kernel_rfl) (fun _ _ _ h => h) (.inl ⟨rfl, tY_⟩) tP_ ?_
        refine pure_ (i := 5) (N := some 6) (bm 6 63) rfl rfl (by kernel_rfl) (fun _ _ _ h => h) (.inl ⟨rfl, tY_⟩) tP_ ?_
        refine done_ (by kernel_rfl) ?_
        have HX : Aside0 (Below w.heap.size w w6 ∧ Has w6 (fun _ => True) x (t1, p1) ∧ Has w6 (fun _ => True) y (t2, p2) ∧ Prec w6 (rankP p) c1 c2) := ⟨hW6, hp1.below hb6, hp2, (HW.out.2.2.2.2.below hw5).below hb6⟩
        have hz6 := blk_below (blk_below HW.out.2.2.2.1 hw5) hb6
        have hx60 := blk_cell hz6 0
        have hx61 : w6.cell? ⟨w1.heap.size, 1, none⟩ = some (.map (some c2)) := blk_cell hz6 1
        have HC := Aside0.mk (HGA.out (t1, p1) (t2, p2) w6 _ _ c1 c2 HX.out.2.1 HX.out.2.2.1 HX.out.2.2.2)
        unfold precV encI at HC
        have hc2 : w.heap.size ≤ c2 := H1.out.2.2.2.1
        have HC2 := Aside0.mk hc2
        clear hp1 hp2 hb5 hb6 hw5 hW5 hW6 hz6 hc50 hc51 hy0 hy1 hc2
        go_wp2_with (go_at_call 93; refine HC.out.mono ?_; rintro e w7 ⟨rfl, hb7, hP7⟩; have H7 := Aside0.mk (And.intro ((But.of_below (g := bo) HX.out.1).new hb7 HC2.out) ((hb7.block _ (Nat.lt_of_lt_of_le HB0.out HX.out.1.size) (Nat.ne_of_lt (Nat.lt_of_lt_of_le HB0.out HC2.out))).trans (blk_below HK.out.2.2 HX.out.1))); clear hb7 hP7; have hz0 := blk_frozen H7.out.2 0; have hd0 : w7.cell? ⟨bo, 0, none⟩ = some (.bool false) := blk_cell H7.out.2 0)
        have hf1 : But bo w (w7.setCell ⟨bo, 0, none⟩ (.bool g)) := H7.out.1.trans (But.set _ 0 _)
        have hf2 : (w7.setCell ⟨bo, 0, none⟩ (.bool g)).heap[bo]? = some (.cells #[.bool g] 4 (0, 0)) := blk_setCell H7.out.2 _
        generalize (w7.setCell ⟨bo, 0, none⟩ (.bool g)) = w9 at *
        simp [bodyPost, results, Tryz.results92]
        exact ⟨hf1, hf2⟩
theorem enters92 : ∀ args w, (callFunc 92 args).run Tryz.prog w = .ok (.enter 92 args) w := fun args w => enters_ Tryz.func92 (by kernel_rfl) rfl args w
set_option maxRecDepth 100000 in
set_option maxHeartbeats 1000000 in
theorem greaterX_calls (p : ByteArray) (a : ByteArray) (b : ByteArray) (hp : p.size ≤ 1000000) (w : World) :
    Calls Tryz.prog 43 #[.string p, .string a, .string b] w fun e w' => e = .returned (.tuple #[.bool (greaterE p a b).2, .int .i64 (greaterE p a b).1]) ∧ Below w.heap.size w w' := by
  obtain ⟨r, l, hv⟩ : ∃ r l, greaterE p a b = (r, l) := ⟨_, _, rfl⟩
  have h1 := fun (bs : Nat → Nat) (bo : Nat) (w' : World) => greater1_calls p a b hp bs bo w'
  rw [hv] at h1 ⊢
  dsimp only at h1 ⊢
  obtain ⟨w3, hw3⟩ : ∃ w3, w3 = (((w.alloc (.cells #[.string p] 9)).alloc (.cells #[.string a] 9)).alloc (.cells #[.string b] 9)).alloc (.cells #[.bool false] 4) := ⟨_, rfl⟩
  have hB3 : Below w.heap.size w w3 := by rw [hw3]; exact below_alloc (below_alloc (below_alloc (below_alloc (Below.refl _ _) _) _) _) _
  have hsz : w3.heap.size = w.heap.size + 4 := by rw [hw3]; simp
  have hk0 : w3.heap[w.heap.size + 0]? = some (.cells #[.string p] 9 (0, 0)) := by
    have h := blk_new w (.cells #[.string p] 9)
    have hs : w.heap.size = w.heap.size + 0 := by simp
    rw [hs] at h
    rw [hw3]
    exact blk_alloc (blk_alloc (blk_alloc h _) _) _
  have hk1 : w3.heap[w.heap.size + 1]? = some (.cells #[.string a] 9 (0, 0)) := by
    have h := blk_new (w.alloc (.cells #[.string p] 9)) (.cells #[.string a] 9)
    have hs : (w.alloc (.cells #[.string p] 9)).heap.size = w.heap.size + 1 := by simp
    rw [hs] at h
    rw [hw3]
    exact blk_alloc (blk_alloc h _) _
  have hk2 : w3.heap[w.heap.size + 2]? = some (.cells #[.string b] 9 (0, 0)) := by
    have h := blk_new ((w.alloc (.cells #[.string p] 9)).alloc (.cells #[.string a] 9)) (.cells #[.string b] 9)
    have hs : ((w.alloc (.cells #[.string p] 9)).alloc (.cells #[.string a] 9)).heap.size = w.heap.size + 2 := by simp
    rw [hs] at h
    rw [hw3]
    exact blk_alloc h _
  have hkr : w3.heap[w.heap.size + 3]? = some (.cells #[.bool false] 4 (0, 0)) := by
    have h := blk_new (((w.alloc (.cells #[.string p] 9)).alloc (.cells #[.string a] 9)).alloc (.cells #[.string b] 9)) (.cells #[.bool false] 4)
    have hs : (((w.alloc (.cells #[.string p] 9)).alloc (.cells #[.string a] 9)).alloc (.cells #[.string b] 9)).heap.size = w.heap.size + 3 := by simp
    rw [hs] at h
    rw [hw3]
    exact h
  have hg := guard_keeps 92 enters92 #[.pointer (some ⟨w.heap.size + 0, 0, none⟩), .pointer (some ⟨w.heap.size + 1, 0, none⟩), .pointer (some ⟨w.heap.size + 2, 0, none⟩), .pointer (some ⟨w.heap.size + 3, 0, none⟩)] w3 (fun c w1 => c = r ∧ But (w.heap.size + 3) w3 w1 ∧ w1.heap[w.heap.size + 3]? = some (.cells #[.bool l] 4 (0, 0))) ((h1 (fun i => w.heap.size + i) (w.heap.size + 3) (w3.alloc (.cells #[.int .i64 0] 26))  (blk_alloc hk0 _) (blk_alloc hk1 _) (blk_alloc hk2 _) (blk_alloc hkr _)).mono (fun e w1 hh => by
    obtain ⟨rfl, hb, hv1⟩ := hh
    have hbt : But (w.heap.size + 3) w3 w1 := (But.of_below (below_alloc (Below.refl _ _) _)).trans hb
    refine ⟨(hb.block _ (by simp) (by omega)).trans (blk_new w3 _), ?_⟩
    by_cases hr : r = 0
    · subst hr
      exact .inl ⟨rfl, rfl, hbt, hv1⟩
    · exact .inr ⟨r, endE_no hr, rfl, hbt, hv1⟩))
  have HG := Aside0.mk hg
  have HB := Aside0.mk hB3
  have HZ := Aside0.mk hsz
  simp only [Nat.add_zero] at HG
  clear hg hB3 hsz hk0 hk1 hk2 hkr h1 hv 
  subst hw3
  go_enter Tryz.func43, Tryz.ntmps43
  go_wp2_with (go_at_call 65; refine HG.out.mono ?_; rintro e w1 ⟨c, w2, rfl, ⟨rfl, hb, hv1⟩, hb2⟩; have hv2 := (hb2.block _ (Array.getElem?_eq_some_iff.1 hv1).1 (by have := HZ.out; omega)).trans hv1; have hz0 := blk_frozen hv2 0; have hd0 : w1.cell? ⟨w.heap.size + 3, 0, none⟩ = some (.bool l) := blk_cell hv2 0; have HH := Aside0.mk (And.intro hb (And.intro hb2 hv2)); clear hb hb2 hv2)
  have hz := HZ.out
  have b1 := HB.out
  obtain ⟨b2, b3, hv2⟩ := HH.out
  have b4 : Below w.heap.size w w1 := (b1.trans (b2.below (Nat.le_add_right _ _) (by omega))).trans (b3.below (by omega) (by have := b2.size; omega))
  have hv9 : (w1.setCell ⟨w.heap.size + 1 + 1 + 1, 0, none⟩ (.bool l)).heap[w.heap.size + 1 + 1 + 1]? = some (.cells #[.bool l] 4 (0, 0)) := blk_setCell hv2 _
  have hcc : (w1.setCell ⟨w.heap.size + 1 + 1 + 1, 0, none⟩ (.bool l)).cell? ⟨w.heap.size + 1 + 1 + 1, 0, none⟩ = some (.bool l) := blk_cell hv9 0
  have b5 : Below w.heap.size w (w1.setCell ⟨w.heap.size + 1 + 1 + 1, 0, none⟩ (.bool l)) := below_set b4 (by omega)
  generalize w1.setCell ⟨w.heap.size + 1 + 1 + 1, 0, none⟩ (.bool l) = w9 at *
  simp [bodyPost, results, Tryz.results43, go_sem, hcc]
  exact b5
def rules_Greater.f (a0 a1 a2 : ByteArray) : Option (Bool × Int) := if a0.size ≤ 1000000 then some ((greaterE a0 a1 a2).2, (greaterE a0 a1 a2).1) else none
theorem rules_Greater.calls (a0 a1 a2 : ByteArray) (r0 : Bool) (r1 : Int) (w : World) (h : rules_Greater.f a0 a1 a2 = some (r0, r1)) :
    Calls Tryz.prog 43 #[.string a0, .string a1, .string a2] w fun e w' => e = .returned (.tuple #[.bool r0, .int .i64 r1]) ∧ Below w.heap.size w w' := by
  unfold rules_Greater.f at h
  split at h
  · rename_i hs
    injection h with h
    injection h with h1 h2
    subst h1 h2
    exact greaterX_calls a0 a1 a2 hs w
  · cases h
end Go.Proofs.YtaafeallcaiooaaGreat.Pr
/- the reference's Apply. -/
namespace Go.Proofs.YtaafeallcaiooaaGreat.Pr
open Go.RowKit Go.Proofs.YtaafeallcaiooaaGreatW.PrintWords Go.Proofs.YtaafeallcaiooaaGreatW.PrintLast Go.Proofs.YtaafeallcaiooaaGreatW.PrintMore
set_option linter.unusedVariables false
set_option linter.unusedSimpArgs false
def isVarI (c : Int) : Bool := decide (c ≥ 120) && decide (c ≤ 122)
theorem isvar_calls (c : Int) (w : World) : Calls Tryz.prog 74 #[.int .u8 c] w fun e w' => e = .returned (.bool (isVarI c)) ∧ w' = w := by
  unfold isVarI
  by_cases h1 : c ≥ 120
  · by_cases h2 : c ≤ 122
    · have d1 : decide (c ≥ 120) = true := decide_eq_true h1
      have d2 : decide (c ≤ 122) = true := decide_eq_true h2
      rw [d1, d2]
      clear h1 h2
      go_enter Tryz.func74, Tryz.ntmps74
      go_wp2
      go_ret
      exact ⟨rfl, rfl⟩
    · have d1 : decide (c ≥ 120) = true := decide_eq_true h1
      have d2 : decide (c ≤ 122) = false := decide_eq_false h2
      rw [d1, d2]
      clear h1 h2
      go_enter Tryz.func74, Tryz.ntmps74
      go_wp2
      go_ret
      exact ⟨rfl, rfl⟩
  · have d1 : decide (c ≥ 120) = false := decide_eq_false h1
    rw [d1]
    clear h1
    go_enter Tryz.func74, Tryz.ntmps74
    go_wp2
    go_ret
    exact ⟨rfl, rfl⟩
/-- what stands for a character -/
def applyC (s0 s1 s2 : List UInt8) (c : UInt8) : List UInt8 := if c = 120 then s0 else if c = 121 then s1 else if c = 122 then s2 else [c]
def applyL (s0 s1 s2 l : List UInt8) : List UInt8 := l.flatMap (applyC s0 s1 s2)
end Go.Proofs.YtaafeallcaiooaaGreat.Pr
-- Laid by wip/tools/inj.py of this project, which drives the kit's printer. Lean checks it.
namespace Go.Proofs.YtaafeallcaiooaaGreat.Pr
open Go.RowKit Go.Proofs.YtaafeallcaiooaaGreatW.PrintWords Go.Proofs.YtaafeallcaiooaaGreatW.PrintLast Go.Proofs.YtaafeallcaiooaaGreatW.PrintMore
attribute [local go_sem] max2_int min2_int max_two min_two max_three min_three max_four min_four   -- for this text's walks alone
set_option linter.unusedVariables false
set_option linter.unusedSimpArgs false

/-! ### numnahlaw08_grow: function 83 -/
mutual
def numnahlaw08_grow.j0 : Nat → ByteArray → Int → Int → Int → Bool → Option (ByteArray × Int)
 | 0, _, _, _, _, _ => none
 | k + 1, x0, x1, x2, x8, x31 => if x31 = true then (if 0 ≤ (Int.tmod x8 5) then (if (Int.tmod x8 5) ≤ (wrap64 ((Int.tmod x8 5) + 1)) then (if (wrap64 ((Int.tmod x8 5) + 1)) ≤ 5 then (some ((⟨#[97, 98, 120, 121, 122]⟩ : ByteArray).extract ((Int.tmod x8 5) : Int).toNat ((wrap64 ((Int.tmod x8 5) + 1)) : Int).toNat, wrap64 (x1 + 1))) else (none)) else (none)) else (none)) else (if 0 ≤ (wrap64 (x8 - 5)) then (if (wrap64 (x8 - 5)) ≤ (wrap64 (x8 - 4)) then (if (wrap64 (x8 - 4)) ≤ 6 then (if x8 < 8 then (numnahlaw08_grow.j1 k x0 x1 x2 x8 ((⟨#[99, 99, 100, 101, 101, 102]⟩ : ByteArray).extract ((wrap64 (x8 - 5)) : Int).toNat ((wrap64 (x8 - 4)) : Int).toNat) true) else (numnahlaw08_grow.j1 k x0 x1 x2 x8 ((⟨#[99, 99, 100, 101, 101, 102]⟩ : ByteArray).extract ((wrap64 (x8 - 5)) : Int).toNat ((wrap64 (x8 - 4)) : Int).toNat) (decide (x2 < 3)))) else (none)) else (none)) else (none))
def numnahlaw08_grow.j1 : Nat → ByteArray → Int → Int → Int → ByteArray → Bool → Option (ByteArray × Int)
 | 0, _, _, _, _, _, _ => none
 | k + 1, x0, x1, x2, x8, x9, x50 => if x50 = true then ((numnahlaw08_grow.f k x0 (wrap64 (x1 + 1)) (wrap64 (x2 - 1))).bind fun bt307 => (if x8 ≥ 8 then (if 1 + 1 ≤ 9223372036854775807 then (if 1 + bt307.1.size ≤ 9223372036854775807 then (if (((⟨#[100]⟩ : ByteArray) ++ (⟨#[40]⟩ : ByteArray)) ++ bt307.1).size + 1 ≤ 9223372036854775807 then (some ((((⟨#[100]⟩ : ByteArray) ++ (⟨#[40]⟩ : ByteArray)) ++ bt307.1) ++ (⟨#[41]⟩ : ByteArray), bt307.2)) else (none)) else (none)) else (none)) else (if x9.size + 1 ≤ 9223372036854775807 then (if (x9 ++ (⟨#[40]⟩ : ByteArray)).size + bt307.1.size ≤ 9223372036854775807 then (if ((x9 ++ (⟨#[40]⟩ : ByteArray)) ++ bt307.1).size + 1 ≤ 9223372036854775807 then (some (((x9 ++ (⟨#[40]⟩ : ByteArray)) ++ bt307.1) ++ (⟨#[41]⟩ : ByteArray), bt307.2)) else (none)) else (none)) else (none)))) else ((numnahlaw08_grow.f k x0 (wrap64 (x1 + 1)) (wrap64 (Int.tdiv (wrap64 (x2 - 1)) 2))).bind fun bt309 => ((numnahlaw08_grow.f k x0 bt309.2 (wrap64 ((wrap64 (x2 - 1)) - (wrap64 (Int.tdiv (wrap64 (x2 - 1)) 2))))).bind fun bt311 => (if x9.size + 1 ≤ 9223372036854775807 then (if (x9 ++ (⟨#[40]⟩ : ByteArray)).size + bt309.1.size ≤ 9223372036854775807 then (if ((x9 ++ (⟨#[40]⟩ : ByteArray)) ++ bt309.1).size + 1 ≤ 9223372036854775807 then (if (((x9 ++ (⟨#[40]⟩ : ByteArray)) ++ bt309.1) ++ (⟨#[44]⟩ : ByteArray)).size + bt311.1.size ≤ 9223372036854775807 then (if ((((x9 ++ (⟨#[40]⟩ : ByteArray)) ++ bt309.1) ++ (⟨#[44]⟩ : ByteArray)) ++ bt311.1).size + 1 ≤ 9223372036854775807 then (some (((((x9 ++ (⟨#[40]⟩ : ByteArray)) ++ bt309.1) ++ (⟨#[44]⟩ : ByteArray)) ++ bt311.1) ++ (⟨#[41]⟩ : ByteArray), bt311.2)) else (none)) else (none)) else (none)) else (none)) else (none))))
def numnahlaw08_grow.f : Nat → ByteArray → Int → Int → Option (ByteArray × Int)
 | 0, _, _, _ => none
 | k + 1, a0, a1, a2 => if a1 ≥ (a0.size : Int) then (some ((⟨#[97]⟩ : ByteArray), a1)) else (if 0 ≤ a1 then (if a1 < (a0.size : Int) then (if a2 < 2 then (numnahlaw08_grow.j0 k a0 a1 a2 (Int.tmod (wrap64 (bt a0 a1)) 11) true) else (numnahlaw08_grow.j0 k a0 a1 a2 (Int.tmod (wrap64 (bt a0 a1)) 11) (decide ((Int.tmod (wrap64 (bt a0 a1)) 11) < 5)))) else (none)) else (none))
end
theorem numnahlaw08_grow.mono_l : ∀ k, (∀ y0 y1 y2, LeO (numnahlaw08_grow.f k y0 y1 y2) (numnahlaw08_grow.f (k + 1) y0 y1 y2)) ∧ (∀ y0 y1 y2 y3 y4, LeO (numnahlaw08_grow.j0 k y0 y1 y2 y3 y4) (numnahlaw08_grow.j0 (k + 1) y0 y1 y2 y3 y4)) ∧ (∀ y0 y1 y2 y3 y4 y5, LeO (numnahlaw08_grow.j1 k y0 y1 y2 y3 y4 y5) (numnahlaw08_grow.j1 (k + 1) y0 y1 y2 y3 y4 y5))
 | 0 => ⟨fun _ _ _ r h => by simp [numnahlaw08_grow.f] at h, fun _ _ _ _ _ r h => by simp [numnahlaw08_grow.j0] at h, fun _ _ _ _ _ _ r h => by simp [numnahlaw08_grow.j1] at h⟩
 | k + 1 => by
  obtain ⟨ih0, ih1, ih2⟩ := numnahlaw08_grow.mono_l k
  refine ⟨?_, ?_, ?_⟩
  ·intro y0 y1 y2
   unfold numnahlaw08_grow.f
   repeat' first
   | (with_reducible exact ih0 _ _ _)
   | (with_reducible exact ih1 _ _ _ _ _)
   | (with_reducible exact ih2 _ _ _ _ _ _)
   | (with_reducible exact LeO.refl _)
   | (with_reducible exact LeO.none _)
   | (with_reducible refine LeO.ite ?_ ?_)
   | (with_reducible refine LeO.bind ?_ (fun _ => ?_))
   | exact ih0 _ _ _
   | exact ih1 _ _ _ _ _
   | exact ih2 _ _ _ _ _ _
   | exact LeO.none _
   | refine LeO.ite ?_ ?_
   | refine LeO.bind ?_ (fun _ => ?_)
  ·intro y0 y1 y2 y3 y4
   unfold numnahlaw08_grow.j0
   repeat' first
   | (with_reducible exact ih0 _ _ _)
   | (with_reducible exact ih1 _ _ _ _ _)
   | (with_reducible exact ih2 _ _ _ _ _ _)
   | (with_reducible exact LeO.refl _)
   | (with_reducible exact LeO.none _)
   | (with_reducible refine LeO.ite ?_ ?_)
   | (with_reducible refine LeO.bind ?_ (fun _ => ?_))
   | exact ih0 _ _ _
   | exact ih1 _ _ _ _ _
   | exact ih2 _ _ _ _ _ _
   | exact LeO.none _
   | refine LeO.ite ?_ ?_
   | refine LeO.bind ?_ (fun _ => ?_)
  ·intro y0 y1 y2 y3 y4 y5
   unfold numnahlaw08_grow.j1
   repeat' first
   | (with_reducible exact ih0 _ _ _)
   | (with_reducible exact ih1 _ _ _ _ _)
   | (with_reducible exact ih2 _ _ _ _ _ _)
   | (with_reducible exact LeO.refl _)
   | (with_reducible exact LeO.none _)
   | (with_reducible refine LeO.ite ?_ ?_)
   | (with_reducible refine LeO.bind ?_ (fun _ => ?_))
   | exact ih0 _ _ _
   | exact ih1 _ _ _ _ _
   | exact ih2 _ _ _ _ _ _
   | exact LeO.none _
   | refine LeO.ite ?_ ?_
   | refine LeO.bind ?_ (fun _ => ?_)
theorem numnahlaw08_grow.mono : ∀ a0 a1 a2 k, LeO (numnahlaw08_grow.f k a0 a1 a2) (numnahlaw08_grow.f (k + 1) a0 a1 a2) := by
 intro a0 a1 a2 k
 obtain ⟨ih0, ih1, ih2⟩ := numnahlaw08_grow.mono_l k
 exact ih0 a0 a1 a2
/-! ### numnahlaw08_term: function 33 -/
def numnahlaw08_term.f (k : Nat) (a0 : ByteArray) (a1 : Int) : Option (ByteArray) := (numnahlaw08_grow.f k a0 0 a1).bind fun bt313 => (some bt313.1)
theorem numnahlaw08_term.mono : ∀ a0 a1 k, LeO (numnahlaw08_term.f k a0 a1) (numnahlaw08_term.f (k + 1) a0 a1) := by
 intro a0 a1 k
 unfold numnahlaw08_term.f
 repeat' first
   | (with_reducible exact numnahlaw08_grow.mono _ _ _ _)
   | (with_reducible exact LeO.refl _)
   | (with_reducible exact LeO.none _)
   | (with_reducible refine LeO.ite ?_ ?_)
   | (with_reducible refine LeO.bind ?_ (fun _ => ?_))
   | exact numnahlaw08_grow.mono _ _ _ _
   | exact LeO.none _
   | refine LeO.ite ?_ ?_
   | refine LeO.bind ?_ (fun _ => ?_)
end Go.Proofs.YtaafeallcaiooaaGreat.Pr
-- indented by one
/- grow: terms made from strings. -/
namespace Go.Proofs.YtaafeallcaiooaaGreat.Pr
open Go.RowKit Go.Proofs.YtaafeallcaiooaaGreatW.PrintWords Go.Proofs.YtaafeallcaiooaaGreatW.PrintLast Go.Proofs.YtaafeallcaiooaaGreatW.PrintMore
set_option linter.unusedVariables false
set_option linter.unusedSimpArgs false
theorem B8_app' (a b : List UInt8) : B8 a ++ B8 b = B8 (a ++ b) := by
 apply ByteArray.ext
 simp [B8]
theorem text_size (t : Tm) : t.text.size = t.tx.length := by
 show (B8 t.tx).size = _
 exact B8_size _
theorem text_le {t : Tm} (h : t.size ≤ 1000) : t.text.size ≤ 4000 := by
 have := tx_le t
 rw [text_size]
 omega
theorem B8_one (c : UInt8) : (⟨#[c]⟩ : ByteArray) = B8 [c] := rfl
theorem text1 (c : UInt8) (t : Tm) : (⟨#[c]⟩ : ByteArray) ++ ⟨#[40]⟩ ++ t.text ++ ⟨#[41]⟩ = (Tm.app (c.toNat : Int) [t]).text := by
 show (⟨#[c]⟩ : ByteArray) ++ ⟨#[40]⟩ ++ B8 t.tx ++ ⟨#[41]⟩ = B8 _
 rw [B8_one, B8_one, B8_one, B8_app', B8_app', B8_app', tx_app, ch_of]
 rfl
theorem text2 (c : UInt8) (t u : Tm) : (⟨#[c]⟩ : ByteArray) ++ ⟨#[40]⟩ ++ t.text ++ ⟨#[44]⟩ ++ u.text ++ ⟨#[41]⟩ = (Tm.app (c.toNat : Int) [t, u]).text := by
 show (⟨#[c]⟩ : ByteArray) ++ ⟨#[40]⟩ ++ B8 t.tx ++ ⟨#[44]⟩ ++ B8 u.tx ++ ⟨#[41]⟩ = B8 _
 rw [B8_one, B8_one, B8_one, B8_one, B8_app', B8_app', B8_app', B8_app', B8_app', tx_app, ch_of]
 rfl
theorem app1_good {c : Int} {t : Tm} (hc : c = 99 ∨ c = 100) (h : t.good) : (Tm.app c [t]).good := by
 rw [Tm.good, Tm.goods, Tm.goods]
 rcases hc with rfl | rfl <;> exact ⟨by omega, by simp [nParts], h, trivial⟩
theorem app2_good {c : Int} {t u : Tm} (hc : c = 101 ∨ c = 102) (h : t.good) (h2 : u.good) : (Tm.app c [t, u]).good := by
 rw [Tm.good, Tm.goods, Tm.goods, Tm.goods]
 rcases hc with rfl | rfl <;> exact ⟨by omega, by simp [nParts], h, h2, trivial⟩
theorem size1 (c : Int) (t : Tm) : (Tm.app c [t]).size = 1 + t.size := by rw [Tm.size, Tm.sizes, Tm.sizes]; omega
theorem size2 (c : Int) (t u : Tm) : (Tm.app c [t, u]).size = 1 + t.size + u.size := by rw [Tm.size, Tm.sizes, Tm.sizes, Tm.sizes]; omega
/-- the letter alone -/
def ltT (x : Int) : Tm := if x % 5 = 0 then .app 97 [] else if x % 5 = 1 then .app 98 [] else if x % 5 = 2 then .var 120 else if x % 5 = 3 then .var 121 else .var 122
theorem ltT_good (x : Int) : (ltT x).good ∧ (ltT x).size = 1 := by
 unfold ltT
 split
 ·exact ⟨by rw [Tm.good, Tm.goods]; exact ⟨by omega, by decide, trivial⟩, by rw [Tm.size, Tm.sizes]; rfl⟩
 ·split
  ·exact ⟨by rw [Tm.good, Tm.goods]; exact ⟨by omega, by decide, trivial⟩, by rw [Tm.size, Tm.sizes]; rfl⟩
  ·split
   ·exact ⟨by rw [Tm.good]; omega, by rw [Tm.size]⟩
   ·split
    ·exact ⟨by rw [Tm.good]; omega, by rw [Tm.size]⟩
    ·exact ⟨by rw [Tm.good]; omega, by rw [Tm.size]⟩
theorem j0_l0 (s : ByteArray) (a1 a2 : Int) (k : Nat) : numnahlaw08_grow.j0 (k + 1) s a1 a2 0 true = some ((ltT 0).text, wrap64 (a1 + 1)) := by kernel_rfl
theorem j0_l1 (s : ByteArray) (a1 a2 : Int) (k : Nat) : numnahlaw08_grow.j0 (k + 1) s a1 a2 1 true = some ((ltT 1).text, wrap64 (a1 + 1)) := by kernel_rfl
theorem j0_l2 (s : ByteArray) (a1 a2 : Int) (k : Nat) : numnahlaw08_grow.j0 (k + 1) s a1 a2 2 true = some ((ltT 2).text, wrap64 (a1 + 1)) := by kernel_rfl
theorem j0_l3 (s : ByteArray) (a1 a2 : Int) (k : Nat) : numnahlaw08_grow.j0 (k + 1) s a1 a2 3 true = some ((ltT 3).text, wrap64 (a1 + 1)) := by kernel_rfl
theorem j0_l4 (s : ByteArray) (a1 a2 : Int) (k : Nat) : numnahlaw08_grow.j0 (k + 1) s a1 a2 4 true = some ((ltT 4).text, wrap64 (a1 + 1)) := by kernel_rfl
theorem j0_l5 (s : ByteArray) (a1 a2 : Int) (k : Nat) : numnahlaw08_grow.j0 (k + 1) s a1 a2 5 true = some ((ltT 5).text, wrap64 (a1 + 1)) := by kernel_rfl
theorem j0_l6 (s : ByteArray) (a1 a2 : Int) (k : Nat) : numnahlaw08_grow.j0 (k + 1) s a1 a2 6 true = some ((ltT 6).text, wrap64 (a1 + 1)) := by kernel_rfl
theorem j0_l7 (s : ByteArray) (a1 a2 : Int) (k : Nat) : numnahlaw08_grow.j0 (k + 1) s a1 a2 7 true = some ((ltT 7).text, wrap64 (a1 + 1)) := by kernel_rfl
theorem j0_l8 (s : ByteArray) (a1 a2 : Int) (k : Nat) : numnahlaw08_grow.j0 (k + 1) s a1 a2 8 true = some ((ltT 8).text, wrap64 (a1 + 1)) := by kernel_rfl
theorem j0_l9 (s : ByteArray) (a1 a2 : Int) (k : Nat) : numnahlaw08_grow.j0 (k + 1) s a1 a2 9 true = some ((ltT 9).text, wrap64 (a1 + 1)) := by kernel_rfl
theorem j0_l10 (s : ByteArray) (a1 a2 : Int) (k : Nat) : numnahlaw08_grow.j0 (k + 1) s a1 a2 10 true = some ((ltT 10).text, wrap64 (a1 + 1)) := by kernel_rfl
theorem j0_letter (s : ByteArray) (a1 a2 x : Int) (hx : 0 ≤ x ∧ x ≤ 10) (k : Nat) : numnahlaw08_grow.j0 (k + 1) s a1 a2 x true = some ((ltT x).text, wrap64 (a1 + 1)) := by
 have : x = 0 ∨ x = 1 ∨ x = 2 ∨ x = 3 ∨ x = 4 ∨ x = 5 ∨ x = 6 ∨ x = 7 ∨ x = 8 ∨ x = 9 ∨ x = 10 := by omega
 rcases this with rfl | rfl | rfl | rfl | rfl | rfl | rfl | rfl | rfl | rfl | rfl
 ·exact j0_l0 s a1 a2 k
 ·exact j0_l1 s a1 a2 k
 ·exact j0_l2 s a1 a2 k
 ·exact j0_l3 s a1 a2 k
 ·exact j0_l4 s a1 a2 k
 ·exact j0_l5 s a1 a2 k
 ·exact j0_l6 s a1 a2 k
 ·exact j0_l7 s a1 a2 k
 ·exact j0_l8 s a1 a2 k
 ·exact j0_l9 s a1 a2 k
 ·exact j0_l10 s a1 a2 k
def headB (x : Int) : UInt8 := if x ≤ 6 then 99 else if x = 7 then 100 else if x ≤ 9 then 101 else 102
theorem j0_h5 (s : ByteArray) (a1 a2 : Int) (k : Nat) : numnahlaw08_grow.j0 (k + 1) s a1 a2 5 false = if (5 : Int) < 8 then numnahlaw08_grow.j1 k s a1 a2 5 ⟨#[headB 5]⟩ true else numnahlaw08_grow.j1 k s a1 a2 5 ⟨#[headB 5]⟩ (decide (a2 < 3)) := by kernel_rfl
theorem j0_h6 (s : ByteArray) (a1 a2 : Int) (k : Nat) : numnahlaw08_grow.j0 (k + 1) s a1 a2 6 false = if (6 : Int) < 8 then numnahlaw08_grow.j1 k s a1 a2 6 ⟨#[headB 6]⟩ true else numnahlaw08_grow.j1 k s a1 a2 6 ⟨#[headB 6]⟩ (decide (a2 < 3)) := by kernel_rfl
theorem j0_h7 (s : ByteArray) (a1 a2 : Int) (k : Nat) : numnahlaw08_grow.j0 (k + 1) s a1 a2 7 false = if (7 : Int) < 8 then numnahlaw08_grow.j1 k s a1 a2 7 ⟨#[headB 7]⟩ true else numnahlaw08_grow.j1 k s a1 a2 7 ⟨#[headB 7]⟩ (decide (a2 < 3)) := by kernel_rfl
theorem j0_h8 (s : ByteArray) (a1 a2 : Int) (k : Nat) : numnahlaw08_grow.j0 (k + 1) s a1 a2 8 false = if (8 : Int) < 8 then numnahlaw08_grow.j1 k s a1 a2 8 ⟨#[headB 8]⟩ true else numnahlaw08_grow.j1 k s a1 a2 8 ⟨#[headB 8]⟩ (decide (a2 < 3)) := by kernel_rfl
theorem j0_h9 (s : ByteArray) (a1 a2 : Int) (k : Nat) : numnahlaw08_grow.j0 (k + 1) s a1 a2 9 false = if (9 : Int) < 8 then numnahlaw08_grow.j1 k s a1 a2 9 ⟨#[headB 9]⟩ true else numnahlaw08_grow.j1 k s a1 a2 9 ⟨#[headB 9]⟩ (decide (a2 < 3)) := by kernel_rfl
theorem j0_h10 (s : ByteArray) (a1 a2 : Int) (k : Nat) : numnahlaw08_grow.j0 (k + 1) s a1 a2 10 false = if (10 : Int) < 8 then numnahlaw08_grow.j1 k s a1 a2 10 ⟨#[headB 10]⟩ true else numnahlaw08_grow.j1 k s a1 a2 10 ⟨#[headB 10]⟩ (decide (a2 < 3)) := by kernel_rfl
theorem j0_head (s : ByteArray) (a1 a2 x : Int) (hx : 5 ≤ x ∧ x ≤ 10) (k : Nat) : numnahlaw08_grow.j0 (k + 1) s a1 a2 x false = if x < 8 then numnahlaw08_grow.j1 k s a1 a2 x ⟨#[headB x]⟩ true else numnahlaw08_grow.j1 k s a1 a2 x ⟨#[headB x]⟩ (decide (a2 < 3)) := by
 have : x = 5 ∨ x = 6 ∨ x = 7 ∨ x = 8 ∨ x = 9 ∨ x = 10 := by omega
 rcases this with rfl | rfl | rfl | rfl | rfl | rfl
 ·exact j0_h5 s a1 a2 k
 ·exact j0_h6 s a1 a2 k
 ·exact j0_h7 s a1 a2 k
 ·exact j0_h8 s a1 a2 k
 ·exact j0_h9 s a1 a2 k
 ·exact j0_h10 s a1 a2 k
theorem j1_one {s : ByteArray} {a1 a2 x a' : Int} {h : UInt8} {t : Tm} (hE : Evt (fun k => numnahlaw08_grow.f k s (wrap64 (a1 + 1)) (wrap64 (a2 - 1))) (t.text, a')) (ht : t.size ≤ 1000) : Evt (fun k => numnahlaw08_grow.j1 k s a1 a2 x ⟨#[h]⟩ true) ((Tm.app (if x ≥ 8 then 100 else (h.toNat : Int)) [t]).text, a') := by
 have hsz := text_le ht
 have e1 : ∀ c : UInt8, (⟨#[c]⟩ : ByteArray).size = 1 := fun _ => rfl
 refine Evt.step (g' := fun k => (numnahlaw08_grow.f k s (wrap64 (a1 + 1)) (wrap64 (a2 - 1))).bind fun bt307 => _) (fun k => by rw [numnahlaw08_grow.j1, if_pos rfl]) (Evt.bind hE (Evt.all fun k => ?_))
 dsimp only
 by_cases hx : x ≥ 8
 ·rw [if_pos hx, if_pos hx, if_pos (by decide), if_pos (by omega), if_pos (by rw [ByteArray.size_append, ByteArray.size_append, e1, e1]; omega)]
  rw [text1]
  rfl
 ·rw [if_neg hx, if_neg hx, if_pos (by rw [e1]; decide), if_pos (by rw [ByteArray.size_append, e1, e1]; omega), if_pos (by rw [ByteArray.size_append, ByteArray.size_append, e1, e1]; omega)]
  rw [text1]
theorem j1_two {s : ByteArray} {a1 a2 x a' a'' : Int} {h : UInt8} {t u : Tm} (hE : Evt (fun k => numnahlaw08_grow.f k s (wrap64 (a1 + 1)) (wrap64 (Int.tdiv (wrap64 (a2 - 1)) 2))) (t.text, a')) (hE2 : Evt (fun k => numnahlaw08_grow.f k s a' (wrap64 ((wrap64 (a2 - 1)) - (wrap64 (Int.tdiv (wrap64 (a2 - 1)) 2))))) (u.text, a'')) (ht : t.size ≤ 1000) (hu : u.size ≤ 1000) : Evt (fun k => numnahlaw08_grow.j1 k s a1 a2 x ⟨#[h]⟩ false) ((Tm.app (h.toNat : Int) [t, u]).text, a'') := by
 have hsz := text_le ht
 have hsu := text_le hu
 have e1 : ∀ c : UInt8, (⟨#[c]⟩ : ByteArray).size = 1 := fun _ => rfl
 refine Evt.step (g' := fun k => (numnahlaw08_grow.f k s (wrap64 (a1 + 1)) (wrap64 (Int.tdiv (wrap64 (a2 - 1)) 2))).bind fun bt309 => ((numnahlaw08_grow.f k s bt309.2 (wrap64 ((wrap64 (a2 - 1)) - (wrap64 (Int.tdiv (wrap64 (a2 - 1)) 2))))).bind fun bt311 => _)) (fun k => by rw [numnahlaw08_grow.j1, if_neg (by simp)]) (Evt.bind hE (Evt.bind hE2 (Evt.all fun k => ?_)))
 dsimp only
 simp only [ByteArray.size_append, e1]
 rw [if_pos (by decide), if_pos (by omega), if_pos (by omega), if_pos (by omega), if_pos (by omega), text2]
theorem bt_range (s : ByteArray) (i : Int) : 0 ≤ bt s i ∧ bt s i ≤ 255 := by
 unfold bt
 split
 ·have := (s[i.toNat]'(by assumption)).toNat_lt
  omega
 ·omega
/-- grow makes a term of at most so many symbols -/
theorem growE (s : ByteArray) (hs : s.size ≤ 9223372036854775807) : ∀ (n : Nat) (a1 a2 : Int), 0 ≤ a1 → a1 ≤ 9223372036854775807 → 1 ≤ a2 → a2 ≤ n → n ≤ 1000 →
  ∃ (t : Tm) (a' : Int), Evt (fun k => numnahlaw08_grow.f k s a1 a2) (t.text, a') ∧ t.good ∧ t.size ≤ a2 ∧ 0 ≤ a' ∧ a' ≤ 9223372036854775807
 | 0, a1, a2, _, _, h3, h4, _ => by omega
 | n + 1, a1, a2, h1, h2, h3, h4, hn => by
  by_cases he : a1 ≥ (s.size : Int)
  ·exact ⟨.app 97 [], a1, Evt.now fun k => by rw [numnahlaw08_grow.f, if_pos he]; rfl, by rw [Tm.good, Tm.goods]; exact ⟨by omega, by decide, trivial⟩, by rw [Tm.size, Tm.sizes]; omega, h1, h2⟩
  ·obtain ⟨x, hx⟩ : ∃ x, x = Int.tmod (wrap64 (bt s a1)) 11 := ⟨_, rfl⟩
   have hb := bt_range s a1
   have hxr : 0 ≤ x ∧ x ≤ 10 := by
    rw [hx, wr (by omega) (by omega), Int.tmod_eq_emod_of_nonneg hb.1]
    omega
   have hw1 : wrap64 (a1 + 1) = a1 + 1 := wr (by omega) (by omega)
   have hw2 : wrap64 (a2 - 1) = a2 - 1 := wr (by omega) (by omega)
   have hf : ∀ k, numnahlaw08_grow.f (k + 1) s a1 a2 = if a2 < 2 then numnahlaw08_grow.j0 k s a1 a2 x true else numnahlaw08_grow.j0 k s a1 a2 x (decide (x < 5)) := fun k => by
    rw [numnahlaw08_grow.f, if_neg he, if_pos h1, if_pos (by omega), ← hx]
   have hlet : (a2 < 2 ∨ x < 5) → Evt (fun k => numnahlaw08_grow.f k s a1 a2) ((ltT x).text, a1 + 1) := fun hc => by
    refine Evt.step (g' := fun k => numnahlaw08_grow.j0 k s a1 a2 x true) (fun k => ?_) (Evt.now fun k => ?_)
    ·rw [hf]
     by_cases h : a2 < 2
     ·rw [if_pos h]
     ·rw [if_neg h, decide_eq_true (hc.resolve_left h)]
    ·rw [j0_letter s a1 a2 x hxr, hw1]
   by_cases hc : a2 < 2 ∨ x < 5
   ·exact ⟨ltT x, a1 + 1, hlet hc, (ltT_good x).1, by rw [(ltT_good x).2]; omega, by omega, by omega⟩
   ·have hc2 : ¬ a2 < 2 ∧ ¬ x < 5 := ⟨fun h => hc (.inl h), fun h => hc (.inr h)⟩
    have hstep : ∀ {b : Bool} {r : ByteArray × Int}, (x < 8 → b = true) → (¬ x < 8 → b = decide (a2 < 3)) → Evt (fun k => numnahlaw08_grow.j1 k s a1 a2 x ⟨#[headB x]⟩ b) r → Evt (fun k => numnahlaw08_grow.f k s a1 a2) r := fun {b r} hb1 hb2 hE => by
     refine Evt.step (g' := fun k => numnahlaw08_grow.j0 k s a1 a2 x false) (fun k => ?_) (Evt.step (g' := fun k => numnahlaw08_grow.j1 k s a1 a2 x ⟨#[headB x]⟩ b) (fun k => ?_) hE)
     ·rw [hf, if_neg hc2.1, decide_eq_false hc2.2]
     ·rw [j0_head s a1 a2 x (by omega)]
      by_cases h8 : x < 8
      ·rw [if_pos h8, hb1 h8]
      ·rw [if_neg h8, hb2 h8]
    by_cases ho : x < 8 ∨ a2 < 3
    ·obtain ⟨t, a', hE, hg, hsz, h5, h6⟩ := growE s hs n (a1 + 1) (a2 - 1) (by omega) (by omega) (by omega) (by omega) (by omega)
     have hE' : Evt (fun k => numnahlaw08_grow.f k s (wrap64 (a1 + 1)) (wrap64 (a2 - 1))) (t.text, a') := by rw [hw1, hw2]; exact hE
     refine ⟨_, a', hstep (b := true) (fun _ => rfl) (fun h => (decide_eq_true (ho.resolve_left h)).symm) (j1_one (x := x) (h := headB x) hE' (by omega)), app1_good ?_ hg, by rw [size1]; omega, h5, h6⟩
     have : x = 5 ∨ x = 6 ∨ x = 7 ∨ x = 8 ∨ x = 9 ∨ x = 10 := by omega
     clear hx hf hlet hstep
     rcases this with rfl | rfl | rfl | rfl | rfl | rfl <;> decide
    ·have ho2 : ¬ x < 8 ∧ ¬ a2 < 3 := ⟨fun h => ho (.inl h), fun h => ho (.inr h)⟩
     have hdv : Int.tdiv (a2 - 1) 2 = (a2 - 1) / 2 := Int.tdiv_eq_ediv_of_nonneg (by omega)
     obtain ⟨t, a', hE, hg, hsz, h5, h6⟩ := growE s hs n (a1 + 1) ((a2 - 1) / 2) (by omega) (by omega) (by omega) (by omega) (by omega)
     obtain ⟨u, a'', hE2, hg2, hsz2, h7, h8⟩ := growE s hs n a' (a2 - 1 - (a2 - 1) / 2) h5 h6 (by omega) (by omega) (by omega)
     have hw3 : wrap64 (Int.tdiv (wrap64 (a2 - 1)) 2) = (a2 - 1) / 2 := by rw [hw2, hdv]; exact wr (by omega) (by omega)
     have hw4 : wrap64 ((wrap64 (a2 - 1)) - (wrap64 (Int.tdiv (wrap64 (a2 - 1)) 2))) = a2 - 1 - (a2 - 1) / 2 := by rw [hw3, hw2]; exact wr (by omega) (by omega)
     have hE' : Evt (fun k => numnahlaw08_grow.f k s (wrap64 (a1 + 1)) (wrap64 (Int.tdiv (wrap64 (a2 - 1)) 2))) (t.text, a') := by rw [hw1, hw3]; exact hE
     have hE2' : Evt (fun k => numnahlaw08_grow.f k s a' (wrap64 ((wrap64 (a2 - 1)) - (wrap64 (Int.tdiv (wrap64 (a2 - 1)) 2))))) (u.text, a'') := by rw [hw4]; exact hE2
     refine ⟨_, a'', hstep (b := false) (fun h => absurd h ho2.1) (fun _ => (decide_eq_false ho2.2).symm) (j1_two (x := x) (h := headB x) hE' hE2' (by omega) (by omega)), app2_good ?_ hg hg2, by rw [size2]; omega, h7, h8⟩
     have : x = 8 ∨ x = 9 ∨ x = 10 := by omega
     clear hx hf hlet hstep
     rcases this with rfl | rfl | rfl <;> decide
end Go.Proofs.YtaafeallcaiooaaGreat.Pr
-- indented by one
/- Apply on texts of terms; terms without variables; Greater on texts. -/
/- awake holds. -/
namespace Go.Proofs.YtaafeallcaiooaaGreat.Pr
open Go.RowKit Go.Proofs.YtaafeallcaiooaaGreatW.PrintWords Go.Proofs.YtaafeallcaiooaaGreatW.PrintLast Go.Proofs.YtaafeallcaiooaaGreatW.PrintMore
theorem t1 : nextsT [⟨⟨#[101, 40, 120, 44, 121, 41]⟩, ⟨#[101, 40, 121, 44, 120, 41]⟩⟩] ⟨#[101, 40, 97, 44, 98, 41]⟩ = (0, [⟨#[101, 40, 98, 44, 97, 41]⟩]) := by kernel_rfl
theorem t2 : (valT [[0], [1], [1, 1], [0, 1], [0, 1, 1], [0, 1, 2]] ⟨#[102, 40, 99, 40, 98, 41, 44, 120, 41]⟩).1 = 0 := by kernel_rfl
theorem t3 : orientT [⟨⟨#[99, 40, 100, 40, 120, 41, 41]⟩, ⟨#[100, 40, 99, 40, 120, 41, 41]⟩⟩] = (0, ⟨#[97, 98, 99, 100, 101, 102]⟩) := by kernel_rfl
theorem awake_true : numnahlaw08_awake.f 20 = some true := by kernel_rfl
end Go.Proofs.YtaafeallcaiooaaGreat.Pr
namespace Go.Proofs.YtaafeallcaiooaaGreat.Pr
open Go.RowKit Go.Proofs.YtaafeallcaiooaaGreatW.PrintWords Go.Proofs.YtaafeallcaiooaaGreatW.PrintLast Go.Proofs.YtaafeallcaiooaaGreatW.PrintMore
set_option linter.unusedVariables false
set_option linter.unusedSimpArgs false
/-- three terms in place of the variables -/
def sub3 (x y z : Tm) : Sub := fun v => if v = 120 then some x else if v = 121 then some y else if v = 122 then some z else none
theorem applyL_app (s0 s1 s2 a b : List UInt8) : applyL s0 s1 s2 (a ++ b) = applyL s0 s1 s2 a ++ applyL s0 s1 s2 b := by unfold applyL; rw [List.flatMap_append]
theorem applyL_cons (s0 s1 s2 : List UInt8) (c : UInt8) (b : List UInt8) : applyL s0 s1 s2 (c :: b) = applyC s0 s1 s2 c ++ applyL s0 s1 s2 b := by unfold applyL; rw [List.flatMap_cons]
theorem applyC_no (s0 s1 s2 : List UInt8) {c : UInt8} (h : c.toNat < 120 ∨ 122 < c.toNat) : applyC s0 s1 s2 c = [c] := by
  unfold applyC
  rw [if_neg (fun e => by subst e; revert h; decide), if_neg (fun e => by subst e; revert h; decide), if_neg (fun e => by subst e; revert h; decide)]
theorem applyM (s0 s1 s2 : List UInt8) (f : Tm → Tm) : ∀ (l : List Tm) (i : Nat), (∀ t, t ∈ l → applyL s0 s1 s2 t.tx = (f t).tx) → applyL s0 s1 s2 (txM i l) = txM i (l.map f)
  | [], i, _ => rfl
  | t :: l, i, h => by
    rw [txM, List.map_cons, txM, applyL_cons, applyL_app, h t (by simp), applyM s0 s1 s2 f l (i + 1) (fun u hu => h u (by simp [hu])), applyC_no s0 s1 s2 (by
      have := mark_nat i
      unfold mark at this ⊢
      split
      · left; decide
      · left; decide)]
    rfl
/-! ### terms without variables -/
def aT : Tm := .app 97 []
/-- a in place of all variables -/
def Tm.gr (t : Tm) : Tm := t.sub (sub3 aT aT aT)
/-! ### Greater on texts -/
theorem awake_mono : ∀ n, numnahlaw08_awake.f (20 + n) = some true
  | 0 => awake_true
  | n + 1 => numnahlaw08_awake.mono (20 + n) true (awake_mono n)
theorem awakeE : Evt (fun k => numnahlaw08_awake.f k) true := ⟨20, fun k hk => by
  have := awake_mono (k - 20)
  rwa [show 20 + (k - 20) = k by omega] at this⟩
end Go.Proofs.YtaafeallcaiooaaGreat.Pr
namespace Go.Proofs.YtaafeallcaiooaaGreat.Pr
open Go.RowKit Go.Proofs.YtaafeallcaiooaaGreatW.PrintWords Go.Proofs.YtaafeallcaiooaaGreatW.PrintLast Go.Proofs.YtaafeallcaiooaaGreatW.PrintMore
set_option linter.unusedVariables false
set_option linter.unusedSimpArgs false
theorem short_ev (s : ByteArray) : ∃ t : ByteArray, numnahlaw08_short.f s = some t ∧ t.size ≤ 400 := by
  unfold numnahlaw08_short.f
  have h : 0 ≤ mn (s.size : Int) 400 ∧ mn (s.size : Int) 400 ≤ (s.size : Int) ∧ mn (s.size : Int) 400 ≤ 400 := by unfold mn; split <;> omega
  rw [if_pos h.1, if_pos h.2.1]
  refine ⟨_, rfl, ?_⟩
  rw [ByteArray.size_extract]
  omega
theorem awakeF : Evt (fun k => (numnahlaw08_awake.f k).bind fun t => some t) true := Evt.bind awakeE (Evt.all fun _ => rfl)
end Go.Proofs.YtaafeallcaiooaaGreat.Pr
