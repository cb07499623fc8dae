/- Match. -/
import Derived.Test.YtaafeallcaiooaaGreatHOt
namespace Go.Proofs.YtaafeallcaiooaaGreat.Pr
open Go.RowKit Go.Maps Go.Proofs.YtaafeallcaiooaaGreatW.PrintWords Go.Proofs.YtaafeallcaiooaaGreatW.PrintLast Go.Proofs.YtaafeallcaiooaaGreatW.PrintMore
set_option linter.unusedVariables false
set_option linter.unusedSimpArgs false
def sx (σ : Sub) (c : Int) : ByteArray := match σ c with
  | none => ⟨#[]⟩
  | some u => u.text
/-- Match: the error, and the three texts -/
def matchE (a b : ByteArray) : Int × ByteArray × ByteArray × ByteArray := match readT a with
  | none => (4, ⟨#[]⟩, ⟨#[]⟩, ⟨#[]⟩)
  | some P => match readT b with
    | none => (4, ⟨#[]⟩, ⟨#[]⟩, ⟨#[]⟩)
    | some T => match matchT P T noSub with
      | none => (6, ⟨#[]⟩, ⟨#[]⟩, ⟨#[]⟩)
      | some σ => (0, sx σ 120, sx σ 121, sx σ 122)
def cells61 (x y z : ByteArray) : Obj := .cells #[.string x, .string y, .string z] 61 (0, 0)
theorem set61_0 {w : World} {g : Nat} {x y z : ByteArray} (h : w.heap[g]? = some (cells61 x y z)) (v : ByteArray) : (w.setCell ⟨g, 0, none⟩ (.string v)).heap[g]? = some (cells61 v y z) := by
  unfold cells61 at *
  simp [World.setCell, Array.getElem?_modify, h]
theorem set61_1 {w : World} {g : Nat} {x y z : ByteArray} (h : w.heap[g]? = some (cells61 x y z)) (v : ByteArray) : (w.setCell ⟨g, 1, none⟩ (.string v)).heap[g]? = some (cells61 x v z) := by
  unfold cells61 at *
  simp [World.setCell, Array.getElem?_modify, h]
theorem set61_2 {w : World} {g : Nat} {x y z : ByteArray} (h : w.heap[g]? = some (cells61 x y z)) (v : ByteArray) : (w.setCell ⟨g, 2, none⟩ (.string v)).heap[g]? = some (cells61 x y v) := by
  unfold cells61 at *
  simp [World.setCell, Array.getElem?_modify, h]
theorem set61 {w : World} {g : Nat} {x y z : ByteArray} (h : w.heap[g]? = some (cells61 x y z)) (a b c : ByteArray) : (((w.setCell ⟨g, 0, none⟩ (.string a)).setCell ⟨g, 1, none⟩ (.string b)).setCell ⟨g, 2, none⟩ (.string c)).heap[g]? = some (cells61 a b c) := set61_2 (set61_1 (set61_0 h a) b) c
theorem SubOk.butOut {w w' : World} {ok : Nat → Prop} {b n bo : Nat} {σ : Int → Option Tm} (h : SubOk w ok b n σ) (hb : But bo w w') (hne : b ≠ bo) (hok : ∀ k, ok k → k ≠ bo) : SubOk w' ok b n σ :=
  h.step (fun D hD => hD.kept (row := some bo) ⟨hb.os, hb.tape, hb.output, hb.size, fun k hk hne2 => hb.block k hk (fun e => hne2 (by rw [e]))⟩ (fun e => hne (by injection e))) (fun k hk hl => ⟨hk, hb.block k hl (hok k hk)⟩)
theorem enters95 : ∀ args w, (callFunc 95 args).run Tryz.prog w = .ok (.enter 95 args) w := fun args w => enters_ Tryz.func95 (by kernel_rfl) rfl args w
section
set_option maxRecDepth 100000 in
set_option maxHeartbeats 2000000 in
theorem match1_calls (a b : ByteArray) (b0 b1 bo : Nat) (w : World) (hb0 : w.heap[b0]? = some (.cells #[.string a] 9 (0, 0))) (hb1 : w.heap[b1]? = some (.cells #[.string b] 9 (0, 0))) (hbo : w.heap[bo]? = some (cells61 ⟨#[]⟩ ⟨#[]⟩ ⟨#[]⟩)) :
    Calls Tryz.prog 95 #[.pointer (some ⟨b0, 0, none⟩), .pointer (some ⟨b1, 0, none⟩), .pointer (some ⟨bo, 0, none⟩)] w fun e w' => e = endE (matchE a b).1 ∧ But bo w w' ∧ ∃ x y z, w'.heap[bo]? = some (cells61 x y z) ∧ ((matchE a b).1 = 0 → (matchE a b).2 = (x, y, z)) := by
  have hlt := (Array.getElem?_eq_some_iff.1 hbo).1
  have HK := Aside0.mk (And.intro hb0 (And.intro hb1 hbo))
  have hr1 := fun (w' : World) (h : ∀ k, w'.heap.size ≤ k → k ≠ bo) => read_calls (fun k => k ≠ bo) a w' h
  have hr2 := fun (w' : World) (h : ∀ k, w'.heap.size ≤ k → k ≠ bo) => read_calls (fun k => k ≠ bo) b w' h
  cases hR1 : readT a with
  | none =>
    have e : matchE a b = (4, ⟨#[]⟩, ⟨#[]⟩, ⟨#[]⟩) := by unfold matchE; rw [hR1]
    rw [e]
    have HFN : Aside0 (∀ w', Below w.heap.size w w' → troubled 4 = endE 4 ∧ But bo w w' ∧ ∃ x y z, w'.heap[bo]? = some (cells61 x y z) ∧ ((4 : Int) = 0 → ((⟨#[]⟩, ⟨#[]⟩, ⟨#[]⟩) : ByteArray × ByteArray × ByteArray) = (x, y, z))) := ⟨fun w' h => ⟨rfl, But.of_below h, _, _, _, blk_below HK.out.2.2 h, fun h => by cases h⟩⟩
    rw [hR1] at hr1
    have HR1 := Aside0.mk hr1
    have HR2 := Aside0.mk hr2
    clear hb0 hb1 hbo e hR1 hr1 hr2
    go_enter Tryz.func95, Tryz.ntmps95
    go_wp2
    refine start_ (n := 6) (S := fun w' => w'.cell? ⟨b0, 0, none⟩ = some (.string a) ∧ w'.cell? ⟨b1, 0, none⟩ = some (.string b)) (ds := [3]) #[false, false, false, false, false, false] (by kernel_rfl) rfl rfl ⟨(blk_cell (blk_drew HK.out.1) 0), (blk_cell (blk_drew HK.out.2.1) 0)⟩ (fun hHeld => ?_)
    refine take_ (i := 0) (N := some 9) (v := ?_) (a' := ?_) #[true, false, false, false, false, false] rfl rfl (by kernel_rfl) (fun _ _ _ h => h) (Or.inl ⟨by rfl, ?_⟩) hHeld ?_ ?_
    rotate_left
    · rintro w' ⟨s0, s1⟩
      go_simp
      with_reducible rfl
    rotate_left
    · simp only [Act.put, List.setIfInBounds_toArray, List.set_cons_zero, List.set_cons_succ, i64_w, i32_w]
      rfl
    refine take_ (i := 2) (N := some 11) (v := ?_) (a' := ?_) #[true, false, true, false, false, false] rfl rfl (by kernel_rfl) (fun _ _ _ h => h) (Or.inl ⟨by rfl, ?_⟩) hHeld ?_ ?_
    rotate_left
    · rintro w' ⟨s0, s1⟩
      go_simp
      with_reducible rfl
    rotate_left
    · simp only [Act.put, List.setIfInBounds_toArray, List.set_cons_zero, List.set_cons_succ, i64_w, i32_w]
      rfl
    refine one_ (i := 1) (N := some 10) #[true, true, true, false, false, false] rfl rfl (by kernel_rfl) (by decide) (fun K hK => ?_)
    refine goesD_ Tryz.func69 (by kernel_rfl) rfl #[.string a] (by rfl) rfl rfl (by simp only [List.map_toArray, List.map_cons, List.map_nil]; rfl) ?_
    refine (HR1.out _ (by intro k hk; have h_ := hlt; simp only [World.drew] at hk; omega)).mono ?_
    rintro e w5 ⟨hb5, rfl⟩
    refine .inr ⟨_, rfl, ?_⟩
    have hW5 : Below w.heap.size w w5 := ⟨hb5.os, hb5.tape, hb5.output, hb5.size, hb5.block⟩
    exact ⟨rfl, HFN.out _ hW5⟩
  | some P =>
    rw [hR1] at hr1
    have hg1 := readT_good hR1
    cases hR2 : readT b with
    | none =>
      have e : matchE a b = (4, ⟨#[]⟩, ⟨#[]⟩, ⟨#[]⟩) := by unfold matchE; rw [hR1]; dsimp only; rw [hR2]
      rw [e]
      have HFN : Aside0 (∀ w', Below w.heap.size w w' → troubled 4 = endE 4 ∧ But bo w w' ∧ ∃ x y z, w'.heap[bo]? = some (cells61 x y z) ∧ ((4 : Int) = 0 → ((⟨#[]⟩, ⟨#[]⟩, ⟨#[]⟩) : ByteArray × ByteArray × ByteArray) = (x, y, z))) := ⟨fun w' h => ⟨rfl, But.of_below h, _, _, _, blk_below HK.out.2.2 h, fun h => by cases h⟩⟩
      rw [hR2] at hr2
      have HR1 := Aside0.mk hr1
      have HR2 := Aside0.mk hr2
      clear hb0 hb1 hbo e hR1 hr1 hr2 hR2 hg1
      go_enter Tryz.func95, Tryz.ntmps95
      go_wp2
      refine start_ (n := 6) (S := fun w' => w'.cell? ⟨b0, 0, none⟩ = some (.string a) ∧ w'.cell? ⟨b1, 0, none⟩ = some (.string b)) (ds := [3]) #[false, false, false, false, false, false] (by kernel_rfl) rfl rfl ⟨(blk_cell (blk_drew HK.out.1) 0), (blk_cell (blk_drew HK.out.2.1) 0)⟩ (fun hHeld => ?_)
      refine take_ (i := 0) (N := some 9) (v := ?_) (a' := ?_) #[true, false, false, false, false, false] rfl rfl (by kernel_rfl) (fun _ _ _ h => h) (Or.inl ⟨by rfl, ?_⟩) hHeld ?_ ?_
      rotate_left
      · rintro w' ⟨s0, s1⟩
        go_simp
        with_reducible rfl
      rotate_left
      · simp only [Act.put, List.setIfInBounds_toArray, List.set_cons_zero, List.set_cons_succ, i64_w, i32_w]
        rfl
      refine take_ (i := 2) (N := some 11) (v := ?_) (a' := ?_) #[true, false, true, false, false, false] rfl rfl (by kernel_rfl) (fun _ _ _ h => h) (Or.inl ⟨by rfl, ?_⟩) hHeld ?_ ?_
      rotate_left
      · rintro w' ⟨s0, s1⟩
        go_simp
        with_reducible rfl
      rotate_left
      · simp only [Act.put, List.setIfInBounds_toArray, List.set_cons_zero, List.set_cons_succ, i64_w, i32_w]
        rfl
      refine one_ (i := 1) (N := some 10) #[true, true, true, false, false, false] rfl rfl (by kernel_rfl) (by decide) (fun K hK => ?_)
      refine goesD_ Tryz.func69 (by kernel_rfl) rfl #[.string a] (by rfl) rfl rfl (by simp only [List.map_toArray, List.map_cons, List.map_nil]; rfl) ?_
      refine (HR1.out _ (by intro k hk; have h_ := hlt; simp only [World.drew] at hk; omega)).mono ?_
      rintro e w5 ⟨hb5, ⟨t1, p1⟩, he1, hp1⟩
      obtain rfl : e = .returned (.iface t1 p1) := he1
      refine .inl ⟨_, rfl, ?_⟩
      have hW5 : Below w.heap.size w w5 := ⟨hb5.os, hb5.tape, hb5.output, hb5.size, hb5.block⟩
      have hc50 : w5.cell? ⟨b0, 0, none⟩ = some (.string a) := blk_cell (blk_below HK.out.1 hW5) 0
      have hc51 : w5.cell? ⟨b1, 0, none⟩ = some (.string b) := blk_cell (blk_below HK.out.2.1 hW5) 0
      refine hK.out _ _ ⟨hc50, hc51⟩ (fun hHeld => ?_)
      clear hK K
      refine norm_ (a' := ?_) ?_ ?_
      rotate_left
      · show Act.put _ (some 10) _ = _
        simp only [Act.put, List.setIfInBounds_toArray, List.set_cons_zero, List.set_cons_succ, i64_w, i32_w]
        rfl
      refine last_ (i := 3) (N := some 12) #[true, true, true, true, false, false] rfl rfl (by kernel_rfl) (by decide) (fun K hK => ?_)
      refine goesD_ Tryz.func69 (by kernel_rfl) rfl #[.string b] (by rfl) rfl rfl (by simp only [List.map_toArray, List.map_cons, List.map_nil]; rfl) ?_
      refine (HR2.out _ (by intro k hk; have h_ := hlt; have h2_ := hb5.size; simp only [World.drew] at h2_; omega)).mono ?_
      rintro e w6 ⟨hb6, rfl⟩
      refine .inr ⟨_, rfl, ?_⟩
      have hW6 := below_on hW5 hb6
      exact ⟨rfl, HFN.out _ hW6⟩
    | some T =>
      rw [hR2] at hr2
      have hg2 := readT_good hR2
      have HR1 := Aside0.mk hr1
      have HR2 := Aside0.mk hr2
      have hmc := fun (q1 q2 : Nat × Value) (w6 : World) (h1 : Has w6 (fun k => k ≠ bo) P q1) (h2 : Has w6 (fun k => k ≠ bo) T q2) =>
        match_calls P T q1 q2 (w6.alloc (.map #[] 0)) (fun k => k ≠ bo ∧ k < w6.heap.size) (fun k => k ≠ bo ∧ k < w6.heap.size) w6.heap.size 0 noSub (h1.bound.below (below_alloc (Below.refl _ _) _)) (h2.bound.below (below_alloc (Below.refl _ _) _)) hg1.1 hg2.1 (by omega) (subOk_new w6 _) noSub_good (fun k hk => Nat.ne_of_lt hk.2) (fun k hk => Nat.ne_of_lt hk.2) (by omega)
      cases hM : matchT P T noSub with
      | none =>
        have e : matchE a b = (6, ⟨#[]⟩, ⟨#[]⟩, ⟨#[]⟩) := by unfold matchE; rw [hR1]; dsimp only; rw [hR2]; dsimp only; rw [hM]
        rw [e]
        rw [hM] at hmc
        have HMC := Aside0.mk hmc
        clear hb0 hb1 hbo e hR1 hr1 hr2 hR2 hg1 hg2 hmc hM
        have hmm := @run_makeMap Tryz.prog
        go_enter Tryz.func95, Tryz.ntmps95
        go_wp2
        refine start_ (n := 6) (S := fun w' => w'.cell? ⟨b0, 0, none⟩ = some (.string a) ∧ w'.cell? ⟨b1, 0, none⟩ = some (.string b)) (ds := [3]) #[false, false, false, false, false, false] (by kernel_rfl) rfl rfl ⟨(blk_cell (blk_drew HK.out.1) 0), (blk_cell (blk_drew HK.out.2.1) 0)⟩ (fun hHeld => ?_)
        refine take_ (i := 0) (N := some 9) (v := ?_) (a' := ?_) #[true, false, false, false, false, false] rfl rfl (by kernel_rfl) (fun _ _ _ h => h) (Or.inl ⟨by rfl, ?_⟩) hHeld ?_ ?_
        rotate_left
        · rintro w' ⟨s0, s1⟩
          go_simp
          with_reducible rfl
        rotate_left
        · simp only [Act.put, List.setIfInBounds_toArray, List.set_cons_zero, List.set_cons_succ, i64_w, i32_w]
          rfl
        refine take_ (i := 2) (N := some 11) (v := ?_) (a' := ?_) #[true, false, true, false, false, false] rfl rfl (by kernel_rfl) (fun _ _ _ h => h) (Or.inl ⟨by rfl, ?_⟩) hHeld ?_ ?_
        rotate_left
        · rintro w' ⟨s0, s1⟩
          go_simp
          with_reducible rfl
        rotate_left
        · simp only [Act.put, List.setIfInBounds_toArray, List.set_cons_zero, List.set_cons_succ, i64_w, i32_w]
          rfl
        refine one_ (i := 1) (N := some 10) #[true, true, true, false, false, false] rfl rfl (by kernel_rfl) (by decide) (fun K hK => ?_)
        refine goesD_ Tryz.func69 (by kernel_rfl) rfl #[.string a] (by rfl) rfl rfl (by simp only [List.map_toArray, List.map_cons, List.map_nil]; rfl) ?_
        refine (HR1.out _ (by intro k hk; have h_ := hlt; simp only [World.drew] at hk; omega)).mono ?_
        rintro e w5 ⟨hb5, ⟨t1, p1⟩, he1, hp1⟩
        obtain rfl : e = .returned (.iface t1 p1) := he1
        refine .inl ⟨_, rfl, ?_⟩
        have hW5 : Below w.heap.size w w5 := ⟨hb5.os, hb5.tape, hb5.output, hb5.size, hb5.block⟩
        have hc50 : w5.cell? ⟨b0, 0, none⟩ = some (.string a) := blk_cell (blk_below HK.out.1 hW5) 0
        have hc51 : w5.cell? ⟨b1, 0, none⟩ = some (.string b) := blk_cell (blk_below HK.out.2.1 hW5) 0
        refine hK.out _ _ ⟨hc50, hc51⟩ (fun hHeld => ?_)
        clear hK K
        refine norm_ (a' := ?_) ?_ ?_
        rotate_left
        · show Act.put _ (some 10) _ = _
          simp only [Act.put, List.setIfInBounds_toArray, List.set_cons_zero, List.set_cons_succ, i64_w, i32_w]
          rfl
        refine last_ (i := 3) (N := some 12) #[true, true, true, true, false, false] rfl rfl (by kernel_rfl) (by decide) (fun K hK => ?_)
        refine goesD_ Tryz.func69 (by kernel_rfl) rfl #[.string b] (by rfl) rfl rfl (by simp only [List.map_toArray, List.map_cons, List.map_nil]; rfl) ?_
        refine (HR2.out _ (by intro k hk; have h_ := hlt; have h2_ := hb5.size; simp only [World.drew] at h2_; omega)).mono ?_
        rintro e w6 ⟨hb6, ⟨t2, p2⟩, he2, hp2⟩
        obtain rfl : e = .returned (.iface t2 p2) := he2
        refine .inl ⟨_, rfl, ?_⟩
        have hW6 := below_on hW5 hb6
        refine hK.out _ _ ?_
        clear hK K
        refine norm_ (a' := ?_) ?_ ?_
        rotate_left
        · show Act.put _ (some 12) _ = _
          simp only [Act.put, List.setIfInBounds_toArray, List.set_cons_zero, List.set_cons_succ, i64_w, i32_w]
          rfl
        refine pure_ (i := 4) (N := some 3) (v := ?_) (a' := ?_) #[true, true, true, true, true, false] rfl rfl (by kernel_rfl) (fun _ _ _ h => h) (Or.inl ⟨by rfl, ?_⟩) ?_ ?_
        rotate_left
        · intro w'
          go_simp
          with_reducible rfl
        rotate_left
        · simp only [Act.put, List.setIfInBounds_toArray, List.set_cons_zero, List.set_cons_succ, i64_w, i32_w]
          rfl
        refine pure_ (i := 5) (N := some 4) (v := ?_) (a' := ?_) #[true, true, true, true, true, true] rfl rfl (by kernel_rfl) (fun _ _ _ h => h) (Or.inl ⟨by rfl, ?_⟩) ?_ ?_
        rotate_left
        · intro w'
          go_simp
          with_reducible rfl
        rotate_left
        · simp only [Act.put, List.setIfInBounds_toArray, List.set_cons_zero, List.set_cons_succ, i64_w, i32_w]
          rfl
        refine done_ (by kernel_rfl) ?_
        have HX := Aside0.mk (HMC.out (t1, p1) (t2, p2) w6 (hp1.below hb6) hp2)
        have HW := Aside0.mk hW6
        unfold encI at HX
        clear hp1 hp2 hb5 hb6 hW5 hW6 hc50 hc51
        go_wp2_with (first
          | (go_at_call 96; refine HX.out.mono ?_; rintro e w7 ⟨hb7, rfl⟩; have H7 := Aside0.mk (HW.out.trans ((below_alloc (Below.refl w6.heap.size w6) _).mono HW.out.size |>.trans (hb7.below HW.out.size (by rw [World.size_alloc]; have := HW.out.size; omega)))); clear hb7)
          | (go_at_call 67; refine (demand_no 6 _).mono ?_; rintro e w8 ⟨rfl, h8⟩; subst w8))
        exact ⟨rfl, rfl, But.of_below H7.out, _, _, _, blk_below HK.out.2.2 H7.out, fun h => by cases h⟩
      | some σ =>
        have e : matchE a b = (0, sx σ 120, sx σ 121, sx σ 122) := by unfold matchE; rw [hR1]; dsimp only; rw [hR2]; dsimp only; rw [hM]
        rw [e]
        have e0 : endE (0, sx σ 120, sx σ 121, sx σ 122).1 = .returned (.tuple #[]) := rfl
        rw [e0]
        have HG := Aside0.mk (matchT_good P T noSub σ noSub_good hg2.1 (by omega) hM)
        rw [hM] at hmc
        have HMC := Aside0.mk hmc
        have HLT := Aside0.mk hlt
        obtain ⟨nn, hnn⟩ : ∃ nn, nn = 0 + P.size.toNat := ⟨_, rfl⟩
        rw [← hnn] at HMC
        clear hb0 hb1 hbo e e0 hR1 hr1 hr2 hR2 hg1 hg2 hmc hM hnn
        have hmm := @run_makeMap Tryz.prog
        go_enter Tryz.func95, Tryz.ntmps95
        go_wp2
        refine start_ (n := 6) (S := fun w' => w'.cell? ⟨b0, 0, none⟩ = some (.string a) ∧ w'.cell? ⟨b1, 0, none⟩ = some (.string b)) (ds := [3]) #[false, false, false, false, false, false] (by kernel_rfl) rfl rfl ⟨(blk_cell (blk_drew HK.out.1) 0), (blk_cell (blk_drew HK.out.2.1) 0)⟩ (fun hHeld => ?_)
        refine take_ (i := 0) (N := some 9) (v := ?_) (a' := ?_) #[true, false, false, false, false, false] rfl rfl (by kernel_rfl) (fun _ _ _ h => h) (Or.inl ⟨by rfl, ?_⟩) hHeld ?_ ?_
        rotate_left
        · rintro w' ⟨s0, s1⟩
          go_simp
          with_reducible rfl
        rotate_left
        · simp only [Act.put, List.setIfInBounds_toArray, List.set_cons_zero, List.set_cons_succ, i64_w, i32_w]
          rfl
        refine take_ (i := 2) (N := some 11) (v := ?_) (a' := ?_) #[true, false, true, false, false, false] rfl rfl (by kernel_rfl) (fun _ _ _ h => h) (Or.inl ⟨by rfl, ?_⟩) hHeld ?_ ?_
        rotate_left
        · rintro w' ⟨s0, s1⟩
          go_simp
          with_reducible rfl
        rotate_left
        · simp only [Act.put, List.setIfInBounds_toArray, List.set_cons_zero, List.set_cons_succ, i64_w, i32_w]
          rfl
        refine one_ (i := 1) (N := some 10) #[true, true, true, false, false, false] rfl rfl (by kernel_rfl) (by decide) (fun K hK => ?_)
        refine goesD_ Tryz.func69 (by kernel_rfl) rfl #[.string a] (by rfl) rfl rfl (by simp only [List.map_toArray, List.map_cons, List.map_nil]; rfl) ?_
        refine (HR1.out _ (by intro k hk; have h_ := hlt; simp only [World.drew] at hk; omega)).mono ?_
        rintro e w5 ⟨hb5, ⟨t1, p1⟩, he1, hp1⟩
        obtain rfl : e = .returned (.iface t1 p1) := he1
        refine .inl ⟨_, rfl, ?_⟩
        have hW5 : Below w.heap.size w w5 := ⟨hb5.os, hb5.tape, hb5.output, hb5.size, hb5.block⟩
        have hc50 : w5.cell? ⟨b0, 0, none⟩ = some (.string a) := blk_cell (blk_below HK.out.1 hW5) 0
        have hc51 : w5.cell? ⟨b1, 0, none⟩ = some (.string b) := blk_cell (blk_below HK.out.2.1 hW5) 0
        refine hK.out _ _ ⟨hc50, hc51⟩ (fun hHeld => ?_)
        clear hK K
        refine norm_ (a' := ?_) ?_ ?_
        rotate_left
        · show Act.put _ (some 10) _ = _
          simp only [Act.put, List.setIfInBounds_toArray, List.set_cons_zero, List.set_cons_succ, i64_w, i32_w]
          rfl
        refine last_ (i := 3) (N := some 12) #[true, true, true, true, false, false] rfl rfl (by kernel_rfl) (by decide) (fun K hK => ?_)
        refine goesD_ Tryz.func69 (by kernel_rfl) rfl #[.string b] (by rfl) rfl rfl (by simp only [List.map_toArray, List.map_cons, List.map_nil]; rfl) ?_
        refine (HR2.out _ (by intro k hk; have h_ := hlt; have h2_ := hb5.size; simp only [World.drew] at h2_; omega)).mono ?_
        rintro e w6 ⟨hb6, ⟨t2, p2⟩, he2, hp2⟩
        obtain rfl : e = .returned (.iface t2 p2) := he2
        refine .inl ⟨_, rfl, ?_⟩
        have hW6 := below_on hW5 hb6
        refine hK.out _ _ ?_
        clear hK K
        refine norm_ (a' := ?_) ?_ ?_
        rotate_left
        · show Act.put _ (some 12) _ = _
          simp only [Act.put, List.setIfInBounds_toArray, List.set_cons_zero, List.set_cons_succ, i64_w, i32_w]
          rfl
        refine pure_ (i := 4) (N := some 3) (v := ?_) (a' := ?_) #[true, true, true, true, true, false] rfl rfl (by kernel_rfl) (fun _ _ _ h => h) (Or.inl ⟨by rfl, ?_⟩) ?_ ?_
        rotate_left
        · intro w'
          go_simp
          with_reducible rfl
        rotate_left
        · simp only [Act.put, List.setIfInBounds_toArray, List.set_cons_zero, List.set_cons_succ, i64_w, i32_w]
          rfl
        refine pure_ (i := 5) (N := some 4) (v := ?_) (a' := ?_) #[true, true, true, true, true, true] rfl rfl (by kernel_rfl) (fun _ _ _ h => h) (Or.inl ⟨by rfl, ?_⟩) ?_ ?_
        rotate_left
        · intro w'
          go_simp
          with_reducible rfl
        rotate_left
        · simp only [Act.put, List.setIfInBounds_toArray, List.set_cons_zero, List.set_cons_succ, i64_w, i32_w]
          rfl
        refine done_ (by kernel_rfl) ?_
        have HX := Aside0.mk (HMC.out (t1, p1) (t2, p2) w6 (hp1.below hb6) hp2)
        have HW := Aside0.mk hW6
        unfold encI at HX
        clear hp1 hp2 hb5 hb6 hW5 hW6 hc50 hc51 hlt
        go_wp2_with (first
          | (go_at_call 96; refine HX.out.mono ?_; rintro e w7 ⟨hb7, rfl, hs7⟩; have H7 := Aside0.mk (And.intro (HW.out.trans ((below_alloc (Below.refl w6.heap.size w6) _).mono HW.out.size |>.trans (hb7.below HW.out.size (by rw [World.size_alloc]; have := HW.out.size; omega)))) hs7); clear hb7 hs7)
          | (go_at_call 67; refine (demand_ok 6 _).mono ?_; rintro e w8 ⟨rfl, h8⟩; subst w8))
        obtain ⟨bm, hbm⟩ : ∃ bm, bm = w6.heap.size := ⟨_, rfl⟩
        have HNE : Aside0 (bm ≠ bo) := ⟨by have := HLT.out; have := HW.out.size; omega⟩
        have hs7 := H7.out.2
        rw [← hbm] at hs7 ⊢
        have HS7 := Aside0.mk (And.intro (But.of_below (g := bo) H7.out.1) (And.intro (blk_below HK.out.2.2 H7.out.1) hs7))
        clear hs7 H7 HX HW hbm
        go_loopw [19] (fun v19 wr => ∃ (i : Int) (x0 x1 x2 : ByteArray), v19 = .int .i64 i ∧ Aside0 ((i = 0 ∧ x0 = ⟨#[]⟩ ∧ x1 = ⟨#[]⟩ ∧ x2 = ⟨#[]⟩) ∨ (i = 1 ∧ x0 = sx σ 120 ∧ x1 = ⟨#[]⟩ ∧ x2 = ⟨#[]⟩) ∨ (i = 2 ∧ x0 = sx σ 120 ∧ x1 = sx σ 121 ∧ x2 = ⟨#[]⟩) ∨ (i = 3 ∧ x0 = sx σ 120 ∧ x1 = sx σ 121 ∧ x2 = sx σ 122)) ∧ Aside0 (But bo w wr ∧ wr.heap[bo]? = some (cells61 x0 x1 x2) ∧ SubOk wr (fun k => k ≠ bo ∧ k < bm) bm nn σ)) (fun v19 _ => 3 - (intOf v19).toNat)
        case atStart => exact ⟨0, ⟨#[]⟩, ⟨#[]⟩, ⟨#[]⟩, rfl, ⟨.inl ⟨rfl, rfl, rfl, rfl⟩⟩, HS7⟩
        case round =>
        obtain ⟨i, x0, x1, x2, rfl, HI, HS⟩ := hrel
        clear HS7
        rcases HI.out with ⟨rfl, rfl, rfl, rfl⟩ | ⟨rfl, rfl, rfl, rfl⟩ | ⟨rfl, rfl, rfl, rfl⟩ | ⟨rfl, rfl, rfl, rfl⟩ <;> clear HI
        · obtain ⟨D, hown, hD⟩ := HS.out.2.2
          have hDc := hD 120 (by omega)
          have hz := blk_frozen HS.out.2.1 0
          have hd : wr.cell? ⟨bo, 0, none⟩ = some (.string (⟨#[]⟩ : ByteArray)) := blk_cell HS.out.2.1 0
          cases hσc : σ 120 with
          | none =>
            rw [hσc] at hDc
            have hsx : sx σ 120 = (⟨#[]⟩ : ByteArray) := by unfold sx; rw [hσc]
            have HX := Aside0.mk hsx
            clear hD hσc hsx hz hd
            go_wp2_with (at_lookup; refine wpList_lookup_own_ok _ rfl _ _ 128 rfl 131 99 k131 Tryz.underlying128 rH (zero99 _) (.held .nilIface) [] rfl bm nn D rfl hown _ _ rfl (key131 120 (by omega)) ?_; intro v ps hv; rw [hDc]; clear hv)
            refine ⟨⟨1, sx σ 120, (⟨#[]⟩ : ByteArray), (⟨#[]⟩ : ByteArray), rfl, ⟨.inr (.inl ⟨rfl, rfl, rfl, rfl⟩)⟩, ⟨HS.out.1, ?_, HS.out.2.2⟩⟩, by simp only [intOf]; omega⟩
            rw [HX.out]
            exact HS.out.2.1
          | some u =>
            rw [hσc] at hDc
            obtain ⟨hD1, ⟨tu, pu⟩, hD2, hpu⟩ := hDc
            have hsx : sx σ 120 = u.text := by unfold sx; rw [hσc]
            have hgu := HG.out 120 u hσc
            obtain ⟨F, hF⟩ : ∃ F, F = txF (tu, pu) := ⟨_, rfl⟩
            have hm1 : ∀ w, (method 337 tu pu "numnah/rules.text").run Tryz.prog w = .ok (F, pu) w := hF ▸ meth_text hpu
            have hm2 : ∀ args w, (callFunc F args).run Tryz.prog w = .ok (.enter F args) w := hF ▸ enters_text hpu
            have hct := text_calls u (tu, pu) wr _ hpu hgu.1 hgu.2
            rw [← hF] at hct
            have HT := Aside0.mk hct
            have HX := Aside0.mk hsx
            clear hD hσc hsx hF hgu hct hpu hz hd
            generalize u.text = tx at *
            unfold encI at hD2
            go_wp2_with (first
              | (at_lookup; refine wpList_lookup_own_ok _ rfl _ _ 128 rfl 131 99 k131 Tryz.underlying128 rH (zero99 _) (.held .nilIface) [] rfl bm nn D rfl hown _ _ rfl (key131 120 (by omega)) ?_; intro v ps hv; rw [hD1]; obtain rfl : v = .iface tu pu := (by unfold rH at hv; rw [hD2] at hv; injection hv with hv; injection hv with hv1 hv2; injection hv1); clear hv)
              | (refine HT.out.mono ?_; rintro e w9 ⟨rfl, hb9⟩; have H9 := Aside0.mk (And.intro hb9 (blk_below HS.out.2.1 hb9)); have hz := blk_frozen H9.out.2 0; have hd : w9.cell? ⟨bo, 0, none⟩ = some (.string (⟨#[]⟩ : ByteArray)) := blk_cell H9.out.2 0; clear hb9))
            have hbt : But bo w9 (w9.setCell ⟨bo, 0, none⟩ (.string tx)) := But.set w9 0 _
            refine ⟨⟨1, sx σ 120, (⟨#[]⟩ : ByteArray), (⟨#[]⟩ : ByteArray), rfl, ⟨.inr (.inl ⟨rfl, rfl, rfl, rfl⟩)⟩, ⟨(HS.out.1.trans (But.of_below H9.out.1)).trans hbt, ?_, (HS.out.2.2.below H9.out.1).butOut hbt HNE.out (fun k hk => hk.1)⟩⟩, by simp only [intOf]; omega⟩
            rw [HX.out]
            exact set61_0 H9.out.2 _
        · obtain ⟨D, hown, hD⟩ := HS.out.2.2
          have hDc := hD 121 (by omega)
          have hz := blk_frozen HS.out.2.1 1
          have hd : wr.cell? ⟨bo, 1, none⟩ = some (.string (⟨#[]⟩ : ByteArray)) := blk_cell HS.out.2.1 1
          cases hσc : σ 121 with
          | none =>
            rw [hσc] at hDc
            have hsx : sx σ 121 = (⟨#[]⟩ : ByteArray) := by unfold sx; rw [hσc]
            have HX := Aside0.mk hsx
            clear hD hσc hsx hz hd
            go_wp2_with (at_lookup; refine wpList_lookup_own_ok _ rfl _ _ 128 rfl 131 99 k131 Tryz.underlying128 rH (zero99 _) (.held .nilIface) [] rfl bm nn D rfl hown _ _ rfl (key131 121 (by omega)) ?_; intro v ps hv; rw [hDc]; clear hv)
            refine ⟨⟨2, sx σ 120, sx σ 121, (⟨#[]⟩ : ByteArray), rfl, ⟨.inr (.inr (.inl ⟨rfl, rfl, rfl, rfl⟩))⟩, ⟨HS.out.1, ?_, HS.out.2.2⟩⟩, by simp only [intOf]; omega⟩
            rw [HX.out]
            exact HS.out.2.1
          | some u =>
            rw [hσc] at hDc
            obtain ⟨hD1, ⟨tu, pu⟩, hD2, hpu⟩ := hDc
            have hsx : sx σ 121 = u.text := by unfold sx; rw [hσc]
            have hgu := HG.out 121 u hσc
            obtain ⟨F, hF⟩ : ∃ F, F = txF (tu, pu) := ⟨_, rfl⟩
            have hm1 : ∀ w, (method 337 tu pu "numnah/rules.text").run Tryz.prog w = .ok (F, pu) w := hF ▸ meth_text hpu
            have hm2 : ∀ args w, (callFunc F args).run Tryz.prog w = .ok (.enter F args) w := hF ▸ enters_text hpu
            have hct := text_calls u (tu, pu) wr _ hpu hgu.1 hgu.2
            rw [← hF] at hct
            have HT := Aside0.mk hct
            have HX := Aside0.mk hsx
            clear hD hσc hsx hF hgu hct hpu hz hd
            generalize u.text = tx at *
            unfold encI at hD2
            go_wp2_with (first
              | (at_lookup; refine wpList_lookup_own_ok _ rfl _ _ 128 rfl 131 99 k131 Tryz.underlying128 rH (zero99 _) (.held .nilIface) [] rfl bm nn D rfl hown _ _ rfl (key131 121 (by omega)) ?_; intro v ps hv; rw [hD1]; obtain rfl : v = .iface tu pu := (by unfold rH at hv; rw [hD2] at hv; injection hv with hv; injection hv with hv1 hv2; injection hv1); clear hv)
              | (refine HT.out.mono ?_; rintro e w9 ⟨rfl, hb9⟩; have H9 := Aside0.mk (And.intro hb9 (blk_below HS.out.2.1 hb9)); have hz := blk_frozen H9.out.2 1; have hd : w9.cell? ⟨bo, 1, none⟩ = some (.string (⟨#[]⟩ : ByteArray)) := blk_cell H9.out.2 1; clear hb9))
            have hbt : But bo w9 (w9.setCell ⟨bo, 1, none⟩ (.string tx)) := But.set w9 1 _
            refine ⟨⟨2, sx σ 120, sx σ 121, (⟨#[]⟩ : ByteArray), rfl, ⟨.inr (.inr (.inl ⟨rfl, rfl, rfl, rfl⟩))⟩, ⟨(HS.out.1.trans (But.of_below H9.out.1)).trans hbt, ?_, (HS.out.2.2.below H9.out.1).butOut hbt HNE.out (fun k hk => hk.1)⟩⟩, by simp only [intOf]; omega⟩
            rw [HX.out]
            exact set61_1 H9.out.2 _
        · obtain ⟨D, hown, hD⟩ := HS.out.2.2
          have hDc := hD 122 (by omega)
          have hz := blk_frozen HS.out.2.1 2
          have hd : wr.cell? ⟨bo, 2, none⟩ = some (.string (⟨#[]⟩ : ByteArray)) := blk_cell HS.out.2.1 2
          cases hσc : σ 122 with
          | none =>
            rw [hσc] at hDc
            have hsx : sx σ 122 = (⟨#[]⟩ : ByteArray) := by unfold sx; rw [hσc]
            have HX := Aside0.mk hsx
            clear hD hσc hsx hz hd
            go_wp2_with (at_lookup; refine wpList_lookup_own_ok _ rfl _ _ 128 rfl 131 99 k131 Tryz.underlying128 rH (zero99 _) (.held .nilIface) [] rfl bm nn D rfl hown _ _ rfl (key131 122 (by omega)) ?_; intro v ps hv; rw [hDc]; clear hv)
            refine ⟨⟨3, sx σ 120, sx σ 121, sx σ 122, rfl, ⟨.inr (.inr (.inr ⟨rfl, rfl, rfl, rfl⟩))⟩, ⟨HS.out.1, ?_, HS.out.2.2⟩⟩, by simp only [intOf]; omega⟩
            rw [HX.out]
            exact HS.out.2.1
          | some u =>
            rw [hσc] at hDc
            obtain ⟨hD1, ⟨tu, pu⟩, hD2, hpu⟩ := hDc
            have hsx : sx σ 122 = u.text := by unfold sx; rw [hσc]
            have hgu := HG.out 122 u hσc
            obtain ⟨F, hF⟩ : ∃ F, F = txF (tu, pu) := ⟨_, rfl⟩
            have hm1 : ∀ w, (method 337 tu pu "numnah/rules.text").run Tryz.prog w = .ok (F, pu) w := hF ▸ meth_text hpu
            have hm2 : ∀ args w, (callFunc F args).run Tryz.prog w = .ok (.enter F args) w := hF ▸ enters_text hpu
            have hct := text_calls u (tu, pu) wr _ hpu hgu.1 hgu.2
            rw [← hF] at hct
            have HT := Aside0.mk hct
            have HX := Aside0.mk hsx
            clear hD hσc hsx hF hgu hct hpu hz hd
            generalize u.text = tx at *
            unfold encI at hD2
            go_wp2_with (first
              | (at_lookup; refine wpList_lookup_own_ok _ rfl _ _ 128 rfl 131 99 k131 Tryz.underlying128 rH (zero99 _) (.held .nilIface) [] rfl bm nn D rfl hown _ _ rfl (key131 122 (by omega)) ?_; intro v ps hv; rw [hD1]; obtain rfl : v = .iface tu pu := (by unfold rH at hv; rw [hD2] at hv; injection hv with hv; injection hv with hv1 hv2; injection hv1); clear hv)
              | (refine HT.out.mono ?_; rintro e w9 ⟨rfl, hb9⟩; have H9 := Aside0.mk (And.intro hb9 (blk_below HS.out.2.1 hb9)); have hz := blk_frozen H9.out.2 2; have hd : w9.cell? ⟨bo, 2, none⟩ = some (.string (⟨#[]⟩ : ByteArray)) := blk_cell H9.out.2 2; clear hb9))
            have hbt : But bo w9 (w9.setCell ⟨bo, 2, none⟩ (.string tx)) := But.set w9 2 _
            refine ⟨⟨3, sx σ 120, sx σ 121, sx σ 122, rfl, ⟨.inr (.inr (.inr ⟨rfl, rfl, rfl, rfl⟩))⟩, ⟨(HS.out.1.trans (But.of_below H9.out.1)).trans hbt, ?_, (HS.out.2.2.below H9.out.1).butOut hbt HNE.out (fun k hk => hk.1)⟩⟩, by simp only [intOf]; omega⟩
            rw [HX.out]
            exact set61_2 H9.out.2 _
        · go_wp2
          simp [bodyPost, results, Tryz.results95]
          exact ⟨HS.out.1, _, _, _, HS.out.2.1, rfl, rfl, rfl⟩
end
set_option maxRecDepth 100000 in
set_option maxHeartbeats 1000000 in
theorem matchX_calls (a b : ByteArray) (w : World) :
    Calls Tryz.prog 47 #[.string a, .string b] w fun e w' => e = .returned (.tuple #[.agg #[.string (matchE a b).2.1, .string (matchE a b).2.2.1, .string (matchE a b).2.2.2], .int .i64 (matchE a b).1]) ∧ Below w.heap.size w w' := by
  have hzero : (matchE a b).1 ≠ 0 → (matchE a b).2 = (⟨#[]⟩, ⟨#[]⟩, ⟨#[]⟩) := by
    unfold matchE
    split
    · intro _; rfl
    · split
      · intro _; rfl
      · split
        · intro _; rfl
        · intro h; exact absurd rfl h
  obtain ⟨r, l, hv⟩ : ∃ r l, matchE a b = (r, l) := ⟨_, _, rfl⟩
  have h1 := fun b0 b1 bo w' => match1_calls a b b0 b1 bo w'
  rw [hv] at h1 hzero ⊢
  dsimp only at h1 hzero ⊢
  obtain ⟨w3, hw3⟩ : ∃ w3, w3 = ((w.alloc (.cells #[.string a] 9)).alloc (.cells #[.string b] 9)).alloc (.cells #[.string ⟨#[]⟩, .string ⟨#[]⟩, .string ⟨#[]⟩] 61) := ⟨_, rfl⟩
  have hB3 : Below w.heap.size w w3 := by rw [hw3]; exact below_alloc (below_alloc (below_alloc (Below.refl _ _) _) _) _
  have hsz : w3.heap.size = w.heap.size + 3 := by rw [hw3]; simp
  have hk0 : w3.heap[w.heap.size]? = some (.cells #[.string a] 9 (0, 0)) := by rw [hw3]; exact blk_alloc (blk_alloc (blk_new w _) _) _
  have hk1 : w3.heap[w.heap.size + 1]? = some (.cells #[.string b] 9 (0, 0)) := by rw [hw3]; exact blk_alloc (blk_new1' w _ _) _
  have hk2 : w3.heap[w.heap.size + 2]? = some (cells61 ⟨#[]⟩ ⟨#[]⟩ ⟨#[]⟩) := by
    rw [hw3]
    have := blk_new ((w.alloc (.cells #[.string a] 9)).alloc (.cells #[.string b] 9)) (cells61 ⟨#[]⟩ ⟨#[]⟩ ⟨#[]⟩)
    rwa [World.size_alloc, World.size_alloc] at this
  have hg := guard_keeps 95 enters95 #[.pointer (some ⟨w.heap.size, 0, none⟩), .pointer (some ⟨w.heap.size + 1, 0, none⟩), .pointer (some ⟨w.heap.size + 2, 0, none⟩)] w3 (fun c w1 => c = r ∧ But (w.heap.size + 2) w3 w1 ∧ ∃ x y z, w1.heap[w.heap.size + 2]? = some (cells61 x y z) ∧ (r = 0 → l = (x, y, z))) ((h1 w.heap.size (w.heap.size + 1) (w.heap.size + 2) (w3.alloc (.cells #[.int .i64 0] 26)) (blk_alloc hk0 _) (blk_alloc hk1 _) (blk_alloc hk2 _)).mono (fun e w1 hh => by
    obtain ⟨rfl, hb, hv1⟩ := hh
    have hbt : But (w.heap.size + 2) w3 w1 := (But.of_below (below_alloc (Below.refl _ _) _)).trans hb
    refine ⟨(hb.block _ (by simp) (by omega)).trans (blk_new w3 _), ?_⟩
    by_cases hr : r = 0
    · subst hr
      exact .inl ⟨rfl, rfl, hbt, hv1⟩
    · exact .inr ⟨r, endE_no hr, rfl, hbt, hv1⟩))
  have HG := Aside0.mk hg
  have HB := Aside0.mk hB3
  have HZ := Aside0.mk hsz
  have HL := Aside0.mk hzero
  clear hg hB3 hsz hk0 hk1 hk2 h1 hv hzero
  subst hw3
  by_cases hr0 : r = 0
  · subst hr0
    go_enter Tryz.func47, Tryz.ntmps47
    go_wp2_with (go_at_call 65; refine HG.out.mono ?_; rintro e w1 ⟨c, w2, rfl, ⟨rfl, hb, x, y, z, hv1, hv3⟩, hb2⟩; have hv2 := (hb2.block _ (Array.getElem?_eq_some_iff.1 hv1).1 (by have := HZ.out; omega)).trans hv1; have hz0 := blk_frozen hv2 0; have hz1 := blk_frozen hv2 1; have hz2 := blk_frozen hv2 2; have hd0 : w1.cell? ⟨w.heap.size + 2, 0, none⟩ = some (.string x) := blk_cell hv2 0; have hd1 : w1.cell? ⟨w.heap.size + 2, 1, none⟩ = some (.string y) := blk_cell hv2 1; have hd2 : w1.cell? ⟨w.heap.size + 2, 2, none⟩ = some (.string z) := blk_cell hv2 2; have HH := Aside0.mk (And.intro hb (And.intro hb2 (And.intro hv2 hv3))); clear hb hb2 hv2 hv3 hv1)
    have hz := HZ.out
    have b1 := HB.out
    obtain ⟨b2, b3, hv2, hv3⟩ := HH.out
    have b4 : Below w.heap.size w w1 := (b1.trans (b2.below (Nat.le_add_right _ _) (by omega))).trans (b3.below (by omega) (by have := b2.size; omega))
    have hle : w.heap.size ≤ w.heap.size + 1 + 1 := by omega
    have hlast := set61 hv2 x y z
    unfold cells61 at hlast
    have hl : l = (x, y, z) := by first | exact hv3 rfl | exact hv3 trivial | exact hv3
    refine bodyPost_ret (results_ct (P := Tryz.prog) rfl _ _ (w.heap.size + 1 + 1) 61 #[.string x, .string y, .string z] (0, 0) _ rfl hlast Tryz.underlying61 rfl (by kernel_rfl)) rfl ?_
    refine ⟨by rw [hl]; rfl, ?_⟩
    exact below_set (below_set (below_set b4 hle) hle) hle
  · have hrb : (r != 0) = true := by simp [hr0]
    go_enter Tryz.func47, Tryz.ntmps47
    go_wp2_with (go_at_call 65; refine HG.out.mono ?_; rintro e w1 ⟨c, w2, rfl, ⟨rfl, hb, x, y, z, hv1, hv3⟩, hb2⟩; have hv2 := (hb2.block _ (Array.getElem?_eq_some_iff.1 hv1).1 (by have := HZ.out; omega)).trans hv1; have hz0 := blk_frozen hv2 0; have hz1 := blk_frozen hv2 1; have hz2 := blk_frozen hv2 2; have hd0 : w1.cell? ⟨w.heap.size + 2, 0, none⟩ = some (.string x) := blk_cell hv2 0; have hd1 : w1.cell? ⟨w.heap.size + 2, 1, none⟩ = some (.string y) := blk_cell hv2 1; have hd2 : w1.cell? ⟨w.heap.size + 2, 2, none⟩ = some (.string z) := blk_cell hv2 2; have HH := Aside0.mk (And.intro hb (And.intro hb2 (And.intro hv2 hv3))); clear hb hb2 hv2 hv3 hv1)
    have hz := HZ.out
    have b1 := HB.out
    obtain ⟨b2, b3, hv2, hv3⟩ := HH.out
    have b4 : Below w.heap.size w w1 := (b1.trans (b2.below (Nat.le_add_right _ _) (by omega))).trans (b3.below (by omega) (by have := b2.size; omega))
    have hle : w.heap.size ≤ w.heap.size + 1 + 1 := by omega
    have hlast := set61 hv2 ⟨#[]⟩ ⟨#[]⟩ ⟨#[]⟩
    unfold cells61 at hlast
    have hl := HL.out hr0
    refine bodyPost_ret (results_ct (P := Tryz.prog) rfl _ _ (w.heap.size + 1 + 1) 61 #[.string ⟨#[]⟩, .string ⟨#[]⟩, .string ⟨#[]⟩] (0, 0) _ rfl hlast Tryz.underlying61 rfl (by kernel_rfl)) rfl ?_
    refine ⟨by rw [hl]; rfl, ?_⟩
    exact below_set (below_set (below_set b4 hle) hle) hle
def rules_Match.f (a0 a1 : ByteArray) : Option (ByteArray × ByteArray × ByteArray × Int) := some ((matchE a0 a1).2.1, (matchE a0 a1).2.2.1, (matchE a0 a1).2.2.2, (matchE a0 a1).1)
theorem rules_Match.calls (a0 a1 : ByteArray) (r0 r1 r2 : ByteArray) (r3 : Int) (w : World) (h : rules_Match.f a0 a1 = some (r0, r1, r2, r3)) :
    Calls Tryz.prog 47 #[.string a0, .string a1] w fun e w' => e = .returned (.tuple #[.agg #[.string r0, .string r1, .string r2], .int .i64 r3]) ∧ Below w.heap.size w w' := by
  unfold rules_Match.f at h
  injection h with h
  injection h with h1 h
  injection h with h2 h
  injection h with h3 h4
  subst h1 h2 h3 h4
  exact matchX_calls a0 a1 w
end Go.Proofs.YtaafeallcaiooaaGreat.Pr
