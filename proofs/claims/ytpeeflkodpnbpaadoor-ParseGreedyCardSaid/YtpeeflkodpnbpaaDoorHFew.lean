/- Fewest, plainly; its memory; slices.Clone at []int; an append onto what was cloned. Fewest's contract: the first one of the smallest sets that touch a short word, as fewL says. -/
import Derived.Test.YtpeeflkodpnbpaaDoorHUnt
import Derived.Maps.AppendAt
import Derived.Laws.EntriesVeiled
namespace Go.Proofs.YtpeeflkodpnbpaaDoor.Pr
open Go.RowKit Go.WideMaps Go.Maps Go.Proofs.YtpeeflkodpnbpaaDoorW Go.Proofs.YtpeeflkodpnbpaaDoorW.PrintWords Go.Proofs.YtpeeflkodpnbpaaDoorW.PrintLast Go.Proofs.YtpeeflkodpnbpaaDoorW.PrintMore
set_option linter.unusedVariables false
set_option linter.unusedSimpArgs false

def extLoop (s : ByteArray) (rec : List Int → Nat → List Int → Bool × List Int) (left : Nat) : Nat → List Int → Nat → List Int → Bool × List Int
  | 0, _, _, found => (false, found)
  | q + 1, set, at_, found => if at_ + left ≤ s.size then (match rec (set ++ [(at_ : Int)]) (at_ + 1) found with
      | (true, f) => (true, f)
      | (false, f) => extLoop s rec left q set (at_ + 1) f) else (false, found)
def extF (s : ByteArray) : Nat → List Int → Nat → List Int → Bool × List Int
  | 0, set, _, _ => (!(untF s set s.size 1).2, set)
  | l + 1, set, frm, found => extLoop s (extF s l) (l + 1) (s.size + 1) set frm found
theorem extLoop_stop {s : ByteArray} {rec : List Int → Nat → List Int → Bool × List Int} {left q : Nat} {set : List Int} {at_ : Nat} {found : List Int} (h : ¬ at_ + left ≤ s.size) : extLoop s rec left q set at_ found = (false, found) := by
  cases q with
  | zero => rfl
  | succ q => rw [extLoop, if_neg h]
def fewL (s : ByteArray) : Nat → Nat → List Int → List Int
  | 0, _, found => found
  | q + 1, many, found => match extF s many [] 0 found with
    | (true, f) => f
    | (false, f) => fewL s q (many + 1) f

/-- the blocks that lay below base, and the row of a list, lie as they lay, but for block F -/
abbrev RI (F : Nat) (W : World) (base : Nat) (v : Value) (xs : List Int) : Prop := Kd.R (Kd.int .i64) 3 W base (fun k => k ≠ F) v xs
theorem RI.grown {F base : Nat} {W W' : World} {v : Value} {xs : List Int} (h : RI F W base v xs) (hg : W.grownBy W' (some F)) : RI F W' base v xs :=
  Kd.R_grown h hg (fun k hk e => hk (by cases e; rfl))
theorem grown_F {A B : World} (F : Nat) (h : Below A.heap.size A B) : A.grownBy B (some F) := ⟨h.os, h.tape, h.output, h.size, fun k hk _ => h.block k hk⟩
/-- what the closure sees -/
structure FE (W : World) (F Bs Be : Nat) (s : ByteArray) (base : Nat) (found : List Int) : Prop where
  s : W.heap[Bs]? = some (.cells #[.string s] 9 (0, 0))
  e : W.heap[Be]? = some (.cells #[.func (.func 74) #[] #[.pointer (some ⟨F, 0, none⟩), .pointer (some ⟨Bs, 0, none⟩), .pointer (some ⟨Be, 0, none⟩)]] 97 (0, 0))
  f : ∃ v, W.heap[F]? = some (.cells #[v] 34 (0, 0)) ∧ RI F W base v found
theorem FE.below {W W' : World} {F Bs Be base : Nat} {s : ByteArray} {found : List Int} (h : FE W F Bs Be s base found) (hb : Below W.heap.size W W') : FE W' F Bs Be s base found := by
  obtain ⟨v, h1, h2⟩ := h.f
  exact ⟨blk_below h.s hb, blk_below h.e hb, v, blk_below h1 hb, Kd.R_below h2 hb⟩
theorem FE.set {W : World} {F Bs Be base : Nat} {s : ByteArray} {found xs : List Int} {v : Value} (h : FE W F Bs Be s base found) (h1 : Bs ≠ F) (h2 : Be ≠ F) (hv : RI F W base v xs) : FE (W.setCell ⟨F, 0, none⟩ v) F Bs Be s base xs := by
  obtain ⟨v0, h3, _⟩ := h.f
  exact ⟨blk_far h.s (p := ⟨F, 0, none⟩) h1 _, blk_far h.e (p := ⟨F, 0, none⟩) h2 _, v, blk_put h3 0 v rfl, Kd.R_far hv (fun k hk => hk) _⟩
theorem own_lower {W : World} {b b' : Nat} {e : TypeId} {size : Nat} {v : Value} {k : Nat} {xs : List Value} (h : W.ownsRow b e size v k xs) (hb : b' ≤ b) : W.ownsRow b' e size v k xs := by
  refine ⟨h.1, ?_⟩
  rcases h.2 with hn | ⟨g, cap, cur, hv, hbg, rest⟩
  · exact .inl hn
  · exact .inr ⟨g, cap, cur, hv, Nat.le_trans hb hbg, rest⟩
theorem RI_C {F base : Nat} {W : World} {v : Value} {xs : List Int} (h : RI F W base v xs) : ∃ A c, v = .slice A xs.length c ∧ xs.length ≤ c ∧ Kd.C (Kd.int .i64) W A xs.length xs := Kd.R_reads h
theorem clone_calls {F base : Nat} {W : World} {v : Value} {xs : List Int} (h : RI F W base v xs) (hl : xs.length ≤ 1000) :
    Calls Tryd.prog 75 #[v] W fun e w' => ∃ v', e = .returned v' ∧ w'.ownsRow W.heap.size 3 1 v' xs.length (xs.map (Value.int .i64)) ∧ Below W.heap.size W w' := by
  have ho := Kd.own_of_R h
  rcases ho.2 with ⟨rfl, h0⟩ | ⟨g, cap, cur, rfl, hbase, hgb, r1, r2, r3, r4⟩
  · refine (Tryd.slices_Clone_int_nil 0 0 W).mono ?_
    rintro e w' ⟨rfl, rfl⟩
    have : xs = [] := List.length_eq_zero_iff.1 h0
    subst this
    exact ⟨_, rfl, World.ownsRow_nil _ _ _ _, Below.refl _ _⟩
  · have hcs := Tryd.slices_Clone_int g 0 xs.length cap xs W (Nat.le_refl _) (by omega) (fun j hj => by
      have hb := blk_cell hgb (0 + j)
      rw [hb]
      have h2 : (cur.toList.take xs.length)[j]? = (encs (Value.int .i64) xs)[j]? := by rw [← r4, Nat.mul_one]
      rw [List.getElem?_take_of_lt hj, Array.getElem?_toList] at h2
      rw [Nat.zero_add, h2]
      simp [encs, hj, List.getD_eq_getElem?_getD])
    refine hcs.mono ?_
    rintro e w' ⟨v', rfl, hown, _, hb⟩
    rw [List.take_length] at hown
    exact ⟨v', rfl, hown, hb⟩
theorem run_put1 {W : World} {F base h : Nat} {v : Value} {xs : List Int} {x : Int} (hown : W.ownsRow base 3 1 v xs.length (xs.map (Value.int .i64))) (hb : W.heap[h]? = some (.cells #[.int .i64 x] 3 (0, 0))) (hbase : base ≤ W.heap.size) (hl : xs.length ≤ 1000) (hF : F < base) :
    ∃ v' w', (Builtin.append_ #[34, 34] 34 #[v, .slice (some ⟨h, 0, none⟩) 1 1]).run Tryd.prog W = .ok v' w' ∧ RI F w' base v' (xs ++ [x]) ∧ Below base W w' := by
  obtain ⟨i0, hi, hz0, hz1, hz2⟩ := info_parts info3
  obtain ⟨v', w', h1, h2, h3, h4, h5⟩ := run_append_own_at (P := Tryd.prog) W base 34 34 3 i0 (.int .i64 0) 1 8 Tryd.underlying34 hi hz0 hz1 hz2 rfl (by decide) v xs.length _ hown ⟨h, 0, none⟩ 1 1 [.int .i64 x] rfl (fun j u hj => by
    rw [add_at, blk_cell hb]
    match j, hj with
    | 0, hj => simpa using hj) (by simp [Value.oneCell']) (by unfold maxLen; omega) (by omega) hbase
  refine ⟨v', w', h1, ?_, (Below.refl base W).grown h3 hbase (fun k e => (hown.lt k e).1)⟩
  have e1 : xs.length + 1 = (xs ++ [x]).length := by simp
  have e2 : xs.map (Value.int .i64) ++ [.int .i64 x] = encs (Value.int .i64) (xs ++ [x]) := by simp [encs]
  rw [e2, e1] at h2
  exact Kd.R_of_own (enc := Value.int .i64) (h1 := fun _ => rfl) (xs := xs ++ [x]) (ok := fun k => k ≠ F) h2 (fun k hk e => by
    have := (h2.lt k hk).1
    omega)
end Go.Proofs.YtpeeflkodpnbpaaDoor.Pr
namespace Go.Proofs.YtpeeflkodpnbpaaDoor.Pr
open Go.RowKit Go.WideMaps Go.Maps Go.Proofs.YtpeeflkodpnbpaaDoorW Go.Proofs.YtpeeflkodpnbpaaDoorW.PrintWords Go.Proofs.YtpeeflkodpnbpaaDoorW.PrintLast Go.Proofs.YtpeeflkodpnbpaaDoorW.PrintMore
set_option linter.unusedVariables false
set_option linter.unusedSimpArgs false

def fewR.T : Bool × List (List Nat × List Nat) := (true, [([], []), ([], []), ([1], [1]), ([], []), ([3], [3]), ([2, 4, 2], [2, 4]), ([], []), ([6], [6]), ([], []), ([8], [8]), ([0, 5, 7, 9, 5], [0, 5, 7, 9])])
def fewR.B : List Nat := [0, 0, 2, 0, 8, 30, 0, 64, 0, 256, 1023]
theorem fewR.tab : rtab .any (opsOf Tryd.f74 8) = fewR.T := by kernel_rfl
theorem fewR.bits : waitsOk fewR.T.2 fewR.B = true := by kernel_rfl

set_option maxHeartbeats 8000000 in
set_option maxRecDepth 1000000 in
theorem extend_calls (s : ByteArray) (hs : s.size ≤ 14) (F Bs Be base : Nat) (hne : Bs ≠ F ∧ Be ≠ F) : ∀ (l : Nat) (L : Int) (set : List Int) (sv : Value) (frm : Nat) (I : Int) (found : List Int) (W : World), L = (l : Int) → I = (frm : Int) → set.length + l ≤ s.size → frm ≤ s.size + 1 → RI F W base sv set → FE W F Bs Be s base found → base ≤ W.heap.size →
    Calls Tryd.prog 74 #[sv, .int .i64 I, .int .i64 L, .pointer (some ⟨F, 0, none⟩), .pointer (some ⟨Bs, 0, none⟩), .pointer (some ⟨Be, 0, none⟩)] W fun e W' => e = .returned (.bool (extF s l set frm found).1) ∧ FE W' F Bs Be s base (extF s l set frm found).2 ∧ W.grownBy W' (some F)
  | 0, L, set, sv, frm, I, found, W, hL, hI, hlen, hfr, hS, hE, hbase => by
    obtain ⟨A, c, rfl, hc, hC⟩ := RI_C hS
    obtain ⟨v0, hf0, hr0⟩ := hE.f
    have c0 := blk_cell hf0 0
    have f0 := blk_frozen hf0 0
    have hE2 := hE.set hne.1 hne.2 hS
    have a1 := blk_cell hE2.s 0
    have hg2 : W.grownBy (W.setCell ⟨F, 0, none⟩ (.slice A set.length c)) (some F) := grownBy_setCell' W F _
    obtain ⟨W2, hW2⟩ : ∃ W2, W2 = W.setCell ⟨F, 0, none⟩ (.slice A set.length c) := ⟨_, rfl⟩
    have hC2 : Kd.C (Kd.int .i64) W2 A set.length set := by
      obtain ⟨A', c', e', _, hC'⟩ := RI_C (show RI F W2 base (.slice A set.length c) set from hW2 ▸ Kd.R_far hS (fun k hk => hk) _)
      cases e'
      exact hC'
    rw [← hW2] at a1 hE2 hg2
    have hcall := untouched_calls s (by omega) A c set W2 hC2 hc
    have HE2 := Aside0.mk hE2
    have HG2 := Aside0.mk hg2
    have HW2 := Aside0.mk hW2
    subst hL
    clear hE hS hE2 hg2 hC hC2 hW2 hr0 hI hfr hlen
    obtain ⟨bad, hbad⟩ : ∃ bad, bad = (untF s set s.size 1).2 := ⟨_, rfl⟩
    have hex : extF s 0 set frm found = (!bad, set) := by rw [hbad]; rfl
    rw [hex]
    rw [← hbad] at hcall
    clear hbad hex
    have e0 : ((0 : Nat) : Int) = 0 := rfl
    rw [e0]
    go_enter Tryd.func74, Tryd.ntmps74
    go_upto_region 3 with (fail)
    rw [← HW2.out]
    go_wp2_with (go_at_call 71; refine hcall.mono ?_; rintro e w3 ⟨rfl, hb⟩)
    go_ret
    exact ⟨rfl, HE2.out.below hb, HG2.out.trans (grown_F F hb)⟩
  | l + 1, L, set, sv, frm, I, found, W, hL, hI, hlen, hfr, hS, hE, hbase => by
    obtain ⟨R, hR⟩ : ∃ R, extF s (l + 1) set frm found = R := ⟨_, rfl⟩
    rw [hR]
    have HR0 : Aside0 (extLoop s (extF s l) (l + 1) (s.size + 1) set frm found = R) := ⟨hR⟩
    have HL := Aside0.mk hL
    have HI := Aside0.mk hI
    have HE := Aside0.mk hE
    have HS := Aside0.mk hS
    have c0 : (L == 0) = false := beq_eq_false_iff_ne.mpr (by omega)
    have HLE := Aside0.mk hlen
    have HBA := Aside0.mk hbase
    clear hL hI hE hS hR hlen hbase
    go_enter Tryd.func74, Tryd.ntmps74
    go_wp2
    clear c0
    go_loopg [12] (s.size + 1) (fun q v12 wx => ∃ (k : Nat) (K : Int) (fd : List Int), v12 = .int .i64 K ∧ Aside0 (K = (k : Int)) ∧ Aside0 (k ≤ s.size + 1) ∧ Aside0 (s.size + 1 ≤ k + q) ∧ Aside0 (extLoop s (extF s l) (l + 1) q set k fd = R) ∧ Aside0 (FE wx F Bs Be s base fd) ∧ Aside0 (W.grownBy wx (some F)))
    case atStart => exact ⟨frm, I, found, rfl, HI, ⟨hfr⟩, ⟨by omega⟩, HR0, HE, ⟨grown_F F (Below.refl _ _)⟩⟩
    case round =>
      clear HR0 HE
      obtain ⟨k, K, fd, rfl, HK, Hk, HQ, HR, HE, HG⟩ := hrel
      have hK := HK.out; have hk := Hk.out; have hL := HL.out
      obtain ⟨X, hX⟩ : ∃ X : Int, X = ((k + (l + 1) : Nat) : Int) := ⟨_, rfl⟩
      have hle := HLE.out
      have u1 : (IntKind.i64.wrap (K + L)) = X := (i64_w _).trans ((Go.IntWalk.wrap64_in _ (by omega)).trans (by omega))
      have u2 : wrap64 (K + L) = X := (Go.IntWalk.wrap64_in _ (by omega)).trans (by omega)
      have a1 := blk_cell HE.out.s 0
      by_cases c : k + (l + 1) ≤ s.size
      · have c1 : decide (X ≤ (s.size : Int)) = true := decide_eq_true (by omega)
        obtain ⟨q, rfl⟩ : ∃ r, gk = r + 1 := ⟨gk - 1, by have := HQ.out; omega⟩
        obtain ⟨K1, hK1⟩ : ∃ K1 : Int, K1 = ((k + 1 : Nat) : Int) := ⟨_, rfl⟩
        obtain ⟨L1, hL1⟩ : ∃ L1 : Int, L1 = (l : Int) := ⟨_, rfl⟩
        have hw1 : wrap64 (K + 1) = K1 := (Go.IntWalk.wrap64_in _ (by omega)).trans (by omega)
        have hw2 : wrap64 (L - 1) = L1 := (Go.IntWalk.wrap64_in _ (by omega)).trans (by omega)
        have a5 := blk_cell HE.out.e 0
        have HK1 := Aside0.mk hK1
        have HL1 := Aside0.mk hL1
        have HCC := Aside0.mk c
        clear hX hK1 hL1 hK hk hL hle c
        go_wp2
        clear c1 u1 u2 a1
        refine start_ (n := 11) (S := fun w' => w'.cell? ⟨Be, 0, none⟩ = some (.func (.func 74) #[] #[.pointer (some ⟨F, 0, none⟩), .pointer (some ⟨Bs, 0, none⟩), .pointer (some ⟨Be, 0, none⟩)])) (ds := []) #[false, false, false, false, false, false, false, false, false, false, false] (by kernel_rfl) rfl rfl a5 (fun hHeld => ?_); refine with_tabW fewR.tab fewR.bits (fun HT_ HW_ => ?_)
        clear a5
        have HE2 := Aside0.mk (HE.out.below (below_drew1 (Below.refl wr.heap.size wr)))
        have HG2 := Aside0.mk (HG.out.trans (grown_F F (below_drew1 (Below.refl wr.heap.size wr))))
        clear HE HG
        generalize wr.drew = wd at HE2 HG2 hHeld ⊢
        refine take_ (i := 0) (N := some 33) (v := ?_) (a' := ?_) #[true, false, false, false, false, false, false, false, false, false, false] rfl rfl (take_ofW HT_.out HW_.out (by kernel_rfl)) (fun _ _ _ h => h) (Or.inl ⟨by rfl, ?_⟩) hHeld ?_ ?_
        rotate_left
        · intro w' s0
          go_simp
          with_reducible rfl
        rotate_left
        · simp only [Act.put, List.setIfInBounds_toArray, List.set_cons_zero, List.set_cons_succ, i64_w, i32_w, hw1, hw2]
          rfl
        refine pure_ (i := 1) (N := some 34) (v := ?_) (a' := ?_) #[true, true, false, false, false, false, false, false, false, false, false] rfl rfl (any_of HT_.out (by kernel_rfl)) (fun _ _ _ h => h) (Or.inl ⟨by rfl, ?_⟩) ?_ ?_
        rotate_left
        · intro w'
          go_simp
          with_reducible rfl
        rotate_left
        · simp only [Act.put, List.setIfInBounds_toArray, List.set_cons_zero, List.set_cons_succ, i64_w, i32_w, hw1, hw2]
          rfl
        refine pure_ (i := 3) (N := some 36) (v := ?_) (a' := ?_) #[true, true, false, true, false, false, false, false, false, false, false] rfl rfl (any_of HT_.out (by kernel_rfl)) (fun _ _ _ h => h) (Or.inl ⟨by rfl, ?_⟩) ?_ ?_
        rotate_left
        · intro w'
          go_simp
          with_reducible rfl
        rotate_left
        · simp only [Act.put, List.setIfInBounds_toArray, List.set_cons_zero, List.set_cons_succ, i64_w, i32_w, hw1, hw2]
          rfl
        refine pure_ (i := 6) (N := some 39) (v := ?_) (a' := ?_) #[true, true, false, true, false, false, true, false, false, false, false] rfl rfl (any_of HT_.out (by kernel_rfl)) (fun _ _ _ h => h) (Or.inl ⟨by rfl, ?_⟩) ?_ ?_
        rotate_left
        · intro w'
          go_simp
          with_reducible rfl
        rotate_left
        · simp only [Act.put, List.setIfInBounds_toArray, List.set_cons_zero, List.set_cons_succ, i64_w, i32_w, hw1, hw2]
          rfl
        refine pure_ (i := 7) (N := some 40) (v := ?_) (a' := ?_) #[true, true, false, true, false, false, true, true, false, false, false] rfl rfl (any_of HT_.out (by kernel_rfl)) (fun _ _ _ h => h) (Or.inl ⟨by rfl, ?_⟩) ?_ ?_
        rotate_left
        · intro w'
          go_simp
          with_reducible rfl
        rotate_left
        · simp only [Act.put, List.setIfInBounds_toArray, List.set_cons_zero, List.set_cons_succ, i64_w, i32_w, hw1, hw2]
          rfl
        refine pure_ (i := 8) (N := some 41) (v := ?_) (a' := ?_) #[true, true, false, true, false, false, true, true, true, false, false] rfl rfl (any_of HT_.out (by kernel_rfl)) (fun _ _ _ h => h) (Or.inl ⟨by rfl, ?_⟩) ?_ ?_
        rotate_left
        · intro w'
          go_simp
          with_reducible rfl
        rotate_left
        · simp only [Act.put, List.setIfInBounds_toArray, List.set_cons_zero, List.set_cons_succ, i64_w, i32_w, hw1, hw2]
          rfl
        refine pure_ (i := 9) (N := some 42) (v := ?_) (a' := ?_) #[true, true, false, true, false, false, true, true, true, true, false] rfl rfl (any_of HT_.out (by kernel_rfl)) (fun _ _ _ h => h) (Or.inl ⟨by rfl, ?_⟩) ?_ ?_
        rotate_left
        · intro w'
          go_simp
          with_reducible rfl
        rotate_left
        · simp only [Act.put, List.setIfInBounds_toArray, List.set_cons_zero, List.set_cons_succ, i64_w, i32_w, hw1, hw2]
          rfl
        have hS2 := RI.grown HS.out HG2.out
        have hsz : s.size ≤ 14 := hs
        have hwb := HG2.out.size
        have hFlt : F < wd.heap.size := by obtain ⟨v, h1, _⟩ := HE2.out.f; exact blk_lt h1
        refine join_ (σ := Value × Nat) 2 #[true, true, true, true, true, false, true, true, true, true, false] (fun x => [(35, x.1), (37, .slice (some ⟨x.2, 0, none⟩) 1 1)]) (fun x w' => w'.ownsRow wd.heap.size 3 1 x.1 set.length (set.map (Value.int .i64)) ∧ w'.heap[x.2]? = some (.cells #[.int .i64 K] 3 (0, 0)) ∧ Below wd.heap.size wd w') ?_ (fun hjoin => ?_)
        rotate_left
        · simp only [putAll, Act.put, List.setIfInBounds_toArray, List.set_cons_zero, List.set_cons_succ] at hjoin
          refine two_ (i := 2) (j := 4) (Ni := some 35) (Nj := some 37) #[true, true, true, true, false, false, true, true, true, true, false] #[true, true, false, true, true, false, true, true, true, true, false] rfl rfl rfl rfl (two_of HT_.out (by kernel_rfl)) (by decide) (by decide) (fun K_ hK_ => ?_) (fun K_ hK_ => ?_)
          · have hcl := clone_calls hS2 (by have := HLE.out; omega)
            refine goes_ Tryd.func75 (by kernel_rfl) rfl #[sv] (by rfl) rfl rfl (by (try simp only [List.map_toArray, List.map_cons, List.map_nil]); first | done | rfl) ?_
            refine hcl.mono ?_
            rintro e w2 ⟨cv, rfl, hown, hb⟩
            refine ⟨_, rfl, ?_⟩
            refine hK_.out _ _ (blk_cell (HE2.out.below hb).e 0) (fun hHeld2 => ?_)
            clear hK_ K_
            refine norm_ (a' := ?_) ?_ ?_
            rotate_left
            · show Act.put _ (some 35) _ = _
              simp only [Act.put, List.setIfInBounds_toArray, List.set_cons_zero, List.set_cons_succ, i64_w, i32_w]
              rfl
            refine one_ (i := 4) (N := some 37) #[true, true, true, true, true, false, true, true, true, true, false] rfl rfl (one_of HT_.out (by kernel_rfl)) (by decide) (fun K_ hK_ => ?_)
            refine value_ (w1 := w2.alloc (.cells #[.int .i64 K] 3)) (v := .slice (some ⟨w2.heap.size, 0, none⟩) 1 1) (by rfl) rfl ?_ ?_
            · go_simp; first | done | rfl
            have hb2 := below_alloc hb (.cells #[.int .i64 K] 3)
            refine hK_.out _ _ (blk_cell (HE2.out.below hb2).e 0) (fun hHeld3 => ?_)
            clear hK_ K_
            refine norm_ (a' := ?_) ?_ ?_
            rotate_left
            · show Act.put _ (some 37) _ = _
              simp only [Act.put, List.setIfInBounds_toArray, List.set_cons_zero, List.set_cons_succ, i64_w, i32_w]
              rfl
            exact hjoin (cv, w2.heap.size) _ ⟨hown.alloc _, blk_new w2 _, hb2⟩
          · refine value_ (w1 := wd.alloc (.cells #[.int .i64 K] 3)) (v := .slice (some ⟨wd.heap.size, 0, none⟩) 1 1) (by rfl) rfl ?_ ?_
            · go_simp; first | done | rfl
            have hb0 := below_alloc (Below.refl wd.heap.size wd) (.cells #[.int .i64 K] 3)
            have hcl := clone_calls (Kd.R_below hS2 hb0) (by have := HLE.out; omega)
            refine hK_.out _ _ (blk_cell (HE2.out.below hb0).e 0) (fun hHeld2 => ?_)
            clear hK_ K_
            refine norm_ (a' := ?_) ?_ ?_
            rotate_left
            · show Act.put _ (some 37) _ = _
              simp only [Act.put, List.setIfInBounds_toArray, List.set_cons_zero, List.set_cons_succ, i64_w, i32_w]
              rfl
            refine one_ (i := 2) (N := some 35) #[true, true, true, true, true, false, true, true, true, true, false] rfl rfl (one_of HT_.out (by kernel_rfl)) (by decide) (fun K_ hK_ => ?_)
            refine goes_ Tryd.func75 (by kernel_rfl) rfl #[sv] (by rfl) rfl rfl (by (try simp only [List.map_toArray, List.map_cons, List.map_nil]); first | done | rfl) ?_
            refine hcl.mono ?_
            rintro e w2 ⟨cv, rfl, hown, hb⟩
            refine ⟨_, rfl, ?_⟩
            have hb2 := below_step hb0 hb
            refine hK_.out _ _ (blk_cell (HE2.out.below hb2).e 0) (fun hHeld3 => ?_)
            clear hK_ K_
            refine norm_ (a' := ?_) ?_ ?_
            rotate_left
            · show Act.put _ (some 35) _ = _
              simp only [Act.put, List.setIfInBounds_toArray, List.set_cons_zero, List.set_cons_succ, i64_w, i32_w]
              rfl
            exact hjoin (cv, wd.heap.size) _ ⟨own_lower hown (by simp), blk_below (blk_new wd _) hb, hb2⟩
        · rintro ⟨cv, h⟩ w2 ⟨hown, hbl, hb⟩
          simp only [putAll, Act.put, List.setIfInBounds_toArray, List.set_cons_zero, List.set_cons_succ]
          obtain ⟨v', w3, hrun, hR3, hb3⟩ := run_put1 hown hbl hb.size (by have := HLE.out; omega) hFlt
          refine one_ (i := 5) (N := some 38) #[true, true, true, true, true, true, true, true, true, true, false] rfl rfl (one_of HT_.out (by kernel_rfl)) (by decide) (fun K_ hK_ => ?_)
          refine value_ (w1 := w3) (v := v') (by rfl) rfl ?_ ?_
          · simp [execOp, resolve, invoke, builtin, Act.eval, hrun, Result.andThen]
          have hb4 := hb.trans hb3
          have hE4 := HE2.out.below hb4
          refine hK_.out _ _ (blk_cell hE4.e 0) (fun hHeld3 => ?_)
          clear hK_ K_
          refine norm_ (a' := ?_) ?_ ?_
          rotate_left
          · show Act.put _ (some 38) _ = _
            simp only [Act.put, List.setIfInBounds_toArray, List.set_cons_zero, List.set_cons_succ, i64_w, i32_w]
            rfl
          refine one_ (i := 10) (N := some 43) #[true, true, true, true, true, true, true, true, true, true, true] rfl rfl (one_of HT_.out (by kernel_rfl)) (by decide) (fun K_ hK_ => ?_)
          have he := enters_of (P := Tryd.prog) Tryd.func74 (by kernel_rfl) rfl #[v', .int .i64 K1, .int .i64 L1, .pointer (some ⟨F, 0, none⟩), .pointer (some ⟨Bs, 0, none⟩), .pointer (some ⟨Be, 0, none⟩)] w3
          refine call_ 74 #[v', .int .i64 K1, .int .i64 L1, .pointer (some ⟨F, 0, none⟩), .pointer (some ⟨Bs, 0, none⟩), .pointer (some ⟨Be, 0, none⟩)] (by rfl) rfl ?_ ?_
          · unfold execOp
            simp [resolve, Deferred.ofValue, invoke, Act.eval, he]
          have hrg := HG2.out.trans (grown_F F hb4)
          have hsz3 := hb4.size
          have hbs := HBA.out
          have hgs := HG2.out.size
          have hcall := extend_calls s hs F Bs Be base hne l L1 (set ++ [K]) v' (k + 1) K1 fd w3 HL1.out HK1.out (by rw [List.length_append, List.length_singleton]; have := HLE.out; omega) (by have := HCC.out; omega) (Kd.R_lower hR3 (by omega)) hE4 (by omega)
          refine hcall.mono ?_
          rintro e w4 ⟨rfl, hE5, hg5⟩
          refine ⟨_, rfl, ?_⟩
          refine hK_.out _ _ (blk_cell hE5.e 0) (fun hHeld4 => ?_)
          clear hK_ K_
          refine norm_ (a' := ?_) ?_ ?_
          rotate_left
          · show Act.put _ (some 43) _ = _
            simp only [Act.put, List.setIfInBounds_toArray, List.set_cons_zero, List.set_cons_succ, i64_w, i32_w]
            rfl
          refine done_ (done_of HT_.out (by kernel_rfl)) ?_
          have HRR := HR.out
          rw [extLoop, if_pos HCC.out, ← HK.out] at HRR
          obtain ⟨b, f', hbf⟩ : ∃ b f', extF s l (set ++ [K]) (k + 1) fd = (b, f') := ⟨_, _, rfl⟩
          rw [hbf] at hE5 HRR ⊢
          have HE5 := Aside0.mk hE5
          have HG5 := Aside0.mk (hrg.trans hg5)
          have HK2 : Aside0 (K1 = ((k + 1 : Nat) : Int)) := HK1
          have Hk2 : Aside0 (k + 1 ≤ s.size + 1) := ⟨by have := HCC.out; omega⟩
          have HQ2 : Aside0 (s.size + 1 ≤ k + 1 + q) := ⟨by have := HQ.out; omega⟩
          clear hE5 hrg hg5 hcall hE4 hb4 hb3 hb hown hbl hR3 he hHeld hHeld3 hHeld4 hS2 hrun hsz3 hbs hgs hbf
          cases b with
          | true =>
            have HR5 : Aside0 ((true, f') = R) := ⟨HRR⟩
            clear HRR
            go_wp2
            go_ret
            exact ⟨by rw [← HR5.out]; rfl, by rw [← HR5.out]; exact HE5.out, HG5.out⟩
          | false =>
            have HR5 : Aside0 (extLoop s (extF s l) (l + 1) q set (k + 1) f' = R) := ⟨HRR⟩
            clear HRR
            go_wp2
            go_roundg q
            case measure => omega
            case rel => exact ⟨k + 1, K1, f', (by first | rfl | (simp [hw1]; done)), HK2, Hk2, HQ2, HR5, HE5, HG5⟩
      · have c1 : decide (X ≤ (s.size : Int)) = false := decide_eq_false (by omega)
        have hh : (false, fd) = R := by have := HR.out; rw [extLoop_stop c] at this; exact this
        clear hX hK hk hL hle c
        go_wp2
        go_ret
        exact ⟨by rw [← hh]; rfl, by rw [← hh]; exact HE.out, HG.out⟩

/-! for the printer -/
def parse_Fewest.f (a0 : ByteArray) : Option (List Int × Int) := if isWordC a0 = true then (if (a0.size : Int) > 14 then some ([], 2) else some (fewL a0 (a0.size + 1) 0 [], 0)) else some ([], 2)
set_option maxHeartbeats 8000000 in
set_option maxRecDepth 1000000 in
theorem parse_Fewest.calls (a0 : ByteArray) (r1 : List Int) (r2 : Int) (w : World) (h : parse_Fewest.f a0 = some (r1, r2)) :
    Calls Tryd.prog 40 #[.string a0] w fun e w' => ∃ v0_ : Value, e = .returned (.tuple #[v0_, .int .i64 r2]) ∧ Kd.R (Kd.int .i64) 3 w' w.heap.size (fun _ => True) v0_ r1 ∧ Below w.heap.size w w' := by
  have hW := fun W => isWord_calls a0 W
  have hb0 : Below w.heap.size w (w.alloc (.cells #[.string a0] 9)) := below_alloc (Below.refl _ _) _
  cases hc : isWordC a0 with
  | false =>
    rw [hc] at hW
    simp only [parse_Fewest.f, hc, Bool.false_eq_true, if_false, Option.some.injEq, Prod.mk.injEq] at h
    obtain ⟨rfl, rfl⟩ := h
    go_enter Tryd.func40, Tryd.ntmps40
    go_wp2_with (go_at_call 62; refine (hW _).mono ?_; rintro e w1 ⟨rfl, hb⟩)
    go_ret2
    exact ⟨_, rfl, Kd.R_nil _ _ _ _ _, below_step hb0 hb⟩
  | true =>
    rw [hc] at hW
    by_cases hsz : (a0.size : Int) > 14
    · simp only [parse_Fewest.f, hc, if_true, if_pos hsz, Option.some.injEq, Prod.mk.injEq] at h
      obtain ⟨rfl, rfl⟩ := h
      have c1 : decide (14 < (a0.size : Int)) = true := decide_eq_true hsz
      have c2 : decide ((a0.size : Int) > 14) = true := decide_eq_true hsz
      have a0_ := blk_new w (.cells #[.string a0] 9)
      go_enter Tryd.func40, Tryd.ntmps40
      go_wp2_with (go_at_call 62; refine (hW _).mono ?_; rintro e w1 ⟨rfl, hb⟩; have a1 := blk_cell (blk_below a0_ hb) 0; have HB := Aside0.mk (below_step hb0 hb); clear hb hb0 a0_)
      go_ret2
      exact ⟨_, rfl, Kd.R_nil _ _ _ _ _, HB.out⟩
    · simp only [parse_Fewest.f, hc, if_true, if_neg hsz, Option.some.injEq, Prod.mk.injEq] at h
      obtain ⟨h1, rfl⟩ := h
      have H0 := Aside0.mk h1
      clear h1
      have hs14 : a0.size ≤ 14 := by omega
      have c1 : decide (14 < (a0.size : Int)) = false := decide_eq_false hsz
      have c2 : decide ((a0.size : Int) > 14) = false := decide_eq_false hsz
      have a0_ := blk_new w (.cells #[.string a0] 9)
      obtain ⟨Bs, hBs⟩ : ∃ Bs, Bs = w.heap.size := ⟨_, rfl⟩
      go_enter Tryd.func40, Tryd.ntmps40
      go_upto_region 6 with (go_at_call 62; refine (hW _).mono ?_; rintro e w1 ⟨rfl, hb⟩; have HA := Aside0.mk (blk_below a0_ hb); have a1 := blk_cell (blk_below a0_ hb) 0; have HB := Aside0.mk (below_step hb0 hb); clear hb hb0 a0_)
      clear c1 c2 a1
      rw [← hBs] at HA ⊢
      obtain ⟨F, hF⟩ : ∃ F, F = w1.heap.size := ⟨_, rfl⟩
      obtain ⟨Be, hBe⟩ : ∃ Be, Be = w1.heap.size + 1 := ⟨_, rfl⟩
      rw [← hBe, ← hF]
      obtain ⟨W2, hW2⟩ : ∃ W2, W2 = (w1.alloc (.cells #[.slice none 0 0] 34)).alloc (.cells #[.func (.func 74) #[] #[.pointer (some ⟨F, 0, none⟩), .pointer (some ⟨Bs, 0, none⟩), .pointer (some ⟨Be, 0, none⟩)]] 97) := ⟨_, rfl⟩
      rw [← hW2]
      have hsz1 := HB.out.size
      have hlt1 := blk_lt HA.out
      have HB2 : Aside0 (Below w.heap.size w W2) := ⟨by rw [hW2]; exact below_alloc (below_alloc HB.out _) _⟩
      have HN : Aside0 (Bs ≠ F ∧ Be ≠ F ∧ w.heap.size ≤ F ∧ F < W2.heap.size) := ⟨by rw [hF, hBe, hW2]; simp; omega⟩
      have HE : Aside0 (FE W2 F Bs Be a0 w.heap.size []) := ⟨by
        refine ⟨by rw [hW2]; exact blk_alloc (blk_alloc HA.out _) _, ?_, _, ?_, Kd.R_nil _ _ _ _ _⟩
        · rw [hW2]
          have := blk_new (w1.alloc (.cells #[.slice none 0 0] 34)) (.cells #[.func (.func 74) #[] #[.pointer (some ⟨F, 0, none⟩), .pointer (some ⟨Bs, 0, none⟩), .pointer (some ⟨Be, 0, none⟩)]] 97)
          rw [World.size_alloc, ← hBe] at this
          exact this
        · rw [hW2, hF]
          exact blk_alloc (blk_new w1 _) _⟩
      obtain ⟨M, HM⟩ : ∃ M : Int, Aside0 (M = ((a0.size + 1 : Nat) : Int)) := ⟨_, ⟨rfl⟩⟩
      have hM := HM.out
      have v1 : (IntKind.i64.wrap ((a0.size : Int) + 1)) = M := (i64_w _).trans ((Go.IntWalk.wrap64_in _ (by omega)).trans (by omega))
      have v2 : wrap64 ((a0.size : Int) + 1) = M := (Go.IntWalk.wrap64_in _ (by omega)).trans (by omega)
      have a1 := blk_cell HE.out.s 0
      clear hsz1 hlt1 hW2 hF hBe hM HA HB hsz hBs
      go_wp2
      clear v1 v2 a1
      go_loopg [19] (a0.size + 1) (fun q v19 wx => ∃ (m : Nat) (Mm : Int) (fd : List Int), v19 = .int .i64 Mm ∧ Aside0 (Mm = (m : Int)) ∧ Aside0 (m + q = a0.size + 1) ∧ Aside0 (fewL a0 q m fd = r1) ∧ Aside0 (FE wx F Bs Be a0 w.heap.size fd) ∧ Aside0 (Below w.heap.size w wx) ∧ Aside0 (F < wx.heap.size))
      case atStart => exact ⟨0, 0, [], rfl, ⟨rfl⟩, ⟨by omega⟩, H0, HE, HB2, ⟨HN.out.2.2.2⟩⟩
      case round =>
        clear H0 HE HB2
        obtain ⟨m, Mm, fd, rfl, HMm, HQ, HR, HE, HB, HFl⟩ := hrel
        have hMm := HMm.out; have hM := HM.out; have hQ := HQ.out
        cases gk with
        | zero =>
          have c1 : decide (Mm < M) = false := decide_eq_false (by omega)
          have hh : fd = r1 := HR.out
          obtain ⟨v, hv, hRv⟩ := HE.out.f
          have a4 := blk_cell hv 0
          have HRv := Aside0.mk (hh ▸ hRv)
          clear hv hRv hMm hM hQ hh
          go_wp2
          go_ret2
          exact ⟨_, rfl, Kd.R_mono HRv.out (fun _ _ => trivial), HB.out⟩
        | succ q =>
          have c1 : decide (Mm < M) = true := decide_eq_true (by omega)
          have a5 := blk_cell HE.out.e 0
          have hbs := HB.out.size
          have hcall := extend_calls a0 hs14 F Bs Be w.heap.size ⟨HN.out.1, HN.out.2.1⟩ m Mm [] (.slice none 0 0) 0 0 fd wr hMm rfl (by simp; omega) (by omega) (Kd.R_nil _ _ _ _ _) HE.out hbs
          have HM2 : Aside0 (wrap64 (Mm + 1) = ((m + 1 : Nat) : Int)) := ⟨by rw [Go.IntWalk.wrap64_in _ (by omega)]; omega⟩
          have HQ2 : Aside0 (m + 1 + q = a0.size + 1) := ⟨by omega⟩
          have HRR := HR.out
          rw [fewL] at HRR
          obtain ⟨b, f', hbf⟩ : ∃ b f', extF a0 m [] 0 fd = (b, f') := ⟨_, _, rfl⟩
          rw [hbf] at hcall HRR
          clear hbf hMm hM hQ hbs
          cases b with
          | true =>
            have hh : f' = r1 := HRR
            clear HRR
            go_wp2_with (go_at_call 74; refine hcall.mono ?_; rintro e w4 ⟨rfl, hE4, hg4⟩; have hB4 : Below w.heap.size w w4 := HB.out.grown hg4 HB.out.size (fun j e => by cases e; exact HN.out.2.2.1); obtain ⟨v, hv, hRv⟩ := hE4.f; have a4 := blk_cell hv 0; have HRv := Aside0.mk (hh ▸ hRv); have HB4 := Aside0.mk hB4; clear hv hRv hg4 hB4 hE4)
            go_ret2
            exact ⟨_, rfl, Kd.R_mono HRv.out (fun _ _ => trivial), HB4.out⟩
          | false =>
            have HR2 : Aside0 (fewL a0 q (m + 1) f' = r1) := ⟨HRR⟩
            clear HRR
            go_wp2_with (go_at_call 74; refine hcall.mono ?_; rintro e w4 ⟨rfl, hE4, hg4⟩; have HB4 := Aside0.mk (HB.out.grown hg4 HB.out.size (fun j e => by cases e; exact HN.out.2.2.1)); have HE4 := Aside0.mk hE4; have HF4 : Aside0 (F < w4.heap.size) := ⟨Nat.lt_of_lt_of_le HFl.out hg4.size⟩; clear hg4 hE4)
            go_roundg q
            case measure => omega
            case rel => exact ⟨m + 1, wrap64 (Mm + 1), f', (by first | rfl | (simp; done)), HM2, HQ2, HR2, HE4, HB4, HF4⟩
end Go.Proofs.YtpeeflkodpnbpaaDoor.Pr
