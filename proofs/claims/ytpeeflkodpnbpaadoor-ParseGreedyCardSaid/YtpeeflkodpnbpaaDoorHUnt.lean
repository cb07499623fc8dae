/- untouched's closure, and slices.ContainsFunc at []int with a closure that only reads. untouched, plainly. untouched's contract: the first string that the set does not touch, as untF says. -/
import Derived.Test.YtpeeflkodpnbpaaDoorHKeys
import Derived.RangeFuncBox
import Derived.RegionTactic
import Derived.IntWalk
import Derived.Test.YtpeeflkodpnbpaaDoorPrA21
namespace Go.Proofs.YtpeeflkodpnbpaaDoor.Pr
open Go.RowKit Go.WideMaps Go.Maps Go.Proofs.YtpeeflkodpnbpaaDoorW Go.Proofs.YtpeeflkodpnbpaaDoorW.PrintWords Go.Proofs.YtpeeflkodpnbpaaDoorW.PrintLast Go.Proofs.YtpeeflkodpnbpaaDoorW.PrintMore
set_option linter.unusedVariables false
set_option linter.unusedSimpArgs false

/-- block g holds the numbers f 0, .., f N -/
def BA (W : World) (g N : Nat) (f : Nat → Int) : Prop := ∃ cs, W.heap[g]? = some (.cells cs 3 (0, 0)) ∧ N + 1 ≤ cs.size ∧ ∀ j, j ≤ N → cs[j]? = some (.int .i64 (f j))
theorem BA.below {W W' : World} {g N : Nat} {f : Nat → Int} (h : BA W g N f) (hb : Below W.heap.size W W') : BA W' g N f := by
  obtain ⟨cs, h1, h2, h3⟩ := h
  exact ⟨cs, blk_below h1 hb, h2, h3⟩
theorem BA.lt {W : World} {g N : Nat} {f : Nat → Int} (h : BA W g N f) : g < W.heap.size := by
  obtain ⟨cs, h1, _⟩ := h
  exact blk_lt h1
theorem BA.at {W : World} {g N : Nat} {f : Nat → Int} (h : BA W g N f) (j : Nat) (hj : j ≤ N) : W.cell? ⟨g, j, none⟩ = some (.int .i64 (f j)) ∧ W.frozen? ⟨g, j, none⟩ = false := by
  obtain ⟨cs, h1, h2, h3⟩ := h
  exact ⟨(blk_cell h1 j).trans (h3 j hj), blk_frozen h1 j⟩
theorem BA.congr {W : World} {g N : Nat} {f f' : Nat → Int} (h : BA W g N f) (e : ∀ j, j ≤ N → f j = f' j) : BA W g N f' := by
  obtain ⟨cs, h1, h2, h3⟩ := h
  exact ⟨cs, h1, h2, fun j hj => by rw [← e j hj]; exact h3 j hj⟩
theorem BA.set {W : World} {g N : Nat} {f : Nat → Int} (h : BA W g N f) (i : Nat) (hi : i ≤ N) (x : Int) : BA (W.setCell ⟨g, i, none⟩ (.int .i64 x)) g N (fun j => if j = i then x else f j) := by
  obtain ⟨cs, h1, h2, h3⟩ := h
  refine ⟨_, blk_set h1 i _, by simp; omega, fun j hj => ?_⟩
  by_cases e : j = i
  · subst e
    have : j < cs.size := by omega
    simp [this]
  · show _ = some (Value.int .i64 (if j = i then x else f j))
    rw [Array.getElem?_setIfInBounds_ne (fun h => e h.symm), h3 j hj, if_neg e]
theorem BA.far {W : World} {g N : Nat} {f : Nat → Int} (h : BA W g N f) {p : Addr} (hp : g ≠ p.block) (u : Value) : BA (W.setCell p u) g N f := by
  obtain ⟨cs, h1, h2, h3⟩ := h
  exact ⟨cs, blk_far h1 hp u, h2, h3⟩

/-! ### the closure -/
structure TC (W : World) (b6 b8 g cap N n : Nat) (f : Nat → Int) : Prop where
  s : W.heap[b6]? = some (.cells #[.slice (some ⟨g, 0, none⟩) (N + 1) cap] 34 (0, 0))
  n : W.heap[b8]? = some (.cells #[.int .i64 n] 3 (0, 0))
  a : BA W g N f
theorem TC.below {W W' : World} {b6 b8 g cap N n : Nat} {f : Nat → Int} (h : TC W b6 b8 g cap N n f) (hb : Below W.heap.size W W') : TC W' b6 b8 g cap N n f :=
  ⟨blk_below h.s hb, blk_below h.n hb, h.a.below hb⟩
theorem TC.drewN {W : World} {b6 b8 g cap N n : Nat} {f : Nat → Int} (h : TC W b6 b8 g cap N n f) (m : Nat) : TC (W.drewN m) b6 b8 g cap N n f :=
  ⟨h.s, h.n, h.a⟩
set_option maxHeartbeats 2000000 in
set_option maxRecDepth 100000 in
theorem touch_calls (b6 b8 g cap N n : Nat) (f : Nat → Int) (X : Int) (j : Nat) (hX : X = (j : Int)) (hj : j + n ≤ N) (hN : N ≤ 160) (w : World) (h : TC w b6 b8 g cap N n f) :
    Calls Tryd.prog 96 #[.int .i64 X, .pointer (some ⟨b6, 0, none⟩), .pointer (some ⟨b8, 0, none⟩)] w fun e w' => e = .returned (.bool (decide (f j < f (j + n)))) ∧ ∃ q, w' = w.drewN q := by
  have a0 := blk_cell h.s 0
  have a1 := blk_cell h.n 0
  obtain ⟨c0, _⟩ := h.a.at j (by omega)
  obtain ⟨c1, _⟩ := h.a.at (j + n) (by omega)
  obtain ⟨Y, hY⟩ : ∃ Y : Int, Y = ((j + n : Nat) : Int) := ⟨_, rfl⟩
  obtain ⟨Z, hZ⟩ : ∃ Z : Int, Z = (n : Int) := ⟨_, rfl⟩
  obtain ⟨M, hM⟩ : ∃ M : Int, M = ((N + 1 : Nat) : Int) := ⟨_, rfl⟩
  rw [← hZ] at a1
  have u1 : (IntKind.i64.wrap (X + Z)) = Y := (i64_w _).trans ((Go.IntWalk.wrap64_in _ (by omega)).trans (by omega))
  have u2 : wrap64 (X + Z) = Y := (Go.IntWalk.wrap64_in _ (by omega)).trans (by omega)
  rw [show j = X.toNat by omega] at c0
  rw [show j + n = Y.toNat by omega] at c1
  have p0 : 0 ≤ X := by omega
  have q0 : X < ((N + 1 : Nat) : Int) := by omega
  have p1 : 0 ≤ Y := by omega
  have q1 : Y < ((N + 1 : Nat) : Int) := by omega
  have e0 : f X.toNat = f j := by rw [show X.toNat = j by omega]
  have e1 : f Y.toNat = f (j + n) := by rw [show Y.toNat = j + n by omega]
  rw [e0] at c0
  rw [e1] at c1
  generalize f j = fa at c0 ⊢
  generalize f (j + n) = fb at c1 ⊢
  clear hX hY hZ hM e0 e1 h hN hj
  go_enter Tryd.func96, Tryd.ntmps96
  go_wp2
  go_quiet (fail)
  go_wp2
  go_ret
  exact ⟨rfl, _, rfl⟩

/-! ### slices.IndexFunc, ContainsFunc -/
def idxP (p : Int → Bool) : List Int → Nat → Int
  | [], _ => -1
  | z :: l, i => if p z = true then (i : Int) else idxP p l (i + 1)
theorem idxP_any (p : Int → Bool) : ∀ (l : List Int) (i : Nat), (0 ≤ idxP p l i ↔ l.any p = true) ∧ -1 ≤ idxP p l i ∧ idxP p l i < i + l.length + 1
  | [], i => by simp [idxP]; omega
  | z :: l, i => by
    have := idxP_any p l (i + 1)
    rw [idxP]
    split
    · rename_i h
      simp [h]; omega
    · rename_i h
      simp only [List.any_cons, Bool.or_eq_true, List.length_cons]
      refine ⟨?_, this.2.1, by have := this.2.2; omega⟩
      rw [this.1]
      simp [h]
set_option maxHeartbeats 4000000 in
set_option maxRecDepth 100000 in
theorem indexF_calls (A : Option Addr) (c : Nat) (zs : List Int) (p : Int → Bool) (b6 b8 : Nat) (w : World) (hr : Kd.C (Kd.int .i64) w A zs.length zs) (hc : zs.length ≤ c) (hl : zs.length ≤ 161)
    (hp : ∀ z, z ∈ zs → ∀ m, Calls Tryd.prog 96 #[.int .i64 z, .pointer (some ⟨b6, 0, none⟩), .pointer (some ⟨b8, 0, none⟩)] (w.drewN m) fun e w' => e = .returned (.bool (p z)) ∧ ∃ q, w' = (w.drewN m).drewN q) :
    Calls Tryd.prog 113 #[.slice A zs.length c, .func (.func 96) #[] #[.pointer (some ⟨b6, 0, none⟩), .pointer (some ⟨b8, 0, none⟩)]] w fun e w' => e = .returned (.int .i64 (idxP p zs 0)) ∧ ∃ q, w' = w.drewN q := by
  obtain ⟨R, hR⟩ : ∃ R, idxP p zs 0 = R := ⟨_, rfl⟩
  rw [hR]
  have HC := Aside0.mk hr
  have HP := Aside0.mk hp
  have H0 := Aside0.mk hR
  clear hr hp hR
  go_enter Tryd.func113, Tryd.ntmps113
  go_wp2
  go_loopg [8] zs.length (fun q v8 wx => ∃ (k : Nat) (K : Int), v8 = .int .i64 K ∧ Aside0 (K = (k : Int)) ∧ Aside0 (k + q = zs.length) ∧ Aside0 (idxP p (zs.drop k) k = R) ∧ ∃ m, wx = w.drewN m)
  case atStart => exact ⟨0, 0, rfl, ⟨rfl⟩, ⟨by omega⟩, H0, 0, rfl⟩
  case round =>
    clear H0
    obtain ⟨k, K, rfl, HK, HQ, HR, m, rfl⟩ := hrel
    have hK := HK.out; have hQ := HQ.out
    cases gk with
    | zero =>
      have c1 : decide (K < (zs.length : Int)) = false := decide_eq_false (by omega)
      have hh : R = -1 := by have := HR.out; rw [List.drop_eq_nil_of_le (by omega)] at this; exact this.symm
      subst hh
      clear hK hQ
      go_wp2
      go_ret
      exact ⟨rfl, _, rfl⟩
    | succ q =>
      have c1 : decide (K < (zs.length : Int)) = true := decide_eq_true (by omega)
      have p1 : 0 ≤ K := by omega
      have q1 : K < (zs.length : Int) := by omega
      obtain ⟨ad, e, hx⟩ := Kd.at_int (Kd.C_drewN HC.out m) K p1 q1
      cases e
      obtain ⟨z, hz⟩ : ∃ z, z = PrintWords.rd zs K := ⟨_, rfl⟩
      rw [← hz] at hx
      have hzm : z ∈ zs ∧ zs.drop k = z :: zs.drop (k + 1) := by
        have hk : k < zs.length := by omega
        have : z = zs[k] := by rw [hz, hK]; simp [PrintWords.rd, hk]
        rw [this]
        exact ⟨List.getElem_mem hk, List.drop_eq_getElem_cons hk⟩
      have hcall := HP.out z hzm.1 m
      have HR2 := HR.out
      rw [hzm.2, idxP] at HR2
      have HK2 : Aside0 (wrap64 (K + 1) = ((k + 1 : Nat) : Int)) := ⟨by rw [Go.IntWalk.wrap64_in _ (by omega)]; omega⟩
      have HQ2 : Aside0 (k + 1 + q = zs.length) := ⟨by omega⟩
      replace p1 := eq_true p1
      replace q1 := eq_true q1
      clear hz hzm
      cases hb : p z with
      | true =>
        rw [hb] at hcall HR2
        rw [if_pos rfl] at HR2
        have HR3 : Aside0 (K = R) := ⟨hK.trans HR2⟩
        clear HR2 hK hQ
        go_wp2_with (go_at_call 96; refine hcall.mono ?_; rintro e w' ⟨rfl, qq, rfl⟩)
        go_ret
        exact ⟨by first | rfl | exact congrArg (fun x => Ending.returned (.int .i64 x)) HR3.out, _, by first | rfl | rw [World.drewN_drewN]⟩
      | false =>
        rw [hb] at hcall HR2
        rw [if_neg (by simp)] at HR2
        have HR3 := Aside0.mk HR2
        clear HR2 hK hQ
        go_wp2_with (go_at_call 96; refine hcall.mono ?_; rintro e w' ⟨rfl, qq, rfl⟩)
        go_roundg q
        case measure => omega
        case rel => exact ⟨k + 1, wrap64 (K + 1), (by first | rfl | (simp; done)), HK2, HQ2, HR3, _, by first | rfl | rw [World.drewN_drewN]⟩
set_option maxHeartbeats 4000000 in
theorem containsF_calls (A : Option Addr) (c : Nat) (zs : List Int) (p : Int → Bool) (b6 b8 : Nat) (w : World) (hr : Kd.C (Kd.int .i64) w A zs.length zs) (hc : zs.length ≤ c) (hl : zs.length ≤ 161)
    (hp : ∀ z, z ∈ zs → ∀ m, Calls Tryd.prog 96 #[.int .i64 z, .pointer (some ⟨b6, 0, none⟩), .pointer (some ⟨b8, 0, none⟩)] (w.drewN m) fun e w' => e = .returned (.bool (p z)) ∧ ∃ q, w' = (w.drewN m).drewN q) :
    Calls Tryd.prog 97 #[.slice A zs.length c, .func (.func 96) #[] #[.pointer (some ⟨b6, 0, none⟩), .pointer (some ⟨b8, 0, none⟩)]] w fun e w' => e = .returned (.bool (zs.any p)) ∧ ∃ q, w' = w.drewN q := by
  have hcall := indexF_calls A c zs p b6 b8 w hr hc hl hp
  have hany := idxP_any p zs 0
  obtain ⟨R, hR⟩ : ∃ R, idxP p zs 0 = R := ⟨_, rfl⟩
  rw [hR] at hcall hany
  have e : zs.any p = decide (R ≥ 0) := by
    cases h : zs.any p
    · rw [h] at hany
      exact (decide_eq_false (fun hh => by have := hany.1.1 hh; cases this)).symm
    · rw [h] at hany
      exact (decide_eq_true (hany.1.2 rfl)).symm
  rw [e]
  clear e hany hR hp hr
  go_enter Tryd.func97, Tryd.ntmps97
  go_wp2_with (go_at_call 113; refine hcall.mono ?_; rintro e w' ⟨rfl, qq, rfl⟩)
  go_ret
  exact ⟨rfl, _, rfl⟩
end Go.Proofs.YtpeeflkodpnbpaaDoor.Pr
namespace Go.Proofs.YtpeeflkodpnbpaaDoor.Pr
open Go.RowKit Go.WideMaps Go.Maps Go.Proofs.YtpeeflkodpnbpaaDoorW Go.Proofs.YtpeeflkodpnbpaaDoorW.PrintWords Go.Proofs.YtpeeflkodpnbpaaDoorW.PrintLast Go.Proofs.YtpeeflkodpnbpaaDoorW.PrintMore
set_option linter.unusedVariables false
set_option linter.unusedSimpArgs false

def memI (a : Int) : List Int → Bool
  | [] => false
  | x :: l => if a = x then true else memI a l
theorem memI_iff {a : Int} : ∀ {l : List Int}, memI a l = true ↔ a ∈ l
  | [] => by simp [memI]
  | x :: l => by
    rw [memI]
    split
    · rename_i h; simp [h]
    · rename_i h
      rw [memI_iff, List.mem_cons]
      exact ⟨.inr, fun hh => hh.resolve_left h⟩
theorem index_ev (a : Int) (l : List Int) (hl : l.length ≤ 9223372036854775807) : ∀ (q i : Nat), i + q = l.length → ∃ k r, slices_Index_int_int.l0 k l a (l.length : Int) (i : Int) = some r ∧ (r ≥ 0 ↔ memI a (l.drop i) = true)
  | 0, i, h => by
    refine ⟨1, -1, ?_, ?_⟩
    · rw [slices_Index_int_int.l0, if_neg (by omega)]
    · rw [List.drop_eq_nil_of_le (by omega)]; simp [memI]
  | q + 1, i, h => by
    have hi : i < l.length := by omega
    have e : PrintWords.rd l (i : Int) = l[i] := by simp [PrintWords.rd, hi]
    rw [List.drop_eq_getElem_cons hi, memI]
    by_cases c : a = l[i]
    · refine ⟨1, i, ?_, ?_⟩
      · rw [slices_Index_int_int.l0, if_pos (by omega), if_pos (by omega), if_pos (by omega), e, if_pos c]
      · rw [if_pos c]; simp
    · obtain ⟨k, r, h1, h2⟩ := index_ev a l hl q (i + 1) (by omega)
      refine ⟨k + 1, r, ?_, ?_⟩
      · rw [slices_Index_int_int.l0, if_pos (by omega), if_pos (by omega), if_pos (by omega), e, if_neg c, Go.IntWalk.wrap64_in _ (by omega)]
        rw [show ((i : Int) + 1) = ((i + 1 : Nat) : Int) by omega]; exact h1
      · rw [if_neg c]; exact h2
theorem contains_ev (a : Int) (l : List Int) (hl : l.length ≤ 9223372036854775807) : ∃ k, slices_Contains_int_int.f k l a = some (memI a l) := by
  obtain ⟨k, r, h1, h2⟩ := index_ev a l hl l.length 0 (by omega)
  refine ⟨k, ?_⟩
  have h1' : slices_Index_int_int.f k l a = some r := h1
  rw [slices_Contains_int_int.f, h1', Option.bind_some]
  congr 1
  rw [List.drop_zero] at h2
  cases h : memI a l
  · rw [h] at h2
    exact decide_eq_false (fun hh => by have := h2.1 hh; cases this)
  · rw [h] at h2
    exact decide_eq_true (h2.2 rfl)
theorem contains_calls (A0 : Option Addr) (c0 : Nat) (l : List Int) (a : Int) (w : World) (hr : Kd.C (Kd.int .i64) w A0 l.length l) (hc : l.length ≤ c0) :
    Calls Tryd.prog 95 #[.slice A0 l.length c0, .int .i64 a] w fun e w' => e = .returned (.bool (memI a l)) ∧ ∃ m, w' = w.drewN m := by
  obtain ⟨k, h⟩ := contains_ev a l (Kd.C_max hr)
  refine (slices_Contains_int_int.calls k A0 c0 l a _ w hr hc h).mono ?_
  rintro e w' ⟨rfl, ⟨m, rfl⟩⟩
  exact ⟨rfl, m, rfl⟩

def cntB (set : List Int) : Nat → Int
  | 0 => 0
  | k + 1 => cntB set k + (if memI (k : Int) set = true then 1 else 0)
theorem cntB_range (set : List Int) : ∀ k, 0 ≤ cntB set k ∧ cntB set k ≤ k
  | 0 => by simp [cntB]
  | k + 1 => by
    have := cntB_range set k
    rw [cntB]
    split <;> omega
def bval (set : List Int) (k j : Nat) : Int := if j ≤ k then cntB set j else 0
def tchP (set : List Int) (n : Nat) (x : Int) : Bool := decide (cntB set x.toNat < cntB set (x.toNat + n))
def findU (s : ByteArray) (set : List Int) (n : Nat) : List ByteArray → Option ByteArray
  | [] => none
  | t :: l => if (posS s n t).any (tchP set n) = true then findU s set n l else some t
def untF (s : ByteArray) (set : List Int) : Nat → Nat → ByteArray × Bool
  | 0, _ => (emptyB, false)
  | q + 1, n => match findU s set n (partsS s n) with
    | some t => (t, true)
    | none => untF s set q (n + 1)
end Go.Proofs.YtpeeflkodpnbpaaDoor.Pr
namespace Go.Proofs.YtpeeflkodpnbpaaDoor.Pr
open Go.RowKit Go.WideMaps Go.Maps Go.Proofs.YtpeeflkodpnbpaaDoorW Go.Proofs.YtpeeflkodpnbpaaDoorW.PrintWords Go.Proofs.YtpeeflkodpnbpaaDoorW.PrintLast Go.Proofs.YtpeeflkodpnbpaaDoorW.PrintMore
set_option linter.unusedVariables false
set_option linter.unusedSimpArgs false

theorem BA_of_R {W : World} {base N : Nat} {v : Value} (h : Kd.R (Kd.int .i64) 3 W base (fun _ => True) v (List.replicate (N + 1) 0)) : ∃ g cap, v = .slice (some ⟨g, 0, none⟩) (N + 1) cap ∧ base ≤ g ∧ BA W g N (fun _ => 0) := by
  have ho := Kd.own_of_R h
  rw [List.length_replicate] at ho
  rcases ho.2 with ⟨_, h0⟩ | ⟨g, cap, cur, rfl, hbase, hgb, r1, r2, r3, r4⟩
  · omega
  · refine ⟨g, cap, rfl, hbase, cur, hgb, by omega, fun j hj => ?_⟩
    have h2 : (cur.toList.take (N + 1))[j]? = (encs (Value.int .i64) (List.replicate (N + 1) (0 : Int)))[j]? := by rw [← r4, Nat.mul_one]
    rw [List.getElem?_take_of_lt (by omega), Array.getElem?_toList] at h2
    rw [h2]
    simp [encs, show j < N + 1 by omega]

set_option maxHeartbeats 8000000 in
set_option maxRecDepth 1000000 in
theorem untouched_calls (s : ByteArray) (hs : s.size ≤ 160) (A1 : Option Addr) (cp1 : Nat) (set : List Int) (w : World) (hr1 : Kd.C (Kd.int .i64) w A1 set.length set) (hc1 : set.length ≤ cp1) :
    Calls Tryd.prog 71 #[.string s, .slice A1 set.length cp1] w fun e w' => e = .returned (.tuple #[.string (untF s set s.size 1).1, .bool (untF s set s.size 1).2]) ∧ Below w.heap.size w w' := by
  obtain ⟨R, hR⟩ : ∃ R, untF s set s.size 1 = R := ⟨_, rfl⟩
  rw [hR]
  have H0 := Aside0.mk hR
  have HC := Aside0.mk hr1
  have HC1 := Aside0.mk hc1
  clear hR hr1 hc1
  have HB := Aside0.mk (Below.refl w.heap.size w)
  obtain ⟨M, HM⟩ : ∃ M : Int, Aside0 (M = ((s.size + 1 : Nat) : Int)) := ⟨_, ⟨rfl⟩⟩
  have hM := HM.out
  have v1 : (IntKind.i64.wrap ((s.size : Int) + 1)) = M := (i64_w _).trans ((Go.IntWalk.wrap64_in _ (by omega)).trans (by omega))
  have v2 : wrap64 ((s.size : Int) + 1) = M := (Go.IntWalk.wrap64_in _ (by omega)).trans (by omega)
  have m0 : 0 ≤ M := by omega
  have m1 : M.toNat * 8 ≤ 281474976710656 := by omega
  have m2 : M.toNat = s.size + 1 := by omega
  clear hM
  go_enter Tryd.func71, Tryd.ntmps71
  go_wp2_with ((with_reducible refine gate_dst (N := 16) rfl ?_); refine Kd.R_make (Kd.int .i64) _ 3 rfl (N := 16) rfl 34 _ _ rfl M rfl rfl Tryd.underlying34 (.int .i64 0) 8 info3 rfl (by decide) (by omega) 0 (ok := fun _ => True) (okp := fun _ => True) rfl (fun _ hk => hk) trivial m0 m1 (Below.refl _ _) (Nat.le_refl _) ?_; intro v16 w1 ho hb hg hnew; clear hg hnew; rw [m2] at ho; obtain ⟨g, cap, rfl, hgb, hba⟩ := BA_of_R ho; clear ho; have n1_ := Aside0.mk (below_step HB.out hb); have n2_ := Aside0.mk hba; have n3_ := Aside0.mk hgb; clear HB hb hba hgb; have HB := n1_; have HA := n2_; have HG := n3_; clear n1_ n2_ n3_)
  clear v1 v2 m0 m1 m2
  obtain ⟨b6, h6⟩ : ∃ b6, b6 = w1.heap.size := ⟨_, rfl⟩
  obtain ⟨W1, hW1⟩ : ∃ W1, W1 = w1.alloc (.cells #[.slice (some ⟨g, 0, none⟩) (s.size + 1) cap] 34) := ⟨_, rfl⟩
  rw [← hW1, ← h6]
  have HB1 : Aside0 (Below w.heap.size w W1) := ⟨hW1 ▸ below_alloc HB.out _⟩
  have HA1 : Aside0 (BA W1 g s.size (bval set 0)) := ⟨BA.congr (hW1 ▸ HA.out.below (below_alloc (Below.refl _ _) _)) (fun j hj => by unfold bval; split; (obtain rfl : j = 0 := by omega); rfl; rfl)⟩
  have H6 : Aside0 (W1.heap[b6]? = some (.cells #[.slice (some ⟨g, 0, none⟩) (s.size + 1) cap] 34 (0, 0))) := ⟨by rw [hW1, h6]; exact blk_new w1 _⟩
  have HN6 : Aside0 (g ≠ b6 ∧ w.heap.size ≤ g ∧ w.heap.size ≤ b6) := ⟨by have := HA.out.lt; have := HG.out; have := HB.out.size; omega⟩
  clear hW1 h6 HB HA HG
  go_loopg [19] s.size (fun q v19 wx => ∃ (k : Nat) (K : Int), v19 = .int .i64 K ∧ Aside0 (K = (k : Int)) ∧ Aside0 (k + q = s.size) ∧ Aside0 (wx.heap[b6]? = some (.cells #[.slice (some ⟨g, 0, none⟩) (s.size + 1) cap] 34 (0, 0))) ∧ Aside0 (BA wx g s.size (bval set k)) ∧ Aside0 (Below w.heap.size w wx))
  case atStart => exact ⟨0, 0, rfl, ⟨rfl⟩, ⟨by omega⟩, H6, HA1, HB1⟩
  case round =>
    clear HB1 HA1 H6
    obtain ⟨k, K, rfl, HK, HQ, H6, HA, HB⟩ := hrel
    have hK := HK.out; have hQ := HQ.out
    cases gk with
    | zero =>
      have c1 : decide (K < (s.size : Int)) = false := decide_eq_false (by omega)
      obtain rfl : k = s.size := by omega
      clear hK hQ
      go_wp2
      clear c1
      obtain ⟨W3, hW3⟩ : ∃ W3, W3 = wr.alloc (.cells #[.int .i64 1] 3) := ⟨_, rfl⟩
      obtain ⟨b8, h8⟩ : ∃ b8, b8 = wr.heap.size := ⟨_, rfl⟩
      rw [← hW3, ← h8]
      have HB3 : Aside0 (Below w.heap.size w W3) := ⟨hW3 ▸ below_alloc HB.out _⟩
      have HT3 : Aside0 (TC W3 b6 b8 g cap s.size 1 (cntB set)) := ⟨⟨by rw [hW3]; exact blk_alloc H6.out _, by rw [hW3, h8]; exact blk_new wr _, BA.congr (hW3 ▸ HA.out.below (below_alloc (Below.refl _ _) _)) (fun j hj => by unfold bval; rw [if_pos hj])⟩⟩
      have HN8 : Aside0 (w.heap.size ≤ b8 ∧ b8 ≠ g ∧ b8 ≠ b6) := ⟨by have := HA.out.lt; have := blk_lt H6.out; have := HB.out.size; omega⟩
      clear hW3 h8 HB HA H6 HK HQ
      go_loopg [8] s.size (fun q v8 wx => ∃ (n : Nat) (N : Int) (b8 : Nat), v8 = .pointer (some ⟨b8, 0, none⟩) ∧ Aside0 (N = (n : Int)) ∧ Aside0 (1 ≤ n) ∧ Aside0 (n + q = s.size + 1) ∧ Aside0 (untF s set q n = R) ∧ Aside0 (TC wx b6 b8 g cap s.size n (cntB set)) ∧ Aside0 (w.heap.size ≤ b8 ∧ b8 ≠ g ∧ b8 ≠ b6) ∧ Aside0 (Below w.heap.size w wx))
      case atStart => exact ⟨1, 1, b8, rfl, ⟨rfl⟩, ⟨by omega⟩, ⟨by omega⟩, H0, HT3, HN8, HB3⟩
      case round =>
        clear HT3 HN8 HB3 H0
        obtain ⟨n, N, b8, rfl, HN, Hn1, HQ, HR, HT, HN8, HB⟩ := hrel
        have hN := HN.out; have hQ := HQ.out; have hn1 := Hn1.out
        have a8 := blk_cell HT.out.n 0
        rw [← HN.out] at a8
        cases gk with
        | zero =>
          have c1 : decide (N ≤ (s.size : Int)) = false := decide_eq_false (by omega)
          have hh : R = (emptyB, false) := HR.out.symm
          clear hN hQ hn1
          go_wp2
          go_ret2
          exact ⟨by rw [hh]; rfl, HB.out⟩
        | succ q =>
          have c1 : decide (N ≤ (s.size : Int)) = true := decide_eq_true (by omega)
          have hn : n ≤ s.size := by omega
          clear hN hQ hn1
          go_wp2_with (first
            | (go_at_call 69; refine (substrings_calls (H := Unit) s n N HN hs hn _).mono ?_; rintro e w5 ⟨rfl, hown, hb⟩; have n1_ := Aside0.mk (below_step HB.out hb); have n2_ := Aside0.mk (HT.out.below hb); have n3_ := Aside0.mk hown; clear HB HT hb hown; have HB := n1_; have HT := n2_; have HO := n3_; clear n1_ n2_ n3_)
            | (go_at_call 78; refine (keys_calls _ _).mono ?_; rintro e w6 ⟨rfl, rfl⟩)
            | (go_at_call 77; refine (sorted_calls s n hs _ _ _ _ HO.out).mono ?_; rintro e w7 ⟨v53, rfl, hks, hb0⟩; have hb : Below (w5.alloc (.cells #[.map (some wr.heap.size)] 92)).heap.size (w5.alloc (.cells #[.map (some wr.heap.size)] 92)) w7 := (by rw [World.size_alloc]; exact hb0); obtain ⟨A53, c53, rfl, _, hC53⟩ := Kd.R_reads hks; have hal := below_alloc (Below.refl w5.heap.size w5) (.cells #[.map (some wr.heap.size)] 92); have n1_ := Aside0.mk (below_step (below_step HB.out hal) hb); have n2_ := Aside0.mk ((HT.out.below hal).below hb); have n3_ := Aside0.mk (groups_below (groups_below HO.out hal) hb); have n4_ := Aside0.mk hC53; clear HB HT HO hb hb0 hks hC53 hal; have HB := n1_; have HT := n2_; have HO := n3_; have HK := n4_; clear n1_ n2_ n3_ n4_))
          obtain ⟨mb, hmb⟩ : ∃ mb, mb = wr.heap.size := ⟨_, rfl⟩
          rw [← hmb] at HO ⊢
          clear hmb c1 a8
          obtain ⟨F, HF0⟩ : ∃ F, Aside0 (findU s set n (partsS s n) = F) := ⟨_, ⟨rfl⟩⟩
          go_loopg [55] (partsS s n).length (fun q3 v55 wx => ∃ (k : Nat) (K : Int) (m : Nat), v55 = .int .i64 K ∧ wx = w7.drewN m ∧ Aside0 (K = (k : Int)) ∧ Aside0 (k + q3 = (partsS s n).length) ∧ Aside0 (findU s set n ((partsS s n).drop k) = F))
          case atStart => exact ⟨0, 0, 0, rfl, rfl, ⟨rfl⟩, ⟨by omega⟩, HF0⟩
          case round =>
            obtain ⟨k, K, m, rfl, rfl, HK3, HQ3, HF⟩ := hrel
            have hK := HK3.out; have hQ3 := HQ3.out
            have hlen := partsS_len s n
            cases gk with
            | zero =>
              have c1 : decide (K < ((partsS s n).length : Int)) = false := decide_eq_false (by omega)
              have hF : F = none := by have := HF.out; rw [List.drop_eq_nil_of_le (by omega)] at this; exact this.symm
              have HR2 : Aside0 (untF s set q (n + 1) = R) := ⟨by have h := HR.out; rw [untF, HF0.out, hF] at h; exact h⟩
              have HTd := Aside0.mk (HT.out.drewN m)
              have HBd := Aside0.mk (pw_below_drewN HB.out m)
              generalize w7.drewN m = wd at HTd HBd ⊢
              have a8 := blk_cell HTd.out.n 0
              rw [← HN.out] at a8
              have HN2 : Aside0 (wrap64 (N + 1) = ((n + 1 : Nat) : Int)) := ⟨by have := HN.out; have := HQ.out; rw [Go.IntWalk.wrap64_in _ (by omega)]; omega⟩
              have HQ2 : Aside0 (n + 1 + q = s.size + 1) := ⟨by have := HQ.out; omega⟩
              clear hK hQ3 hlen hF
              go_wp2
              go_roundg q
              case measure => omega
              case rel =>
                have hb1 : Below wd.heap.size wd (wd.alloc (.cells #[.int .i64 (wrap64 (N + 1))] 3)) := below_alloc (Below.refl _ _) _
                refine ⟨n + 1, wrap64 (N + 1), wd.heap.size, (by first | rfl | (simp; done)), HN2, ⟨by omega⟩, HQ2, HR2, ⟨?_⟩, ⟨?_⟩, ⟨?_⟩⟩
                · exact ⟨blk_below HTd.out.s hb1, by rw [← HN2.out]; exact blk_new wd _, HTd.out.a.below hb1⟩
                · have := HTd.out.a.lt; have := blk_lt HTd.out.s; have := HBd.out.size; omega
                · exact below_step HBd.out hb1
            | succ q3 =>
              have c1 : decide (K < ((partsS s n).length : Int)) = true := decide_eq_true (by omega)
              have hk : k < (partsS s n).length := by omega
              have p1 : 0 ≤ K := by omega
              have q1 : K < ((partsS s n).length : Int) := by omega
              obtain ⟨ad, e, hx⟩ := Kd.at_string (Kd.C_drewN HK.out m) K p1 q1
              cases e
              obtain ⟨t, ht⟩ : ∃ t, t = rdOf ByteArray.empty (partsS s n) K := ⟨_, rfl⟩
              rw [← ht] at hx
              have hte : t = (partsS s n)[k] := by rw [ht, hK]; simp [rdOf, hk]
              have hdr : (partsS s n).drop k = t :: (partsS s n).drop (k + 1) := by rw [hte]; exact List.drop_eq_getElem_cons hk
              obtain ⟨j0, hj0, htj⟩ := mem_partsS.1 (show t ∈ partsS s n by rw [hte]; exact List.getElem_mem hk)
              have htz : t.size ≤ maxLen := by rw [← htj, subAt_size _ _ _ (by omega)]; unfold maxLen; omega
              have hkey := keyS_ok t htz
              have HFk := HF.out
              rw [hdr, findU] at HFk
              have hown := groups_below HO.out (pw_below_drewN (Below.refl w7.heap.size w7) m)
              have hpl := posUp_len s n t (s.size + 1 - n)
              have HK2 : Aside0 (wrap64 (K + 1) = ((k + 1 : Nat) : Int)) := ⟨by rw [Go.IntWalk.wrap64_in _ (by omega)]; omega⟩
              have HQ4 : Aside0 (k + 1 + q3 = (partsS s n).length) := ⟨by omega⟩
              have hp : ∀ z, z ∈ posS s n t → ∀ m', Calls Tryd.prog 96 #[.int .i64 z, .pointer (some ⟨b6, 0, none⟩), .pointer (some ⟨b8, 0, none⟩)] ((w7.drewN m).drewN m') fun e w' => e = .returned (.bool (tchP set n z)) ∧ ∃ q, w' = ((w7.drewN m).drewN m').drewN q := by
                intro z hz m'
                obtain ⟨j, hj, hzj, _⟩ := mem_posUp.1 hz
                have hh := touch_calls b6 b8 g cap s.size n (cntB set) z j hzj (by omega) hs _ ((HT.out.drewN m).drewN m')
                have e : tchP set n z = decide (cntB set j < cntB set (j + n)) := by unfold tchP; rw [hzj, Int.toNat_natCast]
                rw [e]; exact hh
              have HP := Aside0.mk hp
              have HPL := Aside0.mk hpl
              replace p1 := eq_true p1
              replace q1 := eq_true q1
              clear hK hQ3 ht hte hdr htj hj0 htz hp hpl hlen hk
              by_cases hb : (posS s n t).any (tchP set n) = true
              · rw [if_pos hb] at HFk
                have HF2 := Aside0.mk HFk
                clear HFk
                go_wp2_with (first
                  | (at_lookup; refine wpList_lookup_groups _ rfl _ _ 92 rfl 9 34 3 .i64 law9 Tryd.underlying92 (zero34 _) _ mb _ _ rfl hown (by unfold maxLen; omega) _ _ rfl hkey ?_; intro v61 zs hat hoi hzl hback; clear hback; rw [subG_at] at hat; obtain ⟨rfl, hnil⟩ := at_pos hoi hat; have hR61 := Kd.R_of_own (enc := Value.int .i64) (h1 := fun _ => rfl) (ok := fun _ => True) hoi.1 (fun _ _ => trivial); obtain ⟨A61, c61, rfl, hc61, hC61⟩ := Kd.R_reads hR61; clear hat hoi hnil hR61)
                  | (go_at_call 97; refine (containsF_calls A61 c61 _ (tchP set n) b6 b8 _ hC61 hc61 (by have := HPL.out; omega) HP.out).mono ?_; rintro e w9 ⟨rfl, qq, rfl⟩; rw [show (posUp s n t (s.size + 1 - n)).any (tchP set n) = true from hb]))
                go_roundg q3
                case measure => omega
                case rel => exact ⟨k + 1, wrap64 (K + 1), _, (by first | rfl | (simp; done)), rfl, HK2, HQ4, HF2⟩
              · rw [if_neg hb] at HFk
                have hb' : (posS s n t).any (tchP set n) = false := by simpa using hb
                have HR2 : Aside0 ((t, true) = R) := ⟨by have h := HR.out; rw [untF, HF0.out, ← HFk] at h; exact h⟩
                clear HFk
                go_wp2_with (first
                  | (at_lookup; refine wpList_lookup_groups _ rfl _ _ 92 rfl 9 34 3 .i64 law9 Tryd.underlying92 (zero34 _) _ mb _ _ rfl hown (by unfold maxLen; omega) _ _ rfl hkey ?_; intro v61 zs hat hoi hzl hback; clear hback; rw [subG_at] at hat; obtain ⟨rfl, hnil⟩ := at_pos hoi hat; have hR61 := Kd.R_of_own (enc := Value.int .i64) (h1 := fun _ => rfl) (ok := fun _ => True) hoi.1 (fun _ _ => trivial); obtain ⟨A61, c61, rfl, hc61, hC61⟩ := Kd.R_reads hR61; clear hat hoi hnil hR61)
                  | (go_at_call 97; refine (containsF_calls A61 c61 _ (tchP set n) b6 b8 _ hC61 hc61 (by have := HPL.out; omega) HP.out).mono ?_; rintro e w9 ⟨rfl, qq, rfl⟩; rw [show (posUp s n t (s.size + 1 - n)).any (tchP set n) = false from hb']))
                go_ret2
                exact ⟨by rw [← HR2.out]; rfl, pw_below_drewN HB.out _⟩
    | succ q =>
      have c1 : decide (K < (s.size : Int)) = true := decide_eq_true (by omega)
      obtain ⟨K1, hK1⟩ : ∃ K1 : Int, K1 = ((k + 1 : Nat) : Int) := ⟨_, rfl⟩
      have u1 : (IntKind.i64.wrap (K + 1)) = K1 := (i64_w _).trans ((Go.IntWalk.wrap64_in _ (by omega)).trans (by omega))
      have u2 : wrap64 (K + 1) = K1 := (Go.IntWalk.wrap64_in _ (by omega)).trans (by omega)
      have a6 := blk_cell H6.out 0
      obtain ⟨x0, hx0⟩ : ∃ x0, x0 = bval set k k := ⟨_, rfl⟩
      obtain ⟨d0, _⟩ := HA.out.at k (by omega)
      obtain ⟨d1, f1⟩ := HA.out.at (k + 1) (by omega)
      rw [← hx0] at d0
      have p0 : 0 ≤ K := by omega
      have q0 : K < ((s.size + 1 : Nat) : Int) := by omega
      have p1 : 0 ≤ K1 := by omega
      have q1 : K1 < ((s.size + 1 : Nat) : Int) := by omega
      have t0 : K.toNat = k := by omega
      have t1 : K1.toNat = k + 1 := by omega
      rw [← t0] at d0
      rw [← t1] at d1 f1
      have HK1 := Aside0.mk hK1
      have HT := Aside0.mk (⟨t0, t1⟩ : K.toNat = k ∧ K1.toNat = k + 1)
      have HX0 := Aside0.mk hx0
      clear hK1 hx0 t0 t1 hK hQ
      go_wp2
      go_region
      obtain ⟨W2, hW2⟩ : ∃ W2, W2 = (wr.setCell ⟨g, K1.toNat, none⟩ (.int .i64 x0)).drew := ⟨_, rfl⟩
      rw [← hW2]
      have hqq := HQ.out
      have HA2 : Aside0 (BA W2 g s.size (fun j => if j = k + 1 then x0 else bval set k j)) := ⟨by
        have := HA.out.set (k + 1) (by omega) x0
        rw [hW2, HT.out.2]; exact this⟩
      have H62 : Aside0 (W2.heap[b6]? = some (.cells #[.slice (some ⟨g, 0, none⟩) (s.size + 1) cap] 34 (0, 0))) := ⟨by
        rw [hW2]; exact blk_far H6.out (p := ⟨g, K1.toNat, none⟩) (fun e => HN6.out.1 e.symm) _⟩
      have HB2 : Aside0 (Below w.heap.size w W2) := ⟨by rw [hW2]; exact (below_set HB.out HN6.out.2.1).drew⟩
      have a62 := blk_cell H62.out 0
      obtain ⟨e0, g0⟩ := HA2.out.at (k + 1) (by omega)
      rw [if_pos rfl] at e0
      rw [← HT.out.2] at e0 g0
      have hcall := contains_calls A1 cp1 set K W2 (Kd.C_below HC.out HB2.out) HC1.out
      have hcnt : cntB set (k + 1) = x0 + (if memI K set = true then 1 else 0) := by rw [cntB, HX0.out, HK.out]; unfold bval; rw [if_pos (Nat.le_refl _)]
      have hrg := cntB_range set k
      have hx0' : x0 = cntB set k := by rw [HX0.out]; unfold bval; rw [if_pos (Nat.le_refl _)]
      obtain ⟨Y, hY⟩ : ∃ Y : Int, Y = x0 + 1 := ⟨_, rfl⟩
      have y1 : (IntKind.i64.wrap (x0 + 1)) = Y := (i64_w _).trans ((Go.IntWalk.wrap64_in _ (by omega)).trans hY.symm)
      have y2 : wrap64 (x0 + 1) = Y := (Go.IntWalk.wrap64_in _ (by omega)).trans hY.symm
      have HY := Aside0.mk hY
      have HCN := Aside0.mk hcnt
      have HXC := Aside0.mk hx0'
      have HQ2 : Aside0 (k + 1 + q = s.size) := ⟨by have := HQ.out; omega⟩
      clear hqq hW2 HA H6 HB a6 d0 d1 f1 hY hcnt hrg hx0' HX0
      cases hm : memI K set with
      | true =>
        rw [hm] at hcall
        have HCN2 : Aside0 (cntB set (k + 1) = Y) := ⟨by rw [HCN.out, hm, if_pos rfl, HY.out]⟩
        clear hm HCN
        go_wp2_with (go_at_call 95; refine hcall.mono ?_; rintro e w' ⟨rfl, m, rfl⟩)
        go_roundg q
        case measure => omega
        case rel =>
          refine ⟨k + 1, K1, (by first | rfl | (simp; done)), HK1, HQ2, ⟨?_⟩, ⟨?_⟩, ⟨?_⟩⟩
          · exact blk_far (blk_drewN H62.out _) (p := ⟨g, K1.toNat, none⟩) (fun e => HN6.out.1 e.symm) _
          · have h3 := (show BA (W2.drewN m) g s.size _ from HA2.out).set (k + 1) (by have := HQ2.out; omega) Y
            rw [HT.out.2]
            refine h3.congr (fun j hj => ?_)
            unfold bval
            by_cases h1 : j = k + 1
            · subst h1; rw [if_pos rfl, if_pos (Nat.le_refl _), HCN2.out]
            · rw [if_neg h1, if_neg h1]
              by_cases h2 : j ≤ k
              · rw [if_pos h2, if_pos (by omega)]
              · rw [if_neg h2, if_neg (by omega)]
          · exact below_set (pw_below_drewN HB2.out m) HN6.out.2.1
      | false =>
        rw [hm] at hcall
        have HCN2 : Aside0 (cntB set (k + 1) = x0) := ⟨by rw [HCN.out, hm, if_neg (by simp)]; omega⟩
        clear hm HCN
        go_wp2_with (go_at_call 95; refine hcall.mono ?_; rintro e w' ⟨rfl, m, rfl⟩)
        go_roundg q
        case measure => omega
        case rel =>
          refine ⟨k + 1, K1, (by first | rfl | (simp; done)), HK1, HQ2, ⟨?_⟩, ⟨?_⟩, ⟨?_⟩⟩
          · exact blk_drewN H62.out _
          · refine (show BA (W2.drewN m) g s.size _ from HA2.out).congr (fun j hj => ?_)
            unfold bval
            by_cases h1 : j = k + 1
            · subst h1; rw [if_pos rfl, if_pos (Nat.le_refl _), HCN2.out]
            · rw [if_neg h1]
              by_cases h2 : j ≤ k
              · rw [if_pos h2, if_pos (by omega)]
              · rw [if_neg h2, if_neg (by omega)]
          · exact pw_below_drewN HB2.out m
/-! for the printer -/
end Go.Proofs.YtpeeflkodpnbpaaDoor.Pr
