/- RulesSized, walked. -/
import Derived.Test.YtaafeallcaiooaaGreatHMd
import Derived.Test.YtaafeallcaiooaaGreatHRp
import Derived.Test.YtaafeallcaiooaaGreatHEx
/- Size. -/
namespace Go.Proofs.YtaafeallcaiooaaGreat.Pr
open Go.RowKit Go.Maps Go.Proofs.YtaafeallcaiooaaGreatW.PrintWords Go.Proofs.YtaafeallcaiooaaGreatW.PrintLast Go.Proofs.YtaafeallcaiooaaGreatW.PrintMore
set_option linter.unusedVariables false
set_option linter.unusedSimpArgs false
/-- Size: the error, and the size -/
def sizeE (s : ByteArray) : Int × Int := match readT s with
  | none => (4, 0)
  | some t => (0, t.size)
set_option maxRecDepth 100000 in
theorem size1_calls (s : ByteArray) (bs : Nat → Nat) (bo : Nat) (w : World) (hb0 : w.heap[bs 0]? = some (.cells #[.string s] 9 (0, 0))) (hbo : w.heap[bo]? = some (.cells #[.int .i64 0] 3 (0, 0))) :
    Calls Tryz.prog 84 #[.pointer (some ⟨bs 0, 0, none⟩), .pointer (some ⟨bo, 0, none⟩)] w fun e w' => e = endE (sizeE s).1 ∧ But bo w w' ∧ w'.heap[bo]? = some (.cells #[.int .i64 (sizeE s).2] 3 (0, 0)) := by
  have hx0 := blk_cell hb0 0
  generalize bs 0 = b0 at *
  have hrc := read_calls (fun _ => True) s w (fun _ _ => trivial)
  cases hR : readT s with
  | none =>
    have e : sizeE s = (4, 0) := by unfold sizeE; rw [hR]
    rw [e]
    rw [hR] at hrc
    have HR := Aside0.mk hrc
    have HB := Aside0.mk hbo
    clear hrc hb0 hbo hR e
    go_enter Tryz.func84, Tryz.ntmps84
    go_wp2_with (go_at_call 69; refine HR.out.mono ?_; rintro e w3 ⟨hb, rfl⟩; have H3 := Aside0.mk hb; clear hb)
    exact ⟨rfl, rfl, But.of_below H3.out, blk_below HB.out H3.out⟩
  | some t =>
    have e : sizeE s = (0, t.size) := by unfold sizeE; rw [hR]
    rw [e]
    have e0 : endE (0, t.size).1 = .returned (.tuple #[]) := rfl
    rw [e0]
    have hgd := readT_good hR
    rw [hR] at hrc
    have HS := Aside0.mk (fun (q : Nat × Value) (w' : World) (hq : Has w' (fun _ => True) t q) => size_calls t q w' (fun _ => True) hq (by omega))
    have HR := Aside0.mk hrc
    have HB := Aside0.mk hbo
    clear hrc hb0 hbo hR e e0 hgd
    generalize t.size = n at *
    go_enter Tryz.func84, Tryz.ntmps84
    go_wp2_with (first
      | (go_at_call 69; refine HR.out.mono ?_; rintro e w3 ⟨hb, ⟨tid, pv⟩, he, hp⟩; obtain rfl : e = .returned (.iface tid pv) := he; obtain ⟨F, hF⟩ : ∃ F, F = szF (tid, pv) := ⟨_, rfl⟩; have hm1 : ∀ w, (method 337 tid pv "numnah/rules.size").run Tryz.prog w = .ok (F, pv) w := hF ▸ meth_size hp; have hm2 : ∀ args w, (callFunc F args).run Tryz.prog w = .ok (.enter F args) w := hF ▸ enters_size hp; have HS2 := Aside0.mk (HS.out _ _ hp); rw [← hF] at HS2; have HP := Aside0.mk (And.intro hb hp); clear hF hb hp)
      | (refine HS2.out.mono ?_; rintro e w4 ⟨rfl, h4⟩; have H4 := Aside0.mk (And.intro (below_on HP.out.1 h4) (blk_below (blk_below HB.out HP.out.1) h4)); have hz0 := blk_frozen H4.out.2 0; have hd0 : w4.cell? ⟨bo, 0, none⟩ = some (.int .i64 0) := blk_cell H4.out.2 0; clear h4))
    have hf1 : But bo w (w4.setCell ⟨bo, 0, none⟩ (.int .i64 n)) := (But.of_below H4.out.1).trans (But.set _ 0 _)
    have hf2 : (w4.setCell ⟨bo, 0, none⟩ (.int .i64 n)).heap[bo]? = some (.cells #[.int .i64 n] 3 (0, 0)) := blk_setCell H4.out.2 _
    generalize (w4.setCell ⟨bo, 0, none⟩ (.int .i64 n)) = w9 at *
    simp [bodyPost, results, Tryz.results84]
    exact ⟨hf1, hf2⟩
theorem enters84 : ∀ args w, (callFunc 84 args).run Tryz.prog w = .ok (.enter 84 args) w := fun args w => enters_ Tryz.func84 (by kernel_rfl) rfl args w
set_option maxRecDepth 100000 in
set_option maxHeartbeats 1000000 in
theorem sizeX_calls (s : ByteArray) (w : World) :
    Calls Tryz.prog 35 #[.string s] w fun e w' => e = .returned (.tuple #[.int .i64 (sizeE s).2, .int .i64 (sizeE s).1]) ∧ Below w.heap.size w w' := by
  obtain ⟨r, l, hv⟩ : ∃ r l, sizeE s = (r, l) := ⟨_, _, rfl⟩
  have h1 := fun (bs : Nat → Nat) (bo : Nat) (w' : World) => size1_calls s bs bo w'
  rw [hv] at h1 ⊢
  dsimp only at h1 ⊢
  obtain ⟨w3, hw3⟩ : ∃ w3, w3 = (w.alloc (.cells #[.string s] 9)).alloc (.cells #[.int .i64 0] 3) := ⟨_, rfl⟩
  have hB3 : Below w.heap.size w w3 := by rw [hw3]; exact below_alloc (below_alloc (Below.refl _ _) _) _
  have hsz : w3.heap.size = w.heap.size + 2 := by rw [hw3]; simp
  have hk0 : w3.heap[w.heap.size + 0]? = some (.cells #[.string s] 9 (0, 0)) := by
    have h := blk_new w (.cells #[.string s] 9)
    have hs : w.heap.size = w.heap.size + 0 := by simp
    rw [hs] at h
    rw [hw3]
    exact blk_alloc h _
  have hkr : w3.heap[w.heap.size + 1]? = some (.cells #[.int .i64 0] 3 (0, 0)) := by
    have h := blk_new (w.alloc (.cells #[.string s] 9)) (.cells #[.int .i64 0] 3)
    have hs : (w.alloc (.cells #[.string s] 9)).heap.size = w.heap.size + 1 := by simp
    rw [hs] at h
    rw [hw3]
    exact h
  have hg := guard_keeps 84 enters84 #[.pointer (some ⟨w.heap.size + 0, 0, none⟩), .pointer (some ⟨w.heap.size + 1, 0, none⟩)] w3 (fun c w1 => c = r ∧ But (w.heap.size + 1) w3 w1 ∧ w1.heap[w.heap.size + 1]? = some (.cells #[.int .i64 l] 3 (0, 0))) ((h1 (fun i => w.heap.size + i) (w.heap.size + 1) (w3.alloc (.cells #[.int .i64 0] 26))  (blk_alloc hk0 _) (blk_alloc hkr _)).mono (fun e w1 hh => by
    obtain ⟨rfl, hb, hv1⟩ := hh
    have hbt : But (w.heap.size + 1) w3 w1 := (But.of_below (below_alloc (Below.refl _ _) _)).trans hb
    refine ⟨(hb.block _ (by simp) (by omega)).trans (blk_new w3 _), ?_⟩
    by_cases hr : r = 0
    · subst hr
      exact .inl ⟨rfl, rfl, hbt, hv1⟩
    · exact .inr ⟨r, endE_no hr, rfl, hbt, hv1⟩))
  have HG := Aside0.mk hg
  have HB := Aside0.mk hB3
  have HZ := Aside0.mk hsz
  simp only [Nat.add_zero] at HG
  clear hg hB3 hsz hk0 hkr h1 hv 
  subst hw3
  go_enter Tryz.func35, Tryz.ntmps35
  go_wp2_with (go_at_call 65; refine HG.out.mono ?_; rintro e w1 ⟨c, w2, rfl, ⟨rfl, hb, hv1⟩, hb2⟩; have hv2 := (hb2.block _ (Array.getElem?_eq_some_iff.1 hv1).1 (by have := HZ.out; omega)).trans hv1; have hz0 := blk_frozen hv2 0; have hd0 : w1.cell? ⟨w.heap.size + 1, 0, none⟩ = some (.int .i64 l) := blk_cell hv2 0; have HH := Aside0.mk (And.intro hb (And.intro hb2 hv2)); clear hb hb2 hv2)
  have hz := HZ.out
  have b1 := HB.out
  obtain ⟨b2, b3, hv2⟩ := HH.out
  have b4 : Below w.heap.size w w1 := (b1.trans (b2.below (Nat.le_add_right _ _) (by omega))).trans (b3.below (by omega) (by have := b2.size; omega))
  have hv9 : (w1.setCell ⟨w.heap.size + 1, 0, none⟩ (.int .i64 l)).heap[w.heap.size + 1]? = some (.cells #[.int .i64 l] 3 (0, 0)) := blk_setCell hv2 _
  have hcc : (w1.setCell ⟨w.heap.size + 1, 0, none⟩ (.int .i64 l)).cell? ⟨w.heap.size + 1, 0, none⟩ = some (.int .i64 l) := blk_cell hv9 0
  have b5 : Below w.heap.size w (w1.setCell ⟨w.heap.size + 1, 0, none⟩ (.int .i64 l)) := below_set b4 (by omega)
  generalize w1.setCell ⟨w.heap.size + 1, 0, none⟩ (.int .i64 l) = w9 at *
  simp [bodyPost, results, Tryz.results35, go_sem, hcc]
  exact b5
def rules_Size.f (a0 : ByteArray) : Option (Int × Int) := some ((sizeE a0).2, (sizeE a0).1)
theorem rules_Size.calls (a0 : ByteArray) (r0 r1 : Int) (w : World) (h : rules_Size.f a0 = some (r0, r1)) :
    Calls Tryz.prog 35 #[.string a0] w fun e w' => e = .returned (.tuple #[.int .i64 r0, .int .i64 r1]) ∧ Below w.heap.size w w' := by
  unfold rules_Size.f at h
  injection h with h
  injection h with h1 h2
  subst h1 h2
  exact sizeX_calls a0 w
end Go.Proofs.YtaafeallcaiooaaGreat.Pr
namespace Go.Proofs.YtaafeallcaiooaaGreat.Pr
open Go.RowKit Go.Maps Go.Proofs.YtaafeallcaiooaaGreatW.PrintWords Go.Proofs.YtaafeallcaiooaaGreatW.PrintLast Go.Proofs.YtaafeallcaiooaaGreatW.PrintMore
set_option linter.unusedVariables false
set_option linter.unusedSimpArgs false
theorem wrap_l (a b : Int) : wrap64 (wrap64 a + b) = wrap64 (a + b) := by unfold wrap64; omega
theorem wrap_0 (a : Int) : wrap64 (0 + wrap64 a) = wrap64 a := by rw [Int.zero_add]; unfold wrap64; omega
theorem rwLen {i : Nat} {row : List Int} (h : rowOk i row = true) : (row.length : Int) = 1 + nParts (97 + i) := by
  unfold rowOk at h
  rw [Bool.and_eq_true, decide_eq_true_eq] at h
  exact h.1
theorem isRd_shape {R : List (List Int)} (h : isRd R = true) : ∃ p0 p1 q0 q1 r0 r1 s0 s1 s2 t0 t1 t2, R = [[p0], [p1], [q0, q1], [r0, r1], [s0, s1, s2], [t0, t1, t2]] := by
  unfold isRd at h
  rw [Bool.and_eq_true, decide_eq_true_eq] at h
  obtain ⟨h6, hF⟩ := h
  match R, h6 with
  | [a, b, c, d, e, f], _ =>
    simp only [isRdF, Bool.and_eq_true] at hF
    obtain ⟨h0, h1, h2, h3, h4, h5, _⟩ := hF
    have l0 : a.length = 1 := by have := rwLen h0; unfold nParts at this; omega
    have l1 : b.length = 1 := by have := rwLen h1; unfold nParts at this; omega
    have l2 : c.length = 2 := by have := rwLen h2; unfold nParts at this; omega
    have l3 : d.length = 2 := by have := rwLen h3; unfold nParts at this; omega
    have l4 : e.length = 3 := by have := rwLen h4; unfold nParts at this; omega
    have l5 : f.length = 3 := by have := rwLen h5; unfold nParts at this; omega
    match a, l0, b, l1, c, l2, d, l3, e, l4, f, l5 with
    | [p0], _, [p1], _, [q0, q1], _, [r0, r1], _, [s0, s1, s2], _, [t0, t1, t2], _ => exact ⟨p0, p1, q0, q1, r0, r1, s0, s1, s2, t0, t1, t2, rfl⟩
/-- the memory that the last loop reads -/
def CF (w : World) (ad ad5 ad3 : Addr) (c5 c3 : Nat) (g16 g18 g20 g22 : Nat) (t0 t1 t2 r0 r1 : Int) (u v y z : Nat → Int) : Prop :=
  w.cell? ⟨ad.block, ad.off + 5, none⟩ = some (.slice (some ad5) 3 c5) ∧ w.cell? ⟨ad.block, ad.off + 3, none⟩ = some (.slice (some ad3) 2 c3) ∧ w.cell? ad5 = some (.int .i64 t0) ∧ w.cell? ⟨ad5.block, ad5.off + 1, none⟩ = some (.int .i64 t1) ∧ w.cell? ⟨ad5.block, ad5.off + 2, none⟩ = some (.int .i64 t2) ∧ w.cell? ad3 = some (.int .i64 r0) ∧ w.cell? ⟨ad3.block, ad3.off + 1, none⟩ = some (.int .i64 r1) ∧
  w.heap[g16]? = some (.cells (vals u) 25 (0, 0)) ∧ w.heap[g18]? = some (.cells (vals v) 25 (0, 0)) ∧ w.heap[g20]? = some (.cells (vals y) 25 (0, 0)) ∧ w.heap[g22]? = some (.cells (vals z) 25 (0, 0))
theorem CF.step {w w' : World} {ad ad5 ad3 : Addr} {c5 c3 g16 g18 g20 g22 : Nat} {t0 t1 t2 r0 r1 : Int} {u v y z : Nat → Int} (h : CF w ad ad5 ad3 c5 c3 g16 g18 g20 g22 t0 t1 t2 r0 r1 u v y z) (hb : Below w.heap.size w w') : CF w' ad ad5 ad3 c5 c3 g16 g18 g20 g22 t0 t1 t2 r0 r1 u v y z := by
  obtain ⟨h1, h2, h3, h4, h5, h6, h7, h8, h9, h10, h11⟩ := h
  have c := fun {p : Addr} {x : Value} (h : w.cell? p = some x) => (hb.cell (World.block_lt_of_cell? w _ h)).trans h
  exact ⟨c h1, c h2, c h3, c h4, c h5, c h6, c h7, blk_below h8 hb, blk_below h9 hb, blk_below h10 hb, blk_below h11 hb⟩
def SzI (w0 w : World) (A : Option Addr) (R : List (List Int)) : Prop := Below w0.heap.size w0 w ∧ Kd.C (Kd.slice 3 (Kd.int .i64)) w A R.length R
theorem SzI.step {w0 w w' : World} {A : Option Addr} {R : List (List Int)} (h : SzI w0 w A R) (hb : Below w.heap.size w w') : SzI w0 w' A R := ⟨below_step h.1 hb, Kd.C_below h.2 hb⟩
theorem size_text {t : Tm} (hg : t.good) (hs : t.size ≤ 60) : rules_Size.f t.text = some (t.size, 0) := by
  have h := readT_back hg hs
  unfold rules_Size.f sizeE
  rw [h]
theorem val_text {l : List (List Int)} (hl : isRd l = true) {t : Tm} (hg : t.good) (hs : t.size ≤ 12) : rules_Value.f l t.text = some (ofT l t 0, ofT l t 1, ofT l t 2, ofT l t 3, 0) := by
  have h := readT_back hg (show t.size ≤ 60 by omega)
  unfold rules_Value.f valT
  rw [if_pos hl, h]
  dsimp only
  rw [if_pos hs]
theorem awake_ok (w : World) : Calls Tryz.prog 24 #[] w fun e w' => e = .returned (.bool true) ∧ Below w.heap.size w w' := numnahlaw08_awake.calls 20 true w awake_true
theorem two_n {u v y : Nat → Int} {t0 t1 t2 : Int} (h : ∀ n, y n = wrap64 (wrap64 ((if n = 0 then t0 else 0) + wrap64 (t1 * u n)) + wrap64 (t2 * v n))) : y 0 = wrap64 (wrap64 (wrap64 (t1 * u 0) + wrap64 (t2 * v 0)) + t0) ∧ ∀ n, n ≠ 0 → y n = wrap64 (wrap64 (t1 * u n) + wrap64 (t2 * v n)) := by
  constructor
  · rw [h 0, if_pos rfl, wrap_l, wrap_l]
    congr 1
    omega
  · intro n hn
    rw [h n, if_neg hn, wrap_0]
theorem one_n {u z : Nat → Int} {r0 r1 : Int} (h : ∀ n, z n = wrap64 ((if n = 0 then r0 else 0) + wrap64 (r1 * u n))) : z 0 = wrap64 (wrap64 (r1 * u 0) + r0) ∧ ∀ n, n ≠ 0 → z n = wrap64 (r1 * u n) := by
  constructor
  · rw [h 0, if_pos rfl, Int.add_comm]
  · intro n hn
    rw [h n, if_neg hn, wrap_0]
set_option maxRecDepth 100000 in
set_option maxHeartbeats 8000000 in
theorem sized_calls (a0 a1 : ByteArray) (l1 : List Int) (A1 : Option Addr) (c1 : Nat) (w : World) (ha0 : a0.size ≤ 9223372036854775807) (ha1 : a1.size ≤ 9223372036854775807) (hll : l1.length ≤ 9223372036854775807) (hr : Kd.C (Kd.int .i64) w A1 l1.length l1) (hc : l1.length ≤ c1) :
    Calls Tryz.prog 5 #[.agg #[.string a0, .string a1], .slice A1 l1.length c1] w fun e w' => e = .returned (.bool true) ∧ Below w.heap.size w w' := by
  have g0 := gT_spec a0 5 ha0 (by omega) (by omega)
  have g1 := gT_spec a1 5 ha1 (by omega) (by omega)
  have HC0 := Aside0.mk (gT_calls a0 5 ha0 (by omega) (by omega))
  have HC1 := Aside0.mk (gT_calls a1 5 ha1 (by omega) (by omega))
  obtain ⟨T0, hT0⟩ : ∃ t, t = gT a0 5 := ⟨_, rfl⟩
  obtain ⟨T1, hT1⟩ : ∃ t, t = gT a1 5 := ⟨_, rfl⟩
  rw [← hT0] at g0 HC0
  rw [← hT1] at g1 HC1
  obtain ⟨_, d0, z0⟩ := g0
  obtain ⟨_, d1, z1⟩ := g1
  have p0 := Tm.size_pos T0
  have p1 := Tm.size_pos T1
  obtain ⟨R, hR, hE⟩ := readingE l1 hll
  obtain ⟨kR, hkR⟩ := hE.ex
  have HRD := Aside0.mk (fun (w' : World) (hr' : Kd.C (Kd.int .i64) w' A1 l1.length l1) => numnahlaw08_reading.calls kR A1 c1 l1 R w' hr' hc hkR)
  have HR := Aside0.mk hr
  have x0 := text_le (t := T0) (by omega)
  have x1 := text_le (t := T1) (by omega)
  have k2 := app2_good (c := 102) (.inr rfl) d0 d1
  have k1 := app1_good (c := 100) (.inr rfl) d0
  have s2 := size2 102 T0 T1
  have s1 := size1 100 T0
  have e2 := text2' 102 T0 T1
  have e1 := text1' 100 T0
  rw [show (((102 : UInt8).toNat : Nat) : Int) = 102 from rfl] at e2
  rw [show (((100 : UInt8).toNat : Nat) : Int) = 100 from rfl] at e1
  have HS0 := Aside0.mk (fun w => rules_Size.calls _ _ _ w (size_text d0 (show T0.size ≤ 60 by omega)))
  have HS1 := Aside0.mk (fun w => rules_Size.calls _ _ _ w (size_text d1 (show T1.size ≤ 60 by omega)))
  have HS2 := Aside0.mk (fun w => rules_Size.calls _ _ _ w (size_text k2 (by omega)))
  have HS3 := Aside0.mk (fun w => rules_Size.calls _ _ _ w (size_text k1 (by omega)))
  have HV0 := Aside0.mk (fun (A : Option Addr) (c : Nat) (w : World) hC hc => rules_Value.calls A c R _ _ _ _ _ _ w hC hc (val_text hR d0 (by omega)))
  have HV1 := Aside0.mk (fun (A : Option Addr) (c : Nat) (w : World) hC hc => rules_Value.calls A c R _ _ _ _ _ _ w hC hc (val_text hR d1 (by omega)))
  have HV2 := Aside0.mk (fun (A : Option Addr) (c : Nat) (w : World) hC hc => rules_Value.calls A c R _ _ _ _ _ _ w hC hc (val_text hR k2 (by omega)))
  have HV3 := Aside0.mk (fun (A : Option Addr) (c : Nat) (w : World) hC hc => rules_Value.calls A c R _ _ _ _ _ _ w hC hc (val_text hR k1 (by omega)))
  rw [← e2] at HS2 HV2
  rw [← e1] at HS3 HV3
  rw [s2] at HS2
  rw [s1] at HS3
  obtain ⟨p0_, p1_, q0_, q1_, r0, r1, s0_, s1_, s2_, t0, t1, t2, hRe⟩ := isRd_shape hR
  have hy : ∀ n, ofT R (.app 102 [T0, T1]) n = wrap64 (wrap64 ((if n = 0 then t0 else 0) + wrap64 (t1 * ofT R T0 n)) + wrap64 (t2 * ofT R T1 n)) := fun n => by
    rw [ofT, ofL, ofL, ofL]
    rw [show rowAt R 102 = [t0, t1, t2] by rw [hRe]; rfl]
    rfl
  have hz : ∀ n, ofT R (.app 100 [T0]) n = wrap64 ((if n = 0 then r0 else 0) + wrap64 (r1 * ofT R T0 n)) := fun n => by
    rw [ofT, ofL, ofL]
    rw [show rowAt R 100 = [r0, r1] by rw [hRe]; rfl]
    rfl
  generalize ofT R (.app 102 [T0, T1]) = y at *
  generalize ofT R (.app 100 [T0]) = z at *
  generalize ofT R T0 = u at *
  generalize ofT R T1 = v at *
  have HY := Aside0.mk (And.intro (two_n hy) (one_n hz))
  have HRE := Aside0.mk hRe
  obtain ⟨n0, hn0⟩ : ∃ n, n = T0.size := ⟨_, rfl⟩
  obtain ⟨n1, hn1⟩ : ∃ n, n = T1.size := ⟨_, rfl⟩
  obtain ⟨b0, hb0⟩ : ∃ n, n = T0.text := ⟨_, rfl⟩
  obtain ⟨b1, hb1⟩ : ∃ n, n = T1.text := ⟨_, rfl⟩
  rw [← hn0] at HS0 HS2 HS3
  rw [← hn1] at HS1 HS2
  rw [← hb0] at HC0 HS0 HS2 HS3 HV0 HV2 HV3
  rw [← hb1] at HC1 HS1 HS2 HV1 HV2
  have HN : Aside0 (wrap64 (1 + n0) = 1 + n0 ∧ wrap64 (1 + n0 + n1) = 1 + n0 + n1) := ⟨wrS (by omega) (by omega), wrS (by omega) (by omega)⟩
  rw [← hb0] at x0
  rw [← hb1] at x1
  have HX : Aside0 (b0.size ≤ 4000 ∧ b1.size ≤ 4000) := ⟨x0, x1⟩
  clear hb0 hb1 hn0 hn1 hRe hy hz e1 e2 s1 s2 k1 k2 x0 x1 hr hE hkR hR p0 p1 d0 d1 z0 z1 hT0 hT1 ha0 ha1 hll hc
  go_enter Tryz.func5, Tryz.ntmps5
  go_wp2
  obtain ⟨gb, hgb⟩ : ∃ g, g = w.heap.size := ⟨_, rfl⟩
  obtain ⟨w1, hw1⟩ : ∃ W, W = w.alloc (.cells #[.string a0, .string a1] 42) := ⟨_, rfl⟩
  have H1 : Aside0 (Below w.heap.size w w1 ∧ w1.heap[gb]? = some (.cells #[.string a0, .string a1] 42 (0, 0))) := ⟨by rw [hw1]; exact below_alloc (Below.refl _ _) _, by rw [hw1, hgb]; exact blk_new w _⟩
  rw [← hgb, ← hw1]
  clear hgb hw1
  have hy0 : w1.drew.cell? ⟨gb, 0, none⟩ = some (.string a0) := blk_cell (blk_drew H1.out.2) 0
  have hy1 : w1.drew.cell? ⟨gb, 1, none⟩ = some (.string a1) := blk_cell (blk_drew H1.out.2) 1
  refine start_ (n := 8) (S := fun w' => w'.cell? ⟨gb, 0, none⟩ = some (.string a0) ∧ w'.cell? ⟨gb, 1, none⟩ = some (.string a1)) (ds := []) (bm 8 0) (by kernel_rfl) rfl rfl ⟨hy0, hy1⟩ (fun hHeld => ?_)
  refine pure_ (i := 0) (N := some 27) (bm 8 1) rfl rfl (by kernel_rfl) (fun _ _ _ h => h) (.inl ⟨rfl, tY_⟩) tP_ ?_
  refine pure_ (i := 3) (N := some 30) (bm 8 9) rfl rfl (by kernel_rfl) (fun _ _ _ h => h) (.inl ⟨rfl, tY_⟩) tP_ ?_
  refine take_ (i := 1) (N := some 28) (v := ?_) (a' := ?_) (bm 8 11) rfl rfl (by kernel_rfl) (fun _ _ _ h => h) (Or.inl ⟨by rfl, ?_⟩) hHeld ?_ ?_; rotate_left; (rintro w' ⟨s0, s1⟩; go_simp; with_reducible rfl); rotate_left; exact tP_
  refine take_ (i := 4) (N := some 31) (v := ?_) (a' := ?_) (bm 8 27) rfl rfl (by kernel_rfl) (fun _ _ _ h => h) (Or.inl ⟨by rfl, ?_⟩) hHeld ?_ ?_; rotate_left; (rintro w' ⟨s0, s1⟩; go_simp; with_reducible rfl); rotate_left; exact tP_
  refine one_ (i := 2) (N := some 29) (bm 8 31) rfl rfl (by kernel_rfl) (by decide) (fun K hK => ?_)
  refine goesD_ Tryz.func33 (by kernel_rfl) rfl #[.string a0, .int .i64 5] (by rfl) rfl rfl (by simp only [List.map_toArray, List.map_cons, List.map_nil]; rfl) ?_
  refine (HC0.out _).mono ?_
  rintro e w2 ⟨rfl, hbw2⟩
  refine .inl ⟨_, rfl, ?_⟩
  have hp0 : w2.cell? ⟨gb, 0, none⟩ = some (.string a0) := (hbw2.cell (World.block_lt_of_cell? _ _ hy0)).trans hy0
  have hp1 : w2.cell? ⟨gb, 1, none⟩ = some (.string a1) := (hbw2.cell (World.block_lt_of_cell? _ _ hy1)).trans hy1
  refine hK.out _ _ ⟨hp0, hp1⟩ (fun hHeld => ?_)
  clear hK K
  refine norm_ (a' := ?_) ?_ ?_; rotate_left; (show Act.put _ (some 29) _ = _; exact tP_)
  refine one_ (i := 5) (N := some 32) (bm 8 63) rfl rfl (by kernel_rfl) (by decide) (fun K hK => ?_)
  refine goesD_ Tryz.func33 (by kernel_rfl) rfl #[.string a1, .int .i64 5] (by rfl) rfl rfl (by simp only [List.map_toArray, List.map_cons, List.map_nil]; rfl) ?_
  refine (HC1.out _).mono ?_
  rintro e w3 ⟨rfl, hbw3⟩
  refine .inl ⟨_, rfl, ?_⟩
  have hq0 : w3.cell? ⟨gb, 0, none⟩ = some (.string a0) := (hbw3.cell (World.block_lt_of_cell? _ _ hp0)).trans hp0
  have hq1 : w3.cell? ⟨gb, 1, none⟩ = some (.string a1) := (hbw3.cell (World.block_lt_of_cell? _ _ hp1)).trans hp1
  refine hK.out _ _ ⟨hq0, hq1⟩ (fun hHeld => ?_)
  clear hK K
  refine norm_ (a' := ?_) ?_ ?_; rotate_left; (show Act.put _ (some 32) _ = _; exact tP_)
  refine pure_ (i := 6) (N := some 5) (bm 8 127) rfl rfl (by kernel_rfl) (fun _ _ _ h => h) (.inl ⟨rfl, tY_⟩) tP_ ?_
  refine pure_ (i := 7) (N := some 6) (bm 8 255) rfl rfl (by kernel_rfl) (fun _ _ _ h => h) (.inl ⟨rfl, tY_⟩) tP_ ?_
  refine done_ (by kernel_rfl) ?_
  have H3 := Aside0.mk (below_step (below_step (below_step H1.out.1 (pw_below_drewN (Below.refl _ _) 1)) hbw2) hbw3)
  clear H1 hbw2 hbw3 hy0 hy1 hp0 hp1 hq0 hq1
  go_upto_region 3 with (go_at_call 34; refine (HRD.out _ (Kd.C_below HR.out H3.out)).mono ?_; rintro e w4 ⟨v7, rfl, hS, hb4⟩; obtain ⟨A7, c7, rfl⟩ := Kd.S_slice hS; have H4 : Aside0 (SzI w w4 A7 R ∧ R.length ≤ c7) := ⟨⟨below_step H3.out hb4, (Kd.S_reads' hS).2.2⟩, (Kd.S_reads' hS).2.1⟩; clear hS hb4)
  clear H3 HR HRD HC0 HC1
  go_upto_region 4 with (go_at_call 35; refine (HS0.out _).mono ?_; rintro e w5 ⟨rfl, hb⟩; have H5 := Aside0.mk (SzI.step H4.out.1 hb); clear hb)
  go_upto_region 5 with (go_at_call 35; refine (HS1.out _).mono ?_; rintro e w6 ⟨rfl, hb⟩; have H6 := Aside0.mk (SzI.step H5.out hb); clear hb)
  have hk0 : (9223372036854775807 < 2 + b0.size) = False := eq_false (by have := HX.out; omega)
  have hk1 : (9223372036854775807 < 2 + b0.size + 1) = False := eq_false (by have := HX.out; omega)
  have hk2 : (9223372036854775807 < 2 + b0.size + 1 + b1.size) = False := eq_false (by have := HX.out; omega)
  have hk3 : (9223372036854775807 < 2 + b0.size + 1 + b1.size + 1) = False := eq_false (by have := HX.out; omega)
  go_upto_region 6 with (go_at_call 35; refine (HS2.out _).mono ?_; rintro e w7 ⟨rfl, hb⟩; have H7 := Aside0.mk (SzI.step H6.out hb); clear hb)
  go_upto_region 7 with (go_at_call 35; refine (HS3.out _).mono ?_; rintro e w8 ⟨rfl, hb⟩; have H8 := Aside0.mk (SzI.step H7.out hb); clear hb)
  clear H5 H6 H7 HS0 HS1 HS2 HS3
  go_upto_region 8 with (go_at_call 22; refine (HV0.out _ _ _ H8.out.2 H4.out.2).mono ?_; rintro e wa0 ⟨rfl, hb⟩; have HA0 := Aside0.mk hb; clear hb)
  obtain ⟨g16, hg16⟩ : ∃ g, g = wa0.heap.size := ⟨_, rfl⟩
  obtain ⟨wb0, hwb0⟩ : ∃ W, W = wa0.alloc (.cells #[.int .i64 (u 0), .int .i64 (u 1), .int .i64 (u 2), .int .i64 (u 3)] 25) := ⟨_, rfl⟩
  have hbb0 : Below wa0.heap.size wa0 wb0 := by rw [hwb0]; exact below_alloc (Below.refl _ _) _
  have HB0 : Aside0 (SzI w wb0 A7 R ∧ wb0.heap[g16]? = some (.cells (vals u) 25 (0, 0))) := ⟨SzI.step (SzI.step H8.out HA0.out) hbb0, by rw [hwb0, hg16]; exact blk_new _ _⟩
  rw [← hg16, ← hwb0]
  clear hwb0 hg16 hbb0 HA0 H8 HV0
  go_upto_region 9 with (go_at_call 22; refine (HV1.out _ _ _ HB0.out.1.2 H4.out.2).mono ?_; rintro e wa1 ⟨rfl, hb⟩; have HA1 := Aside0.mk hb; clear hb)
  obtain ⟨g18, hg18⟩ : ∃ g, g = wa1.heap.size := ⟨_, rfl⟩
  obtain ⟨wb1, hwb1⟩ : ∃ W, W = wa1.alloc (.cells #[.int .i64 (v 0), .int .i64 (v 1), .int .i64 (v 2), .int .i64 (v 3)] 25) := ⟨_, rfl⟩
  have hbb1 : Below wa1.heap.size wa1 wb1 := by rw [hwb1]; exact below_alloc (Below.refl _ _) _
  have HB1 : Aside0 (SzI w wb1 A7 R ∧ wb1.heap[g16]? = some (.cells (vals u) 25 (0, 0)) ∧ wb1.heap[g18]? = some (.cells (vals v) 25 (0, 0))) := ⟨SzI.step (SzI.step HB0.out.1 HA1.out) hbb1, blk_below (blk_below HB0.out.2 HA1.out) hbb1, by rw [hwb1, hg18]; exact blk_new _ _⟩
  rw [← hg18, ← hwb1]
  clear hwb1 hg18 hbb1 HA1 HB0 HV1
  go_upto_region 10 with (go_at_call 22; refine (HV2.out _ _ _ HB1.out.1.2 H4.out.2).mono ?_; rintro e wa2 ⟨rfl, hb⟩; have HA2 := Aside0.mk hb; clear hb)
  obtain ⟨g20, hg20⟩ : ∃ g, g = wa2.heap.size := ⟨_, rfl⟩
  obtain ⟨wb2, hwb2⟩ : ∃ W, W = wa2.alloc (.cells #[.int .i64 (y 0), .int .i64 (y 1), .int .i64 (y 2), .int .i64 (y 3)] 25) := ⟨_, rfl⟩
  have hbb2 : Below wa2.heap.size wa2 wb2 := by rw [hwb2]; exact below_alloc (Below.refl _ _) _
  have HB2 : Aside0 (SzI w wb2 A7 R ∧ wb2.heap[g16]? = some (.cells (vals u) 25 (0, 0)) ∧ wb2.heap[g18]? = some (.cells (vals v) 25 (0, 0)) ∧ wb2.heap[g20]? = some (.cells (vals y) 25 (0, 0))) := ⟨SzI.step (SzI.step HB1.out.1 HA2.out) hbb2, blk_below (blk_below HB1.out.2.1 HA2.out) hbb2, blk_below (blk_below HB1.out.2.2 HA2.out) hbb2, by rw [hwb2, hg20]; exact blk_new _ _⟩
  rw [← hg20, ← hwb2]
  clear hwb2 hg20 hbb2 HA2 HB1 HV2
  go_upto_region 11 with (go_at_call 22; refine (HV3.out _ _ _ HB2.out.1.2 H4.out.2).mono ?_; rintro e wa3 ⟨rfl, hb⟩; have HA3 := Aside0.mk hb; clear hb)
  obtain ⟨g22, hg22⟩ : ∃ g, g = wa3.heap.size := ⟨_, rfl⟩
  obtain ⟨wb3, hwb3⟩ : ∃ W, W = wa3.alloc (.cells #[.int .i64 (z 0), .int .i64 (z 1), .int .i64 (z 2), .int .i64 (z 3)] 25) := ⟨_, rfl⟩
  have hbb3 : Below wa3.heap.size wa3 wb3 := by rw [hwb3]; exact below_alloc (Below.refl _ _) _
  have HB3 : Aside0 (SzI w wb3 A7 R ∧ wb3.heap[g16]? = some (.cells (vals u) 25 (0, 0)) ∧ wb3.heap[g18]? = some (.cells (vals v) 25 (0, 0)) ∧ wb3.heap[g20]? = some (.cells (vals y) 25 (0, 0)) ∧ wb3.heap[g22]? = some (.cells (vals z) 25 (0, 0))) := ⟨SzI.step (SzI.step HB2.out.1 HA3.out) hbb3, blk_below (blk_below HB2.out.2.1 HA3.out) hbb3, blk_below (blk_below HB2.out.2.2.1 HA3.out) hbb3, blk_below (blk_below HB2.out.2.2.2 HA3.out) hbb3, by rw [hwb3, hg22]; exact blk_new _ _⟩
  rw [← hg22, ← hwb3]
  clear hwb3 hg22 hbb3 HA3 HB2 HV3
  obtain ⟨ad, A5, c5, hA, h5, hl5, hC5⟩ := at_L1 HB3.out.1.2 5 (by omega) (by rw [HRE.out]; show (5 : Int) < 6; omega)
  obtain ⟨ad2, A3, c3, hA2, h3, hl3, hC3⟩ := at_L1 HB3.out.1.2 3 (by omega) (by rw [HRE.out]; show (3 : Int) < 6; omega)
  obtain rfl : ad = ad2 := Option.some.inj (hA.symm.trans hA2)
  have e5 : rd_L1 R 5 = [t0, t1, t2] := by rw [HRE.out]; rfl
  have e3 : rd_L1 R 3 = [r0, r1] := by rw [HRE.out]; rfl
  rw [e5] at h5 hC5
  rw [e3] at h3 hC3
  obtain ⟨ad5, rfl, i50⟩ := Kd.at_int hC5 0 (by omega) (by show (0 : Int) < 3; omega)
  obtain ⟨ad5b, q5b, i51⟩ := Kd.at_int hC5 1 (by omega) (by show (1 : Int) < 3; omega)
  obtain ⟨ad5c, q5c, i52⟩ := Kd.at_int hC5 2 (by omega) (by show (2 : Int) < 3; omega)
  obtain rfl : ad5 = ad5b := Option.some.inj q5b
  obtain rfl : ad5 = ad5c := Option.some.inj q5c
  obtain ⟨ad3, rfl, i30⟩ := Kd.at_int hC3 0 (by omega) (by show (0 : Int) < 2; omega)
  obtain ⟨ad3b, q3b, i31⟩ := Kd.at_int hC3 1 (by omega) (by show (1 : Int) < 2; omega)
  obtain rfl : ad3 = ad3b := Option.some.inj q3b
  have av : ∀ (a : Addr) (k : Nat), k ≠ 0 → a.add k = ⟨a.block, a.off + k, none⟩ := fun a k hk => by unfold Addr.add; rw [if_neg hk]
  rw [show (5 : Int).toNat = 5 from rfl, av _ _ (by decide)] at h5
  rw [show (3 : Int).toNat = 3 from rfl, av _ _ (by decide)] at h3
  rw [show (0 : Int).toNat = 0 from rfl, Addr.add_zero'] at i50 i30
  rw [show (1 : Int).toNat = 1 from rfl, av _ _ (by decide)] at i51 i31
  rw [show (2 : Int).toNat = 2 from rfl, av _ _ (by decide)] at i52
  subst hA
  have HF : Aside0 (Below w.heap.size w wb3 ∧ CF wb3 ad ad5 ad3 c5 c3 g16 g18 g20 g22 t0 t1 t2 r0 r1 u v y z) := ⟨HB3.out.1.1, h5, h3, i50, i51, i52, i30, i31, HB3.out.2.1, HB3.out.2.2.1, HB3.out.2.2.2.1, HB3.out.2.2.2.2⟩
  have hR6 : R.length = 6 := by rw [HRE.out]; rfl
  clear h5 h3 i50 i51 i52 i30 i31 hC5 hC3 hl5 hl3 q5b q5c q3b hA2 e5 e3 av HB3 H4 hk0 hk1 hk2 hk3 HX HRE
  obtain ⟨hn0, hn1⟩ := HN.out
  go_wp2
  clear hn0 hn1 HN
  go_loopw [24] (fun v24 wr => ∃ n : Int, v24 = .int .i64 n ∧ Aside0 (n = 0 ∨ n = 1 ∨ n = 2 ∨ n = 3 ∨ n = 4) ∧ Aside0 (Below w.heap.size w wr ∧ CF wr ad ad5 ad3 c5 c3 g16 g18 g20 g22 t0 t1 t2 r0 r1 u v y z)) (fun v24 _ => 4 - (intOf v24).toNat)
  case atStart => exact ⟨0, rfl, ⟨.inl rfl⟩, HF⟩
  case round =>
    clear HF
    obtain ⟨n, rfl, HI, HS⟩ := hrel
    rcases HI.out with rfl | rfl | rfl | rfl | rfl <;> clear HI
    · go_wp2
      have HD := Aside0.mk (And.intro (below_step HS.out.1 (pw_below_drewN (Below.refl _ _) 1)) (CF.step HS.out.2 (pw_below_drewN (Below.refl _ _) 1)))
      obtain ⟨f1, f2, f3, f4, f5, f6, f7, f8, f9, f10, f11⟩ := HD.out.2
      have hgu : wr.drew.cell? ⟨g16, 0, none⟩ = some (.int .i64 (u 0)) := blk_cell f8 0
      have hgv : wr.drew.cell? ⟨g18, 0, none⟩ = some (.int .i64 (v 0)) := blk_cell f9 0
      have hgy : wr.drew.cell? ⟨g20, 0, none⟩ = some (.int .i64 (y 0)) := blk_cell f10 0
      have hgz : wr.drew.cell? ⟨g22, 0, none⟩ = some (.int .i64 (z 0)) := blk_cell f11 0
      refine start_ (n := 30) (S := fun w' => w'.cell? ⟨ad.block, ad.off + 5, none⟩ = some (.slice (some ad5) 3 c5) ∧ w'.cell? ⟨ad.block, ad.off + 3, none⟩ = some (.slice (some ad3) 2 c3) ∧ w'.cell? ⟨ad5.block, ad5.off + 1, none⟩ = some (.int .i64 t1) ∧ w'.cell? ⟨ad5.block, ad5.off + 2, none⟩ = some (.int .i64 t2) ∧ w'.cell? ⟨ad3.block, ad3.off + 1, none⟩ = some (.int .i64 r1) ∧ w'.cell? ⟨g16, 0, none⟩ = some (.int .i64 (u 0)) ∧ w'.cell? ⟨g18, 0, none⟩ = some (.int .i64 (v 0))) (ds := []) (bm 30 0) (by kernel_rfl) rfl rfl ⟨f1, f2, f4, f5, f7, hgu, hgv⟩ (fun hHeld => ?_)
      refine pure_ (i := 0) (N := some 141) (bm 30 1) rfl rfl (by kernel_rfl) (fun _ _ _ h => h) (.inl ⟨rfl, tY_⟩) tP_ ?_
      refine pure_ (i := 1) (N := some 142) (bm 30 3) rfl rfl (by kernel_rfl) (fun _ _ _ h => h) (.inl ⟨rfl, tY_⟩) tP_ ?_
      refine pure_ (i := 5) (N := some 146) (bm 30 35) rfl rfl (by kernel_rfl) (fun _ _ _ h => h) (.inl ⟨rfl, tY_⟩) tP_ ?_
      refine pure_ (i := 6) (N := some 147) (bm 30 99) rfl rfl (by kernel_rfl) (fun _ _ _ h => h) (.inl ⟨rfl, tY_⟩) tP_ ?_
      refine pure_ (i := 9) (N := some 150) (bm 30 611) rfl rfl (by kernel_rfl) (fun _ _ _ h => h) (.inl ⟨rfl, tY_⟩) tP_ ?_
      refine pure_ (i := 10) (N := some 151) (bm 30 1635) rfl rfl (by kernel_rfl) (fun _ _ _ h => h) (.inl ⟨rfl, tY_⟩) tP_ ?_
      refine pure_ (i := 14) (N := some 155) (bm 30 18019) rfl rfl (by kernel_rfl) (fun _ _ _ h => h) (.inl ⟨rfl, tY_⟩) tP_ ?_
      refine pure_ (i := 15) (N := some 156) (bm 30 50787) rfl rfl (by kernel_rfl) (fun _ _ _ h => h) (.inl ⟨rfl, tY_⟩) tP_ ?_
      refine pure_ (i := 19) (N := some 160) (bm 30 575075) rfl rfl (by kernel_rfl) (fun _ _ _ h => h) (.inl ⟨rfl, tY_⟩) tP_ ?_
      refine pure_ (i := 20) (N := some 161) (bm 30 1623651) rfl rfl (by kernel_rfl) (fun _ _ _ h => h) (.inl ⟨rfl, tY_⟩) tP_ ?_
      refine pure_ (i := 24) (N := some 165) (bm 30 18400867) rfl rfl (by kernel_rfl) (fun _ _ _ h => h) (.inl ⟨rfl, tY_⟩) tP_ ?_
      refine pure_ (i := 25) (N := some 166) (bm 30 51955299) rfl rfl (by kernel_rfl) (fun _ _ _ h => h) (.inl ⟨rfl, tY_⟩) tP_ ?_
      refine take_ (i := 2) (N := some 143) (v := ?_) (a' := ?_) (bm 30 51955303) rfl rfl (by kernel_rfl) (fun _ _ _ h => h) (Or.inl ⟨by rfl, ?_⟩) hHeld ?_ ?_; rotate_left; (rintro w' ⟨s0, s1, s2, s3, s4, s5, s6⟩; go_simp; with_reducible rfl); rotate_left; exact tP_
      refine pure_ (i := 3) (N := some 144) (bm 30 51955311) rfl rfl (by kernel_rfl) (fun _ _ _ h => h) (.inl ⟨rfl, tY_⟩) tP_ ?_
      refine take_ (i := 4) (N := some 145) (v := ?_) (a' := ?_) (bm 30 51955327) rfl rfl (by kernel_rfl) (fun _ _ _ h => h) (Or.inl ⟨by rfl, ?_⟩) hHeld ?_ ?_; rotate_left; (rintro w' ⟨s0, s1, s2, s3, s4, s5, s6⟩; go_simp; with_reducible rfl); rotate_left; exact tP_
      refine take_ (i := 7) (N := some 148) (v := ?_) (a' := ?_) (bm 30 51955455) rfl rfl (by kernel_rfl) (fun _ _ _ h => h) (Or.inl ⟨by rfl, ?_⟩) hHeld ?_ ?_; rotate_left; (rintro w' ⟨s0, s1, s2, s3, s4, s5, s6⟩; go_simp; with_reducible rfl); rotate_left; exact tP_
      refine pure_ (i := 8) (N := some 149) (bm 30 51955711) rfl rfl (by kernel_rfl) (fun _ _ _ h => h) (.inl ⟨rfl, tY_⟩) tP_ ?_
      refine take_ (i := 11) (N := some 152) (v := ?_) (a' := ?_) (bm 30 51957759) rfl rfl (by kernel_rfl) (fun _ _ _ h => h) (Or.inl ⟨by rfl, ?_⟩) hHeld ?_ ?_; rotate_left; (rintro w' ⟨s0, s1, s2, s3, s4, s5, s6⟩; go_simp; with_reducible rfl); rotate_left; exact tP_
      refine pure_ (i := 12) (N := some 153) (bm 30 51961855) rfl rfl (by kernel_rfl) (fun _ _ _ h => h) (.inl ⟨rfl, tY_⟩) tP_ ?_
      refine take_ (i := 13) (N := some 154) (v := ?_) (a' := ?_) (bm 30 51970047) rfl rfl (by kernel_rfl) (fun _ _ _ h => h) (Or.inl ⟨by rfl, ?_⟩) hHeld ?_ ?_; rotate_left; (rintro w' ⟨s0, s1, s2, s3, s4, s5, s6⟩; go_simp; with_reducible rfl); rotate_left; exact tP_
      refine take_ (i := 16) (N := some 157) (v := ?_) (a' := ?_) (bm 30 52035583) rfl rfl (by kernel_rfl) (fun _ _ _ h => h) (Or.inl ⟨by rfl, ?_⟩) hHeld ?_ ?_; rotate_left; (rintro w' ⟨s0, s1, s2, s3, s4, s5, s6⟩; go_simp; with_reducible rfl); rotate_left; exact tP_
      refine pure_ (i := 17) (N := some 158) (bm 30 52166655) rfl rfl (by kernel_rfl) (fun _ _ _ h => h) (.inl ⟨rfl, tY_⟩) tP_ ?_
      refine pure_ (i := 18) (N := some 159) (bm 30 52428799) rfl rfl (by kernel_rfl) (fun _ _ _ h => h) (.inl ⟨rfl, tY_⟩) tP_ ?_
      refine pure_ (i := 28) (N := some 25) (bm 30 320864255) rfl rfl (by kernel_rfl) (fun _ _ _ h => h) (.inl ⟨rfl, tY_⟩) tP_ ?_
      refine take_ (i := 21) (N := some 162) (v := ?_) (a' := ?_) (bm 30 322961407) rfl rfl (by kernel_rfl) (fun _ _ _ h => h) (Or.inl ⟨by rfl, ?_⟩) hHeld ?_ ?_; rotate_left; (rintro w' ⟨s0, s1, s2, s3, s4, s5, s6⟩; go_simp; with_reducible rfl); rotate_left; exact tP_
      refine pure_ (i := 22) (N := some 163) (bm 30 327155711) rfl rfl (by kernel_rfl) (fun _ _ _ h => h) (.inl ⟨rfl, tY_⟩) tP_ ?_
      refine take_ (i := 23) (N := some 164) (v := ?_) (a' := ?_) (bm 30 335544319) rfl rfl (by kernel_rfl) (fun _ _ _ h => h) (Or.inl ⟨by rfl, ?_⟩) hHeld ?_ ?_; rotate_left; (rintro w' ⟨s0, s1, s2, s3, s4, s5, s6⟩; go_simp; with_reducible rfl); rotate_left; exact tP_
      refine take_ (i := 26) (N := some 167) (v := ?_) (a' := ?_) (bm 30 402653183) rfl rfl (by kernel_rfl) (fun _ _ _ h => h) (Or.inl ⟨by rfl, ?_⟩) hHeld ?_ ?_; rotate_left; (rintro w' ⟨s0, s1, s2, s3, s4, s5, s6⟩; go_simp; with_reducible rfl); rotate_left; exact tP_
      refine pure_ (i := 27) (N := some 168) (bm 30 536870911) rfl rfl (by kernel_rfl) (fun _ _ _ h => h) (.inl ⟨rfl, tY_⟩) tP_ ?_
      refine pure_ (i := 29) (N := some 26) (bm 30 1073741823) rfl rfl (by kernel_rfl) (fun _ _ _ h => h) (.inl ⟨rfl, tY_⟩) tP_ ?_
      refine done_ (by kernel_rfl) ?_
      have hyn := HY.out.1.1
      have hzn := HY.out.2.1
      replace f1 : wr.drew.cell? ⟨ad.block, ad.off + 5, none⟩ = some (.slice (some ad5) 3 c5) := f1
      replace f2 : wr.drew.cell? ⟨ad.block, ad.off + 3, none⟩ = some (.slice (some ad3) 2 c3) := f2
      replace f3 : wr.drew.cell? ad5 = some (.int .i64 t0) := f3
      replace f6 : wr.drew.cell? ad3 = some (.int .i64 r0) := f6
      go_wp2
      clear hyn hzn
      refine ⟨⟨1, rfl, ⟨.inr (.inl rfl)⟩, ⟨HD.out.1, HD.out.2⟩⟩, by simp only [intOf]; omega⟩
    · go_wp2
      have HD := Aside0.mk (And.intro (below_step HS.out.1 (pw_below_drewN (Below.refl _ _) 1)) (CF.step HS.out.2 (pw_below_drewN (Below.refl _ _) 1)))
      obtain ⟨f1, f2, f3, f4, f5, f6, f7, f8, f9, f10, f11⟩ := HD.out.2
      have hgu : wr.drew.cell? ⟨g16, 1, none⟩ = some (.int .i64 (u 1)) := blk_cell f8 1
      have hgv : wr.drew.cell? ⟨g18, 1, none⟩ = some (.int .i64 (v 1)) := blk_cell f9 1
      have hgy : wr.drew.cell? ⟨g20, 1, none⟩ = some (.int .i64 (y 1)) := blk_cell f10 1
      have hgz : wr.drew.cell? ⟨g22, 1, none⟩ = some (.int .i64 (z 1)) := blk_cell f11 1
      refine start_ (n := 30) (S := fun w' => w'.cell? ⟨ad.block, ad.off + 5, none⟩ = some (.slice (some ad5) 3 c5) ∧ w'.cell? ⟨ad.block, ad.off + 3, none⟩ = some (.slice (some ad3) 2 c3) ∧ w'.cell? ⟨ad5.block, ad5.off + 1, none⟩ = some (.int .i64 t1) ∧ w'.cell? ⟨ad5.block, ad5.off + 2, none⟩ = some (.int .i64 t2) ∧ w'.cell? ⟨ad3.block, ad3.off + 1, none⟩ = some (.int .i64 r1) ∧ w'.cell? ⟨g16, 1, none⟩ = some (.int .i64 (u 1)) ∧ w'.cell? ⟨g18, 1, none⟩ = some (.int .i64 (v 1))) (ds := []) (bm 30 0) (by kernel_rfl) rfl rfl ⟨f1, f2, f4, f5, f7, hgu, hgv⟩ (fun hHeld => ?_)
      refine pure_ (i := 0) (N := some 141) (bm 30 1) rfl rfl (by kernel_rfl) (fun _ _ _ h => h) (.inl ⟨rfl, tY_⟩) tP_ ?_
      refine pure_ (i := 1) (N := some 142) (bm 30 3) rfl rfl (by kernel_rfl) (fun _ _ _ h => h) (.inl ⟨rfl, tY_⟩) tP_ ?_
      refine pure_ (i := 5) (N := some 146) (bm 30 35) rfl rfl (by kernel_rfl) (fun _ _ _ h => h) (.inl ⟨rfl, tY_⟩) tP_ ?_
      refine pure_ (i := 6) (N := some 147) (bm 30 99) rfl rfl (by kernel_rfl) (fun _ _ _ h => h) (.inl ⟨rfl, tY_⟩) tP_ ?_
      refine pure_ (i := 9) (N := some 150) (bm 30 611) rfl rfl (by kernel_rfl) (fun _ _ _ h => h) (.inl ⟨rfl, tY_⟩) tP_ ?_
      refine pure_ (i := 10) (N := some 151) (bm 30 1635) rfl rfl (by kernel_rfl) (fun _ _ _ h => h) (.inl ⟨rfl, tY_⟩) tP_ ?_
      refine pure_ (i := 14) (N := some 155) (bm 30 18019) rfl rfl (by kernel_rfl) (fun _ _ _ h => h) (.inl ⟨rfl, tY_⟩) tP_ ?_
      refine pure_ (i := 15) (N := some 156) (bm 30 50787) rfl rfl (by kernel_rfl) (fun _ _ _ h => h) (.inl ⟨rfl, tY_⟩) tP_ ?_
      refine pure_ (i := 19) (N := some 160) (bm 30 575075) rfl rfl (by kernel_rfl) (fun _ _ _ h => h) (.inl ⟨rfl, tY_⟩) tP_ ?_
      refine pure_ (i := 20) (N := some 161) (bm 30 1623651) rfl rfl (by kernel_rfl) (fun _ _ _ h => h) (.inl ⟨rfl, tY_⟩) tP_ ?_
      refine pure_ (i := 24) (N := some 165) (bm 30 18400867) rfl rfl (by kernel_rfl) (fun _ _ _ h => h) (.inl ⟨rfl, tY_⟩) tP_ ?_
      refine pure_ (i := 25) (N := some 166) (bm 30 51955299) rfl rfl (by kernel_rfl) (fun _ _ _ h => h) (.inl ⟨rfl, tY_⟩) tP_ ?_
      refine take_ (i := 2) (N := some 143) (v := ?_) (a' := ?_) (bm 30 51955303) rfl rfl (by kernel_rfl) (fun _ _ _ h => h) (Or.inl ⟨by rfl, ?_⟩) hHeld ?_ ?_; rotate_left; (rintro w' ⟨s0, s1, s2, s3, s4, s5, s6⟩; go_simp; with_reducible rfl); rotate_left; exact tP_
      refine pure_ (i := 3) (N := some 144) (bm 30 51955311) rfl rfl (by kernel_rfl) (fun _ _ _ h => h) (.inl ⟨rfl, tY_⟩) tP_ ?_
      refine take_ (i := 4) (N := some 145) (v := ?_) (a' := ?_) (bm 30 51955327) rfl rfl (by kernel_rfl) (fun _ _ _ h => h) (Or.inl ⟨by rfl, ?_⟩) hHeld ?_ ?_; rotate_left; (rintro w' ⟨s0, s1, s2, s3, s4, s5, s6⟩; go_simp; with_reducible rfl); rotate_left; exact tP_
      refine take_ (i := 7) (N := some 148) (v := ?_) (a' := ?_) (bm 30 51955455) rfl rfl (by kernel_rfl) (fun _ _ _ h => h) (Or.inl ⟨by rfl, ?_⟩) hHeld ?_ ?_; rotate_left; (rintro w' ⟨s0, s1, s2, s3, s4, s5, s6⟩; go_simp; with_reducible rfl); rotate_left; exact tP_
      refine pure_ (i := 8) (N := some 149) (bm 30 51955711) rfl rfl (by kernel_rfl) (fun _ _ _ h => h) (.inl ⟨rfl, tY_⟩) tP_ ?_
      refine take_ (i := 11) (N := some 152) (v := ?_) (a' := ?_) (bm 30 51957759) rfl rfl (by kernel_rfl) (fun _ _ _ h => h) (Or.inl ⟨by rfl, ?_⟩) hHeld ?_ ?_; rotate_left; (rintro w' ⟨s0, s1, s2, s3, s4, s5, s6⟩; go_simp; with_reducible rfl); rotate_left; exact tP_
      refine pure_ (i := 12) (N := some 153) (bm 30 51961855) rfl rfl (by kernel_rfl) (fun _ _ _ h => h) (.inl ⟨rfl, tY_⟩) tP_ ?_
      refine take_ (i := 13) (N := some 154) (v := ?_) (a' := ?_) (bm 30 51970047) rfl rfl (by kernel_rfl) (fun _ _ _ h => h) (Or.inl ⟨by rfl, ?_⟩) hHeld ?_ ?_; rotate_left; (rintro w' ⟨s0, s1, s2, s3, s4, s5, s6⟩; go_simp; with_reducible rfl); rotate_left; exact tP_
      refine take_ (i := 16) (N := some 157) (v := ?_) (a' := ?_) (bm 30 52035583) rfl rfl (by kernel_rfl) (fun _ _ _ h => h) (Or.inl ⟨by rfl, ?_⟩) hHeld ?_ ?_; rotate_left; (rintro w' ⟨s0, s1, s2, s3, s4, s5, s6⟩; go_simp; with_reducible rfl); rotate_left; exact tP_
      refine pure_ (i := 17) (N := some 158) (bm 30 52166655) rfl rfl (by kernel_rfl) (fun _ _ _ h => h) (.inl ⟨rfl, tY_⟩) tP_ ?_
      refine pure_ (i := 18) (N := some 159) (bm 30 52428799) rfl rfl (by kernel_rfl) (fun _ _ _ h => h) (.inl ⟨rfl, tY_⟩) tP_ ?_
      refine pure_ (i := 28) (N := some 25) (bm 30 320864255) rfl rfl (by kernel_rfl) (fun _ _ _ h => h) (.inl ⟨rfl, tY_⟩) tP_ ?_
      refine take_ (i := 21) (N := some 162) (v := ?_) (a' := ?_) (bm 30 322961407) rfl rfl (by kernel_rfl) (fun _ _ _ h => h) (Or.inl ⟨by rfl, ?_⟩) hHeld ?_ ?_; rotate_left; (rintro w' ⟨s0, s1, s2, s3, s4, s5, s6⟩; go_simp; with_reducible rfl); rotate_left; exact tP_
      refine pure_ (i := 22) (N := some 163) (bm 30 327155711) rfl rfl (by kernel_rfl) (fun _ _ _ h => h) (.inl ⟨rfl, tY_⟩) tP_ ?_
      refine take_ (i := 23) (N := some 164) (v := ?_) (a' := ?_) (bm 30 335544319) rfl rfl (by kernel_rfl) (fun _ _ _ h => h) (Or.inl ⟨by rfl, ?_⟩) hHeld ?_ ?_; rotate_left; (rintro w' ⟨s0, s1, s2, s3, s4, s5, s6⟩; go_simp; with_reducible rfl); rotate_left; exact tP_
      refine take_ (i := 26) (N := some 167) (v := ?_) (a' := ?_) (bm 30 402653183) rfl rfl (by kernel_rfl) (fun _ _ _ h => h) (Or.inl ⟨by rfl, ?_⟩) hHeld ?_ ?_; rotate_left; (rintro w' ⟨s0, s1, s2, s3, s4, s5, s6⟩; go_simp; with_reducible rfl); rotate_left; exact tP_
      refine pure_ (i := 27) (N := some 168) (bm 30 536870911) rfl rfl (by kernel_rfl) (fun _ _ _ h => h) (.inl ⟨rfl, tY_⟩) tP_ ?_
      refine pure_ (i := 29) (N := some 26) (bm 30 1073741823) rfl rfl (by kernel_rfl) (fun _ _ _ h => h) (.inl ⟨rfl, tY_⟩) tP_ ?_
      refine done_ (by kernel_rfl) ?_
      have hyn := HY.out.1.2 1 (by decide)
      have hzn := HY.out.2.2 1 (by decide)
      replace f1 : wr.drew.cell? ⟨ad.block, ad.off + 5, none⟩ = some (.slice (some ad5) 3 c5) := f1
      replace f2 : wr.drew.cell? ⟨ad.block, ad.off + 3, none⟩ = some (.slice (some ad3) 2 c3) := f2
      replace f3 : wr.drew.cell? ad5 = some (.int .i64 t0) := f3
      replace f6 : wr.drew.cell? ad3 = some (.int .i64 r0) := f6
      go_wp2
      clear hyn hzn
      refine ⟨⟨2, rfl, ⟨.inr (.inr (.inl rfl))⟩, ⟨HD.out.1, HD.out.2⟩⟩, by simp only [intOf]; omega⟩
    · go_wp2
      have HD := Aside0.mk (And.intro (below_step HS.out.1 (pw_below_drewN (Below.refl _ _) 1)) (CF.step HS.out.2 (pw_below_drewN (Below.refl _ _) 1)))
      obtain ⟨f1, f2, f3, f4, f5, f6, f7, f8, f9, f10, f11⟩ := HD.out.2
      have hgu : wr.drew.cell? ⟨g16, 2, none⟩ = some (.int .i64 (u 2)) := blk_cell f8 2
      have hgv : wr.drew.cell? ⟨g18, 2, none⟩ = some (.int .i64 (v 2)) := blk_cell f9 2
      have hgy : wr.drew.cell? ⟨g20, 2, none⟩ = some (.int .i64 (y 2)) := blk_cell f10 2
      have hgz : wr.drew.cell? ⟨g22, 2, none⟩ = some (.int .i64 (z 2)) := blk_cell f11 2
      refine start_ (n := 30) (S := fun w' => w'.cell? ⟨ad.block, ad.off + 5, none⟩ = some (.slice (some ad5) 3 c5) ∧ w'.cell? ⟨ad.block, ad.off + 3, none⟩ = some (.slice (some ad3) 2 c3) ∧ w'.cell? ⟨ad5.block, ad5.off + 1, none⟩ = some (.int .i64 t1) ∧ w'.cell? ⟨ad5.block, ad5.off + 2, none⟩ = some (.int .i64 t2) ∧ w'.cell? ⟨ad3.block, ad3.off + 1, none⟩ = some (.int .i64 r1) ∧ w'.cell? ⟨g16, 2, none⟩ = some (.int .i64 (u 2)) ∧ w'.cell? ⟨g18, 2, none⟩ = some (.int .i64 (v 2))) (ds := []) (bm 30 0) (by kernel_rfl) rfl rfl ⟨f1, f2, f4, f5, f7, hgu, hgv⟩ (fun hHeld => ?_)
      refine pure_ (i := 0) (N := some 141) (bm 30 1) rfl rfl (by kernel_rfl) (fun _ _ _ h => h) (.inl ⟨rfl, tY_⟩) tP_ ?_
      refine pure_ (i := 1) (N := some 142) (bm 30 3) rfl rfl (by kernel_rfl) (fun _ _ _ h => h) (.inl ⟨rfl, tY_⟩) tP_ ?_
      refine pure_ (i := 5) (N := some 146) (bm 30 35) rfl rfl (by kernel_rfl) (fun _ _ _ h => h) (.inl ⟨rfl, tY_⟩) tP_ ?_
      refine pure_ (i := 6) (N := some 147) (bm 30 99) rfl rfl (by kernel_rfl) (fun _ _ _ h => h) (.inl ⟨rfl, tY_⟩) tP_ ?_
      refine pure_ (i := 9) (N := some 150) (bm 30 611) rfl rfl (by kernel_rfl) (fun _ _ _ h => h) (.inl ⟨rfl, tY_⟩) tP_ ?_
      refine pure_ (i := 10) (N := some 151) (bm 30 1635) rfl rfl (by kernel_rfl) (fun _ _ _ h => h) (.inl ⟨rfl, tY_⟩) tP_ ?_
      refine pure_ (i := 14) (N := some 155) (bm 30 18019) rfl rfl (by kernel_rfl) (fun _ _ _ h => h) (.inl ⟨rfl, tY_⟩) tP_ ?_
      refine pure_ (i := 15) (N := some 156) (bm 30 50787) rfl rfl (by kernel_rfl) (fun _ _ _ h => h) (.inl ⟨rfl, tY_⟩) tP_ ?_
      refine pure_ (i := 19) (N := some 160) (bm 30 575075) rfl rfl (by kernel_rfl) (fun _ _ _ h => h) (.inl ⟨rfl, tY_⟩) tP_ ?_
      refine pure_ (i := 20) (N := some 161) (bm 30 1623651) rfl rfl (by kernel_rfl) (fun _ _ _ h => h) (.inl ⟨rfl, tY_⟩) tP_ ?_
      refine pure_ (i := 24) (N := some 165) (bm 30 18400867) rfl rfl (by kernel_rfl) (fun _ _ _ h => h) (.inl ⟨rfl, tY_⟩) tP_ ?_
      refine pure_ (i := 25) (N := some 166) (bm 30 51955299) rfl rfl (by kernel_rfl) (fun _ _ _ h => h) (.inl ⟨rfl, tY_⟩) tP_ ?_
      refine take_ (i := 2) (N := some 143) (v := ?_) (a' := ?_) (bm 30 51955303) rfl rfl (by kernel_rfl) (fun _ _ _ h => h) (Or.inl ⟨by rfl, ?_⟩) hHeld ?_ ?_; rotate_left; (rintro w' ⟨s0, s1, s2, s3, s4, s5, s6⟩; go_simp; with_reducible rfl); rotate_left; exact tP_
      refine pure_ (i := 3) (N := some 144) (bm 30 51955311) rfl rfl (by kernel_rfl) (fun _ _ _ h => h) (.inl ⟨rfl, tY_⟩) tP_ ?_
      refine take_ (i := 4) (N := some 145) (v := ?_) (a' := ?_) (bm 30 51955327) rfl rfl (by kernel_rfl) (fun _ _ _ h => h) (Or.inl ⟨by rfl, ?_⟩) hHeld ?_ ?_; rotate_left; (rintro w' ⟨s0, s1, s2, s3, s4, s5, s6⟩; go_simp; with_reducible rfl); rotate_left; exact tP_
      refine take_ (i := 7) (N := some 148) (v := ?_) (a' := ?_) (bm 30 51955455) rfl rfl (by kernel_rfl) (fun _ _ _ h => h) (Or.inl ⟨by rfl, ?_⟩) hHeld ?_ ?_; rotate_left; (rintro w' ⟨s0, s1, s2, s3, s4, s5, s6⟩; go_simp; with_reducible rfl); rotate_left; exact tP_
      refine pure_ (i := 8) (N := some 149) (bm 30 51955711) rfl rfl (by kernel_rfl) (fun _ _ _ h => h) (.inl ⟨rfl, tY_⟩) tP_ ?_
      refine take_ (i := 11) (N := some 152) (v := ?_) (a' := ?_) (bm 30 51957759) rfl rfl (by kernel_rfl) (fun _ _ _ h => h) (Or.inl ⟨by rfl, ?_⟩) hHeld ?_ ?_; rotate_left; (rintro w' ⟨s0, s1, s2, s3, s4, s5, s6⟩; go_simp; with_reducible rfl); rotate_left; exact tP_
      refine pure_ (i := 12) (N := some 153) (bm 30 51961855) rfl rfl (by kernel_rfl) (fun _ _ _ h => h) (.inl ⟨rfl, tY_⟩) tP_ ?_
      refine take_ (i := 13) (N := some 154) (v := ?_) (a' := ?_) (bm 30 51970047) rfl rfl (by kernel_rfl) (fun _ _ _ h => h) (Or.inl ⟨by rfl, ?_⟩) hHeld ?_ ?_; rotate_left; (rintro w' ⟨s0, s1, s2, s3, s4, s5, s6⟩; go_simp; with_reducible rfl); rotate_left; exact tP_
      refine take_ (i := 16) (N := some 157) (v := ?_) (a' := ?_) (bm 30 52035583) rfl rfl (by kernel_rfl) (fun _ _ _ h => h) (Or.inl ⟨by rfl, ?_⟩) hHeld ?_ ?_; rotate_left; (rintro w' ⟨s0, s1, s2, s3, s4, s5, s6⟩; go_simp; with_reducible rfl); rotate_left; exact tP_
      refine pure_ (i := 17) (N := some 158) (bm 30 52166655) rfl rfl (by kernel_rfl) (fun _ _ _ h => h) (.inl ⟨rfl, tY_⟩) tP_ ?_
      refine pure_ (i := 18) (N := some 159) (bm 30 52428799) rfl rfl (by kernel_rfl) (fun _ _ _ h => h) (.inl ⟨rfl, tY_⟩) tP_ ?_
      refine pure_ (i := 28) (N := some 25) (bm 30 320864255) rfl rfl (by kernel_rfl) (fun _ _ _ h => h) (.inl ⟨rfl, tY_⟩) tP_ ?_
      refine take_ (i := 21) (N := some 162) (v := ?_) (a' := ?_) (bm 30 322961407) rfl rfl (by kernel_rfl) (fun _ _ _ h => h) (Or.inl ⟨by rfl, ?_⟩) hHeld ?_ ?_; rotate_left; (rintro w' ⟨s0, s1, s2, s3, s4, s5, s6⟩; go_simp; with_reducible rfl); rotate_left; exact tP_
      refine pure_ (i := 22) (N := some 163) (bm 30 327155711) rfl rfl (by kernel_rfl) (fun _ _ _ h => h) (.inl ⟨rfl, tY_⟩) tP_ ?_
      refine take_ (i := 23) (N := some 164) (v := ?_) (a' := ?_) (bm 30 335544319) rfl rfl (by kernel_rfl) (fun _ _ _ h => h) (Or.inl ⟨by rfl, ?_⟩) hHeld ?_ ?_; rotate_left; (rintro w' ⟨s0, s1, s2, s3, s4, s5, s6⟩; go_simp; with_reducible rfl); rotate_left; exact tP_
      refine take_ (i := 26) (N := some 167) (v := ?_) (a' := ?_) (bm 30 402653183) rfl rfl (by kernel_rfl) (fun _ _ _ h => h) (Or.inl ⟨by rfl, ?_⟩) hHeld ?_ ?_; rotate_left; (rintro w' ⟨s0, s1, s2, s3, s4, s5, s6⟩; go_simp; with_reducible rfl); rotate_left; exact tP_
      refine pure_ (i := 27) (N := some 168) (bm 30 536870911) rfl rfl (by kernel_rfl) (fun _ _ _ h => h) (.inl ⟨rfl, tY_⟩) tP_ ?_
      refine pure_ (i := 29) (N := some 26) (bm 30 1073741823) rfl rfl (by kernel_rfl) (fun _ _ _ h => h) (.inl ⟨rfl, tY_⟩) tP_ ?_
      refine done_ (by kernel_rfl) ?_
      have hyn := HY.out.1.2 2 (by decide)
      have hzn := HY.out.2.2 2 (by decide)
      replace f1 : wr.drew.cell? ⟨ad.block, ad.off + 5, none⟩ = some (.slice (some ad5) 3 c5) := f1
      replace f2 : wr.drew.cell? ⟨ad.block, ad.off + 3, none⟩ = some (.slice (some ad3) 2 c3) := f2
      replace f3 : wr.drew.cell? ad5 = some (.int .i64 t0) := f3
      replace f6 : wr.drew.cell? ad3 = some (.int .i64 r0) := f6
      go_wp2
      clear hyn hzn
      refine ⟨⟨3, rfl, ⟨.inr (.inr (.inr (.inl rfl)))⟩, ⟨HD.out.1, HD.out.2⟩⟩, by simp only [intOf]; omega⟩
    · go_wp2
      have HD := Aside0.mk (And.intro (below_step HS.out.1 (pw_below_drewN (Below.refl _ _) 1)) (CF.step HS.out.2 (pw_below_drewN (Below.refl _ _) 1)))
      obtain ⟨f1, f2, f3, f4, f5, f6, f7, f8, f9, f10, f11⟩ := HD.out.2
      have hgu : wr.drew.cell? ⟨g16, 3, none⟩ = some (.int .i64 (u 3)) := blk_cell f8 3
      have hgv : wr.drew.cell? ⟨g18, 3, none⟩ = some (.int .i64 (v 3)) := blk_cell f9 3
      have hgy : wr.drew.cell? ⟨g20, 3, none⟩ = some (.int .i64 (y 3)) := blk_cell f10 3
      have hgz : wr.drew.cell? ⟨g22, 3, none⟩ = some (.int .i64 (z 3)) := blk_cell f11 3
      refine start_ (n := 30) (S := fun w' => w'.cell? ⟨ad.block, ad.off + 5, none⟩ = some (.slice (some ad5) 3 c5) ∧ w'.cell? ⟨ad.block, ad.off + 3, none⟩ = some (.slice (some ad3) 2 c3) ∧ w'.cell? ⟨ad5.block, ad5.off + 1, none⟩ = some (.int .i64 t1) ∧ w'.cell? ⟨ad5.block, ad5.off + 2, none⟩ = some (.int .i64 t2) ∧ w'.cell? ⟨ad3.block, ad3.off + 1, none⟩ = some (.int .i64 r1) ∧ w'.cell? ⟨g16, 3, none⟩ = some (.int .i64 (u 3)) ∧ w'.cell? ⟨g18, 3, none⟩ = some (.int .i64 (v 3))) (ds := []) (bm 30 0) (by kernel_rfl) rfl rfl ⟨f1, f2, f4, f5, f7, hgu, hgv⟩ (fun hHeld => ?_)
      refine pure_ (i := 0) (N := some 141) (bm 30 1) rfl rfl (by kernel_rfl) (fun _ _ _ h => h) (.inl ⟨rfl, tY_⟩) tP_ ?_
      refine pure_ (i := 1) (N := some 142) (bm 30 3) rfl rfl (by kernel_rfl) (fun _ _ _ h => h) (.inl ⟨rfl, tY_⟩) tP_ ?_
      refine pure_ (i := 5) (N := some 146) (bm 30 35) rfl rfl (by kernel_rfl) (fun _ _ _ h => h) (.inl ⟨rfl, tY_⟩) tP_ ?_
      refine pure_ (i := 6) (N := some 147) (bm 30 99) rfl rfl (by kernel_rfl) (fun _ _ _ h => h) (.inl ⟨rfl, tY_⟩) tP_ ?_
      refine pure_ (i := 9) (N := some 150) (bm 30 611) rfl rfl (by kernel_rfl) (fun _ _ _ h => h) (.inl ⟨rfl, tY_⟩) tP_ ?_
      refine pure_ (i := 10) (N := some 151) (bm 30 1635) rfl rfl (by kernel_rfl) (fun _ _ _ h => h) (.inl ⟨rfl, tY_⟩) tP_ ?_
      refine pure_ (i := 14) (N := some 155) (bm 30 18019) rfl rfl (by kernel_rfl) (fun _ _ _ h => h) (.inl ⟨rfl, tY_⟩) tP_ ?_
      refine pure_ (i := 15) (N := some 156) (bm 30 50787) rfl rfl (by kernel_rfl) (fun _ _ _ h => h) (.inl ⟨rfl, tY_⟩) tP_ ?_
      refine pure_ (i := 19) (N := some 160) (bm 30 575075) rfl rfl (by kernel_rfl) (fun _ _ _ h => h) (.inl ⟨rfl, tY_⟩) tP_ ?_
      refine pure_ (i := 20) (N := some 161) (bm 30 1623651) rfl rfl (by kernel_rfl) (fun _ _ _ h => h) (.inl ⟨rfl, tY_⟩) tP_ ?_
      refine pure_ (i := 24) (N := some 165) (bm 30 18400867) rfl rfl (by kernel_rfl) (fun _ _ _ h => h) (.inl ⟨rfl, tY_⟩) tP_ ?_
      refine pure_ (i := 25) (N := some 166) (bm 30 51955299) rfl rfl (by kernel_rfl) (fun _ _ _ h => h) (.inl ⟨rfl, tY_⟩) tP_ ?_
      refine take_ (i := 2) (N := some 143) (v := ?_) (a' := ?_) (bm 30 51955303) rfl rfl (by kernel_rfl) (fun _ _ _ h => h) (Or.inl ⟨by rfl, ?_⟩) hHeld ?_ ?_; rotate_left; (rintro w' ⟨s0, s1, s2, s3, s4, s5, s6⟩; go_simp; with_reducible rfl); rotate_left; exact tP_
      refine pure_ (i := 3) (N := some 144) (bm 30 51955311) rfl rfl (by kernel_rfl) (fun _ _ _ h => h) (.inl ⟨rfl, tY_⟩) tP_ ?_
      refine take_ (i := 4) (N := some 145) (v := ?_) (a' := ?_) (bm 30 51955327) rfl rfl (by kernel_rfl) (fun _ _ _ h => h) (Or.inl ⟨by rfl, ?_⟩) hHeld ?_ ?_; rotate_left; (rintro w' ⟨s0, s1, s2, s3, s4, s5, s6⟩; go_simp; with_reducible rfl); rotate_left; exact tP_
      refine take_ (i := 7) (N := some 148) (v := ?_) (a' := ?_) (bm 30 51955455) rfl rfl (by kernel_rfl) (fun _ _ _ h => h) (Or.inl ⟨by rfl, ?_⟩) hHeld ?_ ?_; rotate_left; (rintro w' ⟨s0, s1, s2, s3, s4, s5, s6⟩; go_simp; with_reducible rfl); rotate_left; exact tP_
      refine pure_ (i := 8) (N := some 149) (bm 30 51955711) rfl rfl (by kernel_rfl) (fun _ _ _ h => h) (.inl ⟨rfl, tY_⟩) tP_ ?_
      refine take_ (i := 11) (N := some 152) (v := ?_) (a' := ?_) (bm 30 51957759) rfl rfl (by kernel_rfl) (fun _ _ _ h => h) (Or.inl ⟨by rfl, ?_⟩) hHeld ?_ ?_; rotate_left; (rintro w' ⟨s0, s1, s2, s3, s4, s5, s6⟩; go_simp; with_reducible rfl); rotate_left; exact tP_
      refine pure_ (i := 12) (N := some 153) (bm 30 51961855) rfl rfl (by kernel_rfl) (fun _ _ _ h => h) (.inl ⟨rfl, tY_⟩) tP_ ?_
      refine take_ (i := 13) (N := some 154) (v := ?_) (a' := ?_) (bm 30 51970047) rfl rfl (by kernel_rfl) (fun _ _ _ h => h) (Or.inl ⟨by rfl, ?_⟩) hHeld ?_ ?_; rotate_left; (rintro w' ⟨s0, s1, s2, s3, s4, s5, s6⟩; go_simp; with_reducible rfl); rotate_left; exact tP_
      refine take_ (i := 16) (N := some 157) (v := ?_) (a' := ?_) (bm 30 52035583) rfl rfl (by kernel_rfl) (fun _ _ _ h => h) (Or.inl ⟨by rfl, ?_⟩) hHeld ?_ ?_; rotate_left; (rintro w' ⟨s0, s1, s2, s3, s4, s5, s6⟩; go_simp; with_reducible rfl); rotate_left; exact tP_
      refine pure_ (i := 17) (N := some 158) (bm 30 52166655) rfl rfl (by kernel_rfl) (fun _ _ _ h => h) (.inl ⟨rfl, tY_⟩) tP_ ?_
      refine pure_ (i := 18) (N := some 159) (bm 30 52428799) rfl rfl (by kernel_rfl) (fun _ _ _ h => h) (.inl ⟨rfl, tY_⟩) tP_ ?_
      refine pure_ (i := 28) (N := some 25) (bm 30 320864255) rfl rfl (by kernel_rfl) (fun _ _ _ h => h) (.inl ⟨rfl, tY_⟩) tP_ ?_
      refine take_ (i := 21) (N := some 162) (v := ?_) (a' := ?_) (bm 30 322961407) rfl rfl (by kernel_rfl) (fun _ _ _ h => h) (Or.inl ⟨by rfl, ?_⟩) hHeld ?_ ?_; rotate_left; (rintro w' ⟨s0, s1, s2, s3, s4, s5, s6⟩; go_simp; with_reducible rfl); rotate_left; exact tP_
      refine pure_ (i := 22) (N := some 163) (bm 30 327155711) rfl rfl (by kernel_rfl) (fun _ _ _ h => h) (.inl ⟨rfl, tY_⟩) tP_ ?_
      refine take_ (i := 23) (N := some 164) (v := ?_) (a' := ?_) (bm 30 335544319) rfl rfl (by kernel_rfl) (fun _ _ _ h => h) (Or.inl ⟨by rfl, ?_⟩) hHeld ?_ ?_; rotate_left; (rintro w' ⟨s0, s1, s2, s3, s4, s5, s6⟩; go_simp; with_reducible rfl); rotate_left; exact tP_
      refine take_ (i := 26) (N := some 167) (v := ?_) (a' := ?_) (bm 30 402653183) rfl rfl (by kernel_rfl) (fun _ _ _ h => h) (Or.inl ⟨by rfl, ?_⟩) hHeld ?_ ?_; rotate_left; (rintro w' ⟨s0, s1, s2, s3, s4, s5, s6⟩; go_simp; with_reducible rfl); rotate_left; exact tP_
      refine pure_ (i := 27) (N := some 168) (bm 30 536870911) rfl rfl (by kernel_rfl) (fun _ _ _ h => h) (.inl ⟨rfl, tY_⟩) tP_ ?_
      refine pure_ (i := 29) (N := some 26) (bm 30 1073741823) rfl rfl (by kernel_rfl) (fun _ _ _ h => h) (.inl ⟨rfl, tY_⟩) tP_ ?_
      refine done_ (by kernel_rfl) ?_
      have hyn := HY.out.1.2 3 (by decide)
      have hzn := HY.out.2.2 3 (by decide)
      replace f1 : wr.drew.cell? ⟨ad.block, ad.off + 5, none⟩ = some (.slice (some ad5) 3 c5) := f1
      replace f2 : wr.drew.cell? ⟨ad.block, ad.off + 3, none⟩ = some (.slice (some ad3) 2 c3) := f2
      replace f3 : wr.drew.cell? ad5 = some (.int .i64 t0) := f3
      replace f6 : wr.drew.cell? ad3 = some (.int .i64 r0) := f6
      go_wp2
      clear hyn hzn
      refine ⟨⟨4, rfl, ⟨.inr (.inr (.inr (.inr rfl)))⟩, ⟨HD.out.1, HD.out.2⟩⟩, by simp only [intOf]; omega⟩
    · go_wp2_with (go_at_call 24; refine (awake_ok _).mono ?_; rintro e w20 ⟨rfl, hb20⟩; have H20 := Aside0.mk (below_step HS.out.1 hb20); clear hb20)
      go_ret
      exact ⟨rfl, H20.out⟩
open Classical in
/-- the law's answer, where the strings are such as any machine holds -/
noncomputable def numnahlaw08_RulesSized.f (x0 x1 : ByteArray) (l1 : List Int) : Option Bool := if x0.size ≤ 9223372036854775807 ∧ x1.size ≤ 9223372036854775807 ∧ l1.length ≤ 9223372036854775807 then some true else none
theorem numnahlaw08_RulesSized.calls (x0 x1 : ByteArray) (A1 : Option Addr) (c1 : Nat) (l1 : List Int) (r : Bool) (w : World) (hr : Kd.C (Kd.int .i64) w A1 l1.length l1) (hc : l1.length ≤ c1) (h : numnahlaw08_RulesSized.f x0 x1 l1 = some r) :
    Calls Tryz.prog 5 #[.agg #[.string x0, .string x1], .slice A1 l1.length c1] w fun e w' => e = .returned (.bool r) ∧ Below w.heap.size w w' := by
  unfold numnahlaw08_RulesSized.f at h
  split at h
  · rename_i hs
    injection h with h
    subst h
    exact sized_calls x0 x1 l1 A1 c1 w hs.1 hs.2.1 hs.2.2 hr hc
  · cases h
end Go.Proofs.YtaafeallcaiooaaGreat.Pr
