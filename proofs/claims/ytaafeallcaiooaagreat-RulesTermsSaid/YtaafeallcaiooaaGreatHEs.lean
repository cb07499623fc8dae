/- Size. -/
import Derived.Test.YtaafeallcaiooaaGreatHOt
namespace Go.Proofs.YtaafeallcaiooaaGreat.Pr
open Go.RowKit Go.Maps Go.Proofs.YtaafeallcaiooaaGreatW.PrintWords Go.Proofs.YtaafeallcaiooaaGreatW.PrintLast Go.Proofs.YtaafeallcaiooaaGreatW.PrintMore
set_option linter.unusedVariables false
set_option linter.unusedSimpArgs false
/-- Size: the error, and the size -/
def sizeE (s : ByteArray) : Int × Int := match readT s with
  | none => (4, 0)
  | some t => (0, t.size)
set_option maxRecDepth 100000 in
theorem size1_calls (s : ByteArray) (bs : Nat → Nat) (bo : Nat) (w : World) (hb0 : w.heap[bs 0]? = some (.cells #[.string s] 9 (0, 0))) (hbo : w.heap[bo]? = some (.cells #[.int .i64 0] 3 (0, 0))) :
    Calls Tryz.prog 84 #[.pointer (some ⟨bs 0, 0, none⟩), .pointer (some ⟨bo, 0, none⟩)] w fun e w' => e = endE (sizeE s).1 ∧ But bo w w' ∧ w'.heap[bo]? = some (.cells #[.int .i64 (sizeE s).2] 3 (0, 0)) := by
  have hx0 := blk_cell hb0 0
  generalize bs 0 = b0 at *
  have hrc := read_calls (fun _ => True) s w (fun _ _ => trivial)
  cases hR : readT s with
  | none =>
    have e : sizeE s = (4, 0) := by unfold sizeE; rw [hR]
    rw [e]
    rw [hR] at hrc
    have HR := Aside0.mk hrc
    have HB := Aside0.mk hbo
    clear hrc hb0 hbo hR e
    go_enter Tryz.func84, Tryz.ntmps84
    go_wp2_with (go_at_call 69; refine HR.out.mono ?_; rintro e w3 ⟨hb, rfl⟩; have H3 := Aside0.mk hb; clear hb)
    exact ⟨rfl, rfl, But.of_below H3.out, blk_below HB.out H3.out⟩
  | some t =>
    have e : sizeE s = (0, t.size) := by unfold sizeE; rw [hR]
    rw [e]
    have e0 : endE (0, t.size).1 = .returned (.tuple #[]) := rfl
    rw [e0]
    have hgd := readT_good hR
    rw [hR] at hrc
    have HS := Aside0.mk (fun (q : Nat × Value) (w' : World) (hq : Has w' (fun _ => True) t q) => size_calls t q w' (fun _ => True) hq (by omega))
    have HR := Aside0.mk hrc
    have HB := Aside0.mk hbo
    clear hrc hb0 hbo hR e e0 hgd
    generalize t.size = n at *
    go_enter Tryz.func84, Tryz.ntmps84
    go_wp2_with (first
      | (go_at_call 69; refine HR.out.mono ?_; rintro e w3 ⟨hb, ⟨tid, pv⟩, he, hp⟩; obtain rfl : e = .returned (.iface tid pv) := he; obtain ⟨F, hF⟩ : ∃ F, F = szF (tid, pv) := ⟨_, rfl⟩; have hm1 : ∀ w, (method 337 tid pv "numnah/rules.size").run Tryz.prog w = .ok (F, pv) w := hF ▸ meth_size hp; have hm2 : ∀ args w, (callFunc F args).run Tryz.prog w = .ok (.enter F args) w := hF ▸ enters_size hp; have HS2 := Aside0.mk (HS.out _ _ hp); rw [← hF] at HS2; have HP := Aside0.mk (And.intro hb hp); clear hF hb hp)
      | (refine HS2.out.mono ?_; rintro e w4 ⟨rfl, h4⟩; have H4 := Aside0.mk (And.intro (below_on HP.out.1 h4) (blk_below (blk_below HB.out HP.out.1) h4)); have hz0 := blk_frozen H4.out.2 0; have hd0 : w4.cell? ⟨bo, 0, none⟩ = some (.int .i64 0) := blk_cell H4.out.2 0; clear h4))
    have hf1 : But bo w (w4.setCell ⟨bo, 0, none⟩ (.int .i64 n)) := (But.of_below H4.out.1).trans (But.set _ 0 _)
    have hf2 : (w4.setCell ⟨bo, 0, none⟩ (.int .i64 n)).heap[bo]? = some (.cells #[.int .i64 n] 3 (0, 0)) := blk_setCell H4.out.2 _
    generalize (w4.setCell ⟨bo, 0, none⟩ (.int .i64 n)) = w9 at *
    simp [bodyPost, results, Tryz.results84]
    exact ⟨hf1, hf2⟩
theorem enters84 : ∀ args w, (callFunc 84 args).run Tryz.prog w = .ok (.enter 84 args) w := fun args w => enters_ Tryz.func84 (by kernel_rfl) rfl args w
set_option maxRecDepth 100000 in
set_option maxHeartbeats 1000000 in
theorem sizeX_calls (s : ByteArray) (w : World) :
    Calls Tryz.prog 35 #[.string s] w fun e w' => e = .returned (.tuple #[.int .i64 (sizeE s).2, .int .i64 (sizeE s).1]) ∧ Below w.heap.size w w' := by
  obtain ⟨r, l, hv⟩ : ∃ r l, sizeE s = (r, l) := ⟨_, _, rfl⟩
  have h1 := fun (bs : Nat → Nat) (bo : Nat) (w' : World) => size1_calls s bs bo w'
  rw [hv] at h1 ⊢
  dsimp only at h1 ⊢
  obtain ⟨w3, hw3⟩ : ∃ w3, w3 = (w.alloc (.cells #[.string s] 9)).alloc (.cells #[.int .i64 0] 3) := ⟨_, rfl⟩
  have hB3 : Below w.heap.size w w3 := by rw [hw3]; exact below_alloc (below_alloc (Below.refl _ _) _) _
  have hsz : w3.heap.size = w.heap.size + 2 := by rw [hw3]; simp
  have hk0 : w3.heap[w.heap.size + 0]? = some (.cells #[.string s] 9 (0, 0)) := by
    have h := blk_new w (.cells #[.string s] 9)
    have hs : w.heap.size = w.heap.size + 0 := by simp
    rw [hs] at h
    rw [hw3]
    exact blk_alloc h _
  have hkr : w3.heap[w.heap.size + 1]? = some (.cells #[.int .i64 0] 3 (0, 0)) := by
    have h := blk_new (w.alloc (.cells #[.string s] 9)) (.cells #[.int .i64 0] 3)
    have hs : (w.alloc (.cells #[.string s] 9)).heap.size = w.heap.size + 1 := by simp
    rw [hs] at h
    rw [hw3]
    exact h
  have hg := guard_keeps 84 enters84 #[.pointer (some ⟨w.heap.size + 0, 0, none⟩), .pointer (some ⟨w.heap.size + 1, 0, none⟩)] w3 (fun c w1 => c = r ∧ But (w.heap.size + 1) w3 w1 ∧ w1.heap[w.heap.size + 1]? = some (.cells #[.int .i64 l] 3 (0, 0))) ((h1 (fun i => w.heap.size + i) (w.heap.size + 1) (w3.alloc (.cells #[.int .i64 0] 26))  (blk_alloc hk0 _) (blk_alloc hkr _)).mono (fun e w1 hh => by
    obtain ⟨rfl, hb, hv1⟩ := hh
    have hbt : But (w.heap.size + 1) w3 w1 := (But.of_below (below_alloc (Below.refl _ _) _)).trans hb
    refine ⟨(hb.block _ (by simp) (by omega)).trans (blk_new w3 _), ?_⟩
    by_cases hr : r = 0
    · subst hr
      exact .inl ⟨rfl, rfl, hbt, hv1⟩
    · exact .inr ⟨r, endE_no hr, rfl, hbt, hv1⟩))
  have HG := Aside0.mk hg
  have HB := Aside0.mk hB3
  have HZ := Aside0.mk hsz
  simp only [Nat.add_zero] at HG
  clear hg hB3 hsz hk0 hkr h1 hv 
  subst hw3
  go_enter Tryz.func35, Tryz.ntmps35
  go_wp2_with (go_at_call 65; refine HG.out.mono ?_; rintro e w1 ⟨c, w2, rfl, ⟨rfl, hb, hv1⟩, hb2⟩; have hv2 := (hb2.block _ (Array.getElem?_eq_some_iff.1 hv1).1 (by have := HZ.out; omega)).trans hv1; have hz0 := blk_frozen hv2 0; have hd0 : w1.cell? ⟨w.heap.size + 1, 0, none⟩ = some (.int .i64 l) := blk_cell hv2 0; have HH := Aside0.mk (And.intro hb (And.intro hb2 hv2)); clear hb hb2 hv2)
  have hz := HZ.out
  have b1 := HB.out
  obtain ⟨b2, b3, hv2⟩ := HH.out
  have b4 : Below w.heap.size w w1 := (b1.trans (b2.below (Nat.le_add_right _ _) (by omega))).trans (b3.below (by omega) (by have := b2.size; omega))
  have hv9 : (w1.setCell ⟨w.heap.size + 1, 0, none⟩ (.int .i64 l)).heap[w.heap.size + 1]? = some (.cells #[.int .i64 l] 3 (0, 0)) := blk_setCell hv2 _
  have hcc : (w1.setCell ⟨w.heap.size + 1, 0, none⟩ (.int .i64 l)).cell? ⟨w.heap.size + 1, 0, none⟩ = some (.int .i64 l) := blk_cell hv9 0
  have b5 : Below w.heap.size w (w1.setCell ⟨w.heap.size + 1, 0, none⟩ (.int .i64 l)) := below_set b4 (by omega)
  generalize w1.setCell ⟨w.heap.size + 1, 0, none⟩ (.int .i64 l) = w9 at *
  simp [bodyPost, results, Tryz.results35, go_sem, hcc]
  exact b5
def rules_Size.f (a0 : ByteArray) : Option (Int × Int) := some ((sizeE a0).2, (sizeE a0).1)
theorem rules_Size.calls (a0 : ByteArray) (r0 r1 : Int) (w : World) (h : rules_Size.f a0 = some (r0, r1)) :
    Calls Tryz.prog 35 #[.string a0] w fun e w' => e = .returned (.tuple #[.int .i64 r0, .int .i64 r1]) ∧ Below w.heap.size w w' := by
  unfold rules_Size.f at h
  injection h with h
  injection h with h1 h2
  subst h1 h2
  exact sizeX_calls a0 w
end Go.Proofs.YtaafeallcaiooaaGreat.Pr
