import Derived.Test.YtaafeallcaiooaaGreatHRh1
import Derived.Test.YtaafeallcaiooaaGreatPr0
import Derived.Test.YtaafeallcaiooaaGreatHSr
import Derived.Test.YtaafeallcaiooaaGreatPrA1
import Derived.Test.YtaafeallcaiooaaGreatPrA12
import Derived.Test.YtaafeallcaiooaaGreatPrA3
import Derived.Test.YtaafeallcaiooaaGreatHRh0
import Derived.Test.YtaafeallcaiooaaGreatPrB1
/- the reference's Greater. -/
namespace Go.Proofs.YtaafeallcaiooaaGreat.Pr
open Go.RowKit Go.Maps Go.Proofs.YtaafeallcaiooaaGreatW.PrintWords Go.Proofs.YtaafeallcaiooaaGreatW.PrintLast Go.Proofs.YtaafeallcaiooaaGreatW.PrintMore
set_option linter.unusedVariables false
set_option linter.unusedSimpArgs false
theorem decK (p s t : ByteArray) (hP : IsPrec p) (hs : s.size ≤ 1000000) (ht : t.size ≤ 1000000) (A : Addr) (cap : Nat) (ar : Nat → Addr) (cr : Nat → Nat) (a b : Tm) (i j : Nat) (ha : AtB s i a) (hb : AtB t j b)
    (ih : ∀ (a' b' : Tm) (i j : Nat), AtB s i a' → AtB t j b' → a'.size + b'.size ≤ a.size + b.size - 1 → GrK 94 p s t A cap ar cr (a'.size + b'.size) a' b' i j) : GrK 131 p s t A cap ar cr (a.size + b.size - 1) a b i j := by
  cases a with
  | var c => exact decide_v p s t A cap ar cr c b i j _ ha
  | app sy l =>
    cases b with
    | var v => exact decide_av p s t hs A cap ar cr sy l v i j _ ha hb
    | app sy' l' => exact decide_aa p s t hP hs ht A cap ar cr sy l sy' l' i j ha hb ih
theorem grK_all (p s t : ByteArray) (hP : IsPrec p) (hs : s.size ≤ 1000000) (ht : t.size ≤ 1000000) (A : Addr) (cap : Nat) (ar : Nat → Addr) (cr : Nat → Nat) : ∀ (n : Nat) (a b : Tm) (i j : Nat), a.size + b.size ≤ n → AtB s i a → AtB t j b → GrK 94 p s t A cap ar cr (a.size + b.size) a b i j
  | 0, a, b, i, j, hn, _, _ => by have := Tm.size_pos a; have := Tm.size_pos b; omega
  | n + 1, a, b, i, j, hn, ha, hb => greaterK_of p s t A cap ar cr a b i j ha hb (decK p s t hP hs ht A cap ar cr a b i j ha hb (fun a' b' i' j' h1 h2 h3 => grK_all p s t hP hs ht A cap ar cr n a' b' i' j' (by omega) h1 h2))
def encS (h : Option Addr × Nat × Nat) : Value := .slice h.1 h.2.1 h.2.2
theorem encS_one (h : Option Addr × Nat × Nat) : (encS h).oneCell' = true := rfl
def kS : Kd (Option Addr × Nat × Nat) := Kd.scalar encS encS_one
/-- rows of m zeros, in blocks of the call -/
def RowZ (w0 w : World) (m k : Nat) (v : Value) (hs : List (Option Addr × Nat × Nat)) (gr : Nat → Nat) : Prop := (∀ i, i < k → hs[i]? = some (some ⟨gr i, 0, none⟩, m, m) ∧ w0.heap.size ≤ gr i ∧ gr i < w.heap.size ∧ w.heap[gr i]? = some (.cells (madeCells #[.int .i64 0] m) 3 (0, 0)) ∧ some (gr i) ≠ v.ownBlock) ∧ ∀ i i', i < k → i' < k → gr i = gr i' → i = i'
def SGr (w0 : World) (m k : Nat) (v : Value) (w : World) : Prop := Below w0.heap.size w0 w ∧ ∃ hs gr, hs.length = k ∧ Kd.R kS 43 w w0.heap.size (fun _ => True) v hs ∧ RowZ w0 w m k v hs gr
theorem made_at (m j : Nat) (h : j < m) : (madeCells #[.int .i64 0] m)[j]? = some (.int .i64 0) := by
  unfold madeCells
  simp [h, Nat.mod_one]
theorem SGr.tab {w0 w : World} {m n : Nat} {v : Value} (hn : 0 < n) (h : SGr w0 m n v w) : ∃ A cap ar cr, v = .slice (some A) n cap ∧ Tab A n m ar cr w (fun _ _ => 0) ∧ ∀ k, InT n ar k → w0.heap.size ≤ k := by
  obtain ⟨hb, hs, gr, hl, hR, hZ, hinj⟩ := h
  obtain ⟨g, cap, rfl, hbg, hlt, cells, hc⟩ := Kd.R_form hR (by omega)
  obtain ⟨e1, e2, hC⟩ := Kd.R_reads' hR
  refine ⟨⟨g, 0, none⟩, cap, fun i => ⟨gr i, 0, none⟩, fun _ => m, by rw [hl], ⟨fun i hi => ?_, fun i hi => rfl, fun i hi => ?_, fun i i' hi hi' e => hinj i i' hi hi' e, fun i hi e => ?_⟩, fun k hk => ?_⟩
  · obtain ⟨ad, c, ea, _, hK, hget⟩ := Kd.C_get hC (none, 0, 0) (i : Int) (by omega) (by omega)
    have ea2 : ad = ⟨g, 0, none⟩ := by injection ea with ea; exact ea.symm
    subst ea2
    have hK2 : c = [encS (hs.getD ((i : Int)).toNat (none, 0, 0))] := hK
    rw [Int.toNat_natCast, List.getD_eq_getElem?_getD, (hZ i hi).1] at hK2
    have h3 := hget 0 (encS (some ⟨gr i, 0, none⟩, m, m)) (by rw [hK2]; rfl)
    rw [add0]
    simp [Addr.add, kS, Kd.scalar, encS] at h3
    by_cases hi0 : i = 0
    · subst hi0
      simpa using h3
    · simpa [hi0] using h3
  · exact ⟨_, (hZ i hi).2.2.2.1, fun j hj => made_at m j hj⟩
  · have := (hZ i hi).2.2.2.2
    simp [Value.ownBlock] at this
    exact this e
  · obtain ⟨i, hi, rfl⟩ := hk
    exact (hZ i hi).2.1
theorem SGr.push {w0 w w1 : World} {m k : Nat} {v v1 : Value} {hs : List (Option Addr × Nat × Nat)} {gr : Nat → Nat} (hb0 : w0.heap.size ≤ w.heap.size) (hl : hs.length = k) (hR : Kd.R kS 43 w w0.heap.size (fun _ => True) v hs) (hZ : RowZ w0 w m k v hs gr)
    (hb : Below w0.heap.size w0 w1) (ho : Kd.R kS 43 w1 w0.heap.size (fun _ => True) v1 (hs ++ [(some ⟨w.heap.size, 0, none⟩, m, m)])) (hg : (w.alloc (.cells (madeCells #[.int .i64 0] m) 3)).grownBy w1 v.ownBlock) (hat : v1.ownBlock = v.ownBlock ∨ ∃ b, v1.ownBlock = some b ∧ (w.alloc (.cells (madeCells #[.int .i64 0] m) 3)).heap.size ≤ b) : SGr w0 m (k + 1) v1 w1 := by
  have hsz : (w.alloc (.cells (madeCells #[.int .i64 0] m) 3)).heap.size = w.heap.size + 1 := World.size_alloc _ _
  rw [hsz] at hat
  have hlt := Kd.R_lt hR
  have hold : ∀ j, j < w.heap.size + 1 → some j ≠ v.ownBlock → w1.heap[j]? = (w.alloc (.cells (madeCells #[.int .i64 0] m) 3)).heap[j]? := fun j hj hne => hg.block j (by omega) hne
  have hne1 : ∀ j, j < w.heap.size + 1 → some j ≠ v.ownBlock → some j ≠ v1.ownBlock := fun j hj hne => by
    rcases hat with e | ⟨b, e, hb⟩
    · rw [e]; exact hne
    · rw [e]; intro q; injection q with q; omega
  have hnew : some w.heap.size ≠ v.ownBlock := fun e => by have := hlt _ e.symm; omega
  have hsz1 : w.heap.size + 1 ≤ w1.heap.size := by have := hg.size; omega
  refine ⟨hb, _, fun i => if i = k then w.heap.size else gr i, by rw [List.length_append, List.length_singleton, hl], ho, fun i hi => ?_, fun i i' hi hi' e => ?_⟩
  · dsimp only
    by_cases he : i = k
    · subst he
      rw [if_pos rfl]
      refine ⟨by rw [List.getElem?_append_right (by omega), hl, Nat.sub_self]; rfl, hb0, by omega, ?_, hne1 _ (by omega) hnew⟩
      rw [hold _ (by omega) hnew]
      exact blk_new w _
    · rw [if_neg he]
      obtain ⟨h1, h2, h3, h4, h5⟩ := hZ.1 i (by omega)
      refine ⟨by rw [List.getElem?_append_left (by omega)]; exact h1, h2, by omega, ?_, hne1 _ (by omega) h5⟩
      rw [hold _ (by omega) h5]
      exact blk_alloc h4 _
  · dsimp only at e
    by_cases he : i = k
    · by_cases he' : i' = k
      · rw [he, he']
      · rw [if_pos he, if_neg he'] at e
        have := (hZ.1 i' (by omega)).2.2.1
        omega
    · by_cases he' : i' = k
      · rw [if_neg he, if_pos he'] at e
        have := (hZ.1 i (by omega)).2.2.1
        omega
      · rw [if_neg he, if_neg he'] at e
        exact hZ.2 i i' (by omega) (by omega) e
set_option maxRecDepth 100000 in
set_option maxHeartbeats 2000000 in
theorem refGreater_calls (p s t : ByteArray) (hP : IsPrec p) (hs : s.size ≤ 1000000) (ht : t.size ≤ 1000000) (a b : Tm) (ha : AtB s 0 a) (hb : AtB t 0 b) (w : World) :
    Calls Tryz.prog 44 #[.string p, .string s, .string t] w fun e w' => e = .returned (.bool (gt (rankP p) a b)) ∧ Below w.heap.size w w' := by
  have hs0 := ha.lt.1
  have hmk := print_make (P := Tryz.prog) 43 3 .i64 8 Tryz.underlying43 (by kernel_rfl) (by omega) t.size (by omega)
  have HK := Aside0.mk (fun (A : Addr) (cap : Nat) (ar : Nat → Addr) (cr : Nat → Nat) => grK_all p s t hP hs ht A cap ar cr (a.size + b.size).toNat a b 0 0 (by have := Tm.size_pos a; have := Tm.size_pos b; omega) ha hb)
  have HS := Aside0.mk (And.intro hs (And.intro ht hs0))
  clear hP hs ht ha hb hs0
  go_enter Tryz.func44, Tryz.ntmps44
  go_wp2
  go_loopw [7, 8] (fun v7 v8 wr => ∃ k : Nat, v8 = .int .i64 (k : Int) ∧ Aside0 (k ≤ s.size) ∧ Aside0 (SGr w t.size k v7 wr)) (fun _ v8 _ => s.size - (intOf v8).toNat)
  case atStart => exact ⟨0, rfl, ⟨Nat.zero_le _⟩, ⟨Below.refl _ _, [], fun _ => 0, rfl, Kd.R_nil _ _ _ _ _, fun i hi => absurd hi (by omega), fun i i' hi => absurd hi (by omega)⟩⟩
  case round =>
    obtain ⟨k, rfl, HKK, HG⟩ := hrel
    by_cases hk : k < s.size
    · have hkb : decide ((k : Int) < (s.size : Int)) = true := decide_eq_true (by omega)
      have hkb2 : decide (k < s.size) = true := decide_eq_true hk
      have hw1 := wrK k (by have := HS.out.1; omega)
      obtain ⟨hb, hs, gr, hl, hR, hZ⟩ := HG.out
      obtain ⟨Ao, co, rfl⟩ := Kd.R_slice hR
      have HR := Aside0.mk (And.intro hb (And.intro hl (And.intro hR hZ)))
      have hle : (hs.length + 1) * 24 ≤ 140737488355328 := by have := HS.out.1; omega
      have HLE := Aside0.mk hle
      clear hb hl hR hZ HG hle
      go_wp2_with ((with_reducible refine gate_builtin (b := .append) (xs := #[.tmp 15, .tmp 19]) rfl ?_); at_builtin; refine Kd.R_append kS (w0 := w) w.heap.size rfl (.tmp 15) (.tmp 19) 22 43 (.slice none 0 0) 24 rfl Tryz.underlying22 info43 rfl (by decide) (by omega) (.slice Ao hs.length co) hs (some ⟨wr.heap.size, 0, none⟩, t.size, t.size) [.slice (some ⟨wr.heap.size, 0, none⟩) t.size t.size] (fun _ => True) (fun _ => False) rfl (by rw [World.size_alloc]; rfl) ?aP (fun _ hk => hk.elim) ?aF ?aO ?aB ?aS ?aL ?_; (case aP => exact rfl); (case aB => exact below_step HR.out.1 (below_alloc (Below.refl _ _) _)); (case aF => exact (fun _ _ => trivial)); (case aO => exact Kd.R_alloc HR.out.2.2.1 _); (case aS => exact (below_step HR.out.1 (below_alloc (Below.refl _ _) _)).size); (case aL => exact HLE.out); intro v9 w9 ho hb hg hat; have H9 := Aside0.mk (SGr.push HR.out.1.size HR.out.2.1 HR.out.2.2.1 HR.out.2.2.2 hb ho hg hat); clear ho hb hg hat)
      refine ⟨⟨k + 1, by first | (rw [hw1]; rfl) | rfl, ⟨hk⟩, H9⟩, ?_⟩
      try rw [hw1]
      simp only [intOf]
      clear hw1
      omega
    · have hkb : decide ((k : Int) < (s.size : Int)) = false := decide_eq_false (by omega)
      have hkb2 : decide (k < s.size) = false := decide_eq_false hk
      obtain rfl : k = s.size := by have := HKK.out; omega
      obtain ⟨A, cap, ar, cr, hv, hT, hB⟩ := SGr.tab HS.out.2.2 HG.out
      subst hv
      have hC0 := HK.out A cap ar cr wr _ hT (fun _ _ _ _ _ _ _ => .inl rfl)
      rw [show ((0 : Nat) : Int) = 0 from rfl] at hC0
      have HC := Aside0.mk hC0
      clear hC0
      have HB := Aside0.mk (And.intro HG.out.1 hB)
      clear hT hB HG HK hk HKK hmk
      go_wp2_with (go_at_call 94; refine HC.out.mono ?_; rintro e w5 ⟨rfl, hb5, _⟩; have H5 := Aside0.mk (HB.out.1.trans (hb5.below HB.out.2 HB.out.1.size)); clear hb5)
      go_ret
      exact ⟨rfl, H5.out⟩
def numnahref08_Greater.f (p x y : ByteArray) : Option Bool := if precB p = true then (readT x).bind fun a => (readT y).bind fun b => some (gt (rankP p) a b) else none
theorem numnahref08_Greater.calls (a0 a1 a2 : ByteArray) (r : Bool) (w : World) (h : numnahref08_Greater.f a0 a1 a2 = some r) :
    Calls Tryz.prog 44 #[.string a0, .string a1, .string a2] w fun e w' => e = .returned (.bool r) ∧ Below w.heap.size w w' := by
  unfold numnahref08_Greater.f at h
  split at h
  · rename_i hp
    cases hA : readT a1 with
    | none => rw [hA] at h; cases h
    | some a =>
      cases hB : readT a2 with
      | none => rw [hA, hB] at h; cases h
      | some b =>
        rw [hA, hB, Option.bind_some, Option.bind_some] at h
        injection h with h
        subst h
        have gA := readT_iff.1 hA
        have gB := readT_iff.1 hB
        have zA := text_le (t := a) (by omega)
        have zB := text_le (t := b) (by omega)
        rw [← gA.2.2] at zA
        rw [← gB.2.2] at zB
        exact refGreater_calls a0 a1 a2 (precB_is hp) (by omega) (by omega) a b ⟨gA.1, [], by rw [List.drop_zero, List.append_nil, gA.2.2, text_data]⟩ ⟨gB.1, [], by rw [List.drop_zero, List.append_nil, gB.2.2, text_data]⟩ w
  · cases h
end Go.Proofs.YtaafeallcaiooaaGreat.Pr
-- Laid by wip/tools/inj.py of this project, which drives the kit's printer. Lean checks it.
namespace Go.Proofs.YtaafeallcaiooaaGreat.Pr
open Go.RowKit Go.Proofs.YtaafeallcaiooaaGreatW.PrintWords Go.Proofs.YtaafeallcaiooaaGreatW.PrintLast Go.Proofs.YtaafeallcaiooaaGreatW.PrintMore
attribute [local go_sem] max2_int min2_int max_two min_two max_three min_three max_four min_four   -- for this text's walks alone
set_option linter.unusedVariables false
set_option linter.unusedSimpArgs false

/-! ### numnahref08_Proves: function 40 -/
def numnahref08_Proves.l0 : Nat → List (S94) → ByteArray → Int → Option (Bool)
 | 0, _, _, _ => none
 | k + 1, x0, x1, x5 => if x5 < (x0.length : Int) then (if 0 ≤ x5 then ((numnahref08_Greater.f x1 ((rd_T94 x0 x5).f0) ((rd_T94 x0 x5).f1)).bind fun t394 => (if t394 = true then (numnahref08_Proves.l0 k x0 x1 (wrap64 (x5 + 1))) else (some false))) else (none)) else (some true)
def numnahref08_Proves.f (k : Nat) (l0 : List (S94)) (a1 : ByteArray) : Option (Bool) := numnahref08_Proves.l0 k l0 a1 0
theorem numnahref08_Proves.mono_l : ∀ k, (∀ y0 y1 y2, LeO (numnahref08_Proves.l0 k y0 y1 y2) (numnahref08_Proves.l0 (k + 1) y0 y1 y2))
 | 0 => fun _ _ _ r h => by simp [numnahref08_Proves.l0] at h
 | k + 1 => by
  have ih0 := numnahref08_Proves.mono_l k
  ·intro y0 y1 y2
   unfold numnahref08_Proves.l0
   repeat' first
   | (with_reducible exact ih0 _ _ _)
   | (with_reducible exact LeO.refl _)
   | (with_reducible exact LeO.none _)
   | (with_reducible refine LeO.ite ?_ ?_)
   | (with_reducible refine LeO.bind ?_ (fun _ => ?_))
   | exact ih0 _ _ _
   | exact LeO.none _
   | refine LeO.ite ?_ ?_
   | refine LeO.bind ?_ (fun _ => ?_)
theorem numnahref08_Proves.mono : ∀ a0 a1 k, LeO (numnahref08_Proves.f k a0 a1) (numnahref08_Proves.f (k + 1) a0 a1) := by
 intro a0 a1 k
 have ih0 := numnahref08_Proves.mono_l k
 unfold numnahref08_Proves.f
 repeat' first
   | (with_reducible exact ih0 _ _ _)
   | (with_reducible exact LeO.refl _)
   | (with_reducible exact LeO.none _)
   | (with_reducible refine LeO.ite ?_ ?_)
   | (with_reducible refine LeO.bind ?_ (fun _ => ?_))
   | exact ih0 _ _ _
   | exact LeO.none _
   | refine LeO.ite ?_ ?_
   | refine LeO.bind ?_ (fun _ => ?_)
def numnahref08_Proves.T4 : Bool × List (List Nat × List Nat) := (true, [([], []), ([], []), ([], []), ([1, 2], [1, 2]), ([3], [3]), ([4], [4]), ([], []), ([], []), ([6, 7], [6, 7]), ([8], [8]), ([9], [9]), ([0, 5, 10], [0, 5, 10]), ([11], [11])])
def numnahref08_Proves.B4 : List Nat := [0, 0, 0, 6, 14, 30, 0, 0, 192, 448, 960, 2047, 4095]
theorem numnahref08_Proves.tab4 : rtab .any (opsOf Tryz.f40 4) = numnahref08_Proves.T4 := by kernel_rfl
theorem numnahref08_Proves.bits4 : waitsOk numnahref08_Proves.T4.2 numnahref08_Proves.B4 = true := by kernel_rfl
set_option maxHeartbeats 8000000 in
set_option maxRecDepth 100000 in
theorem numnahref08_Proves.calls (k : Nat) (A0 : Option Addr) (c0 : Nat) (l0 : List (S94)) (a1 : ByteArray) (r : Bool) (w : World) (hr0 : Kd.C k94 w A0 l0.length l0) (hc0 : l0.length ≤ c0) (h : numnahref08_Proves.f k l0 a1 = some r) :
  Calls Tryz.prog 40 #[.slice A0 l0.length c0, .string a1] w fun e w' => e = .returned (.bool r) ∧ Below w.heap.size w w' := by
 have HR0 := Aside0.mk hr0
 have HC0 := Aside0.mk hc0
 clear hr0 hc0
 have HB := Aside0.mk (Below.refl w.heap.size w)
 have H : (numnahref08_Proves.l0 k l0 a1 0) = some r := h
 clear h
 have H' := Aside0.mk H
 clear H
 go_enter Tryz.func40, Tryz.ntmps40
 go_wp2
 go_loopg [5] k (fun kq v5 w' => ∃ (x5_1 : Int), v5 = .int .i64 x5_1 ∧ Aside0 (numnahref08_Proves.l0 kq l0 a1 x5_1 = some r) ∧ Aside0 (kq ≤ k) ∧ Aside0 (Below w.heap.size w w'))
 case atStart => exact ⟨(0), tS_, H', ⟨Nat.le_refl _⟩, ⟨by repeat (first | (with_reducible first | exact HB.out | apply below_alloc | apply pw_below_drewN | apply below_drew1) | exact HB.out)⟩⟩
 case round =>
  clear H'
  try clear p2
  obtain ⟨x5_1, rfl, HA, HK1, HB⟩ := hrel
  cases gk with
  | zero => exact absurd HA.out (by simp [numnahref08_Proves.l0])
  | succ k1 =>
   have H := HA.out
   clear HA
   simp only [numnahref08_Proves.l0] at H
   by_cases c3 : x5_1 < (l0.length : Int)
   ·rw [if_pos c3] at H
    have c3b0 : decide (x5_1 < (l0.length : Int)) = true := decide_eq_true c3
    clear c3
    by_cases c4 : 0 ≤ x5_1
    ·rw [if_pos c4] at H
     have c4b0 : decide (0 ≤ x5_1) = true := decide_eq_true c4
     clear c4
     replace H := Option.bind_eq_some_iff.mp H
     obtain ⟨t394, A50, H⟩ := H
     replace H : (if t394 = true then (numnahref08_Proves.l0 k1 l0 a1 (wrap64 (x5_1 + 1))) else (some false)) = some r := H
     have A5 := Aside0.mk A50
     clear A50
     by_cases c6 : t394 = true
     ·subst c6
      have H1 : (numnahref08_Proves.l0 k1 l0 a1 (wrap64 (x5_1 + 1))) = some r := by rw [if_pos rfl] at H; exact H
      clear H
      have H := H1
      clear H1
      have H' := Aside0.mk H
      clear H
      try go_wp2
      have n0_ := Aside0.mk (below_drew1 HB.out)
      clear HB
      have HB := n0_
      clear n0_
      have p392 : 0 ≤ (x5_1 : Int) := of_decide_eq_true tA_
      have q392 : x5_1 < (l0.length : Int) := of_decide_eq_true tA_
      obtain ⟨ad392, e392, hx392_0, hx392_1⟩ := at_T94 HR0.out x5_1 p392 q392
      have hw392_1 := hx392_1
      have hw392_0 := hx392_0
      cases e392
      replace hx392_0 := (HB.out.cell (World.block_lt_of_cell? w _ hx392_0)).trans hx392_0
      replace hx392_1 := (HB.out.cell (World.block_lt_of_cell? w _ hx392_1)).trans hx392_1
      replace p392 := eq_true p392
      replace q392 := eq_true q392
      have p393 : 0 ≤ (x5_1 : Int) := of_decide_eq_true tA_
      have q393 : x5_1 < (l0.length : Int) := of_decide_eq_true tA_
      obtain ⟨ad393, e393, hx393_0, hx393_1⟩ := at_T94 HR0.out x5_1 p393 q393
      have hw393_1 := hx393_1
      have hw393_0 := hx393_0
      obtain rfl : ad392 = ad393 := (by injection e393)
      replace hx393_0 := (HB.out.cell (World.block_lt_of_cell? w _ hx393_0)).trans hx393_0
      replace hx393_1 := (HB.out.cell (World.block_lt_of_cell? w _ hx393_1)).trans hx393_1
      replace p393 := eq_true p393
      replace q393 := eq_true q393
      refine start_ (n := 13) (S := fun w' => w'.cell? (ad392.add ((x5_1).toNat * 2)) = some (.string ((rd_T94 l0 x5_1).f0)) ∧ w'.cell? ⟨(ad392.add ((x5_1).toNat * 2)).block, (ad392.add ((x5_1).toNat * 2)).off + 1, none⟩ = some (.string ((rd_T94 l0 x5_1).f1)) ∧ w'.cell? (ad392.add ((x5_1).toNat * 2)) = some (.string ((rd_T94 l0 x5_1).f0)) ∧ w'.cell? ⟨(ad392.add ((x5_1).toNat * 2)).block, (ad392.add ((x5_1).toNat * 2)).off + 1, none⟩ = some (.string ((rd_T94 l0 x5_1).f1))) (ds := []) (bm 13 0) (by kernel_rfl) rfl rfl ⟨((HB.out.cell (World.block_lt_of_cell? w _ hw392_0)).trans hw392_0), ((HB.out.cell (World.block_lt_of_cell? w _ hw392_1)).trans hw392_1), ((HB.out.cell (World.block_lt_of_cell? w _ hw393_0)).trans hw393_0), ((HB.out.cell (World.block_lt_of_cell? w _ hw393_1)).trans hw393_1)⟩ (fun hHeld => ?_); refine with_tabW numnahref08_Proves.tab4 numnahref08_Proves.bits4 (fun HT_ HW_ => ?_)
      generalize wr.drew = w7 at HB hx392_0 hx392_1 hx393_0 hx393_1 hHeld ⊢
      refine pure_ (i := 0) (N := some 12) (bm 13 1) rfl rfl (any_of HT_.out (by kernel_rfl)) (fun _ _ _ h => h) (.inl ⟨rfl, tY_⟩) tP_ ?_
      refine pure_ (i := 1) (N := some 13) (bm 13 3) rfl rfl (any_of HT_.out (by kernel_rfl)) (fun _ _ _ h => h) (.inl ⟨rfl, tY_⟩) tP_ ?_
      refine pure_ (i := 2) (N := some 14) (bm 13 7) rfl rfl (any_of HT_.out (by kernel_rfl)) (fun _ _ _ h => h) (.inl ⟨rfl, tY_⟩) tP_ ?_
      refine pure_ (i := 3) (N := some 15) (bm 13 15) rfl rfl (any_of HT_.out (by kernel_rfl)) (fun _ _ _ h => h) (.inl ⟨rfl, tY_⟩) tP_ ?_
      refine pure_ (i := 4) (N := some 16) (bm 13 31) rfl rfl (any_of HT_.out (by kernel_rfl)) (fun _ _ _ h => h) (.inl ⟨rfl, tY_⟩) tP_ ?_
      refine pure_ (i := 6) (N := some 18) (bm 13 95) rfl rfl (any_of HT_.out (by kernel_rfl)) (fun _ _ _ h => h) (.inl ⟨rfl, tY_⟩) tP_ ?_
      refine pure_ (i := 7) (N := some 19) (bm 13 223) rfl rfl (any_of HT_.out (by kernel_rfl)) (fun _ _ _ h => h) (.inl ⟨rfl, tY_⟩) tP_ ?_
      refine pure_ (i := 8) (N := some 20) (bm 13 479) rfl rfl (any_of HT_.out (by kernel_rfl)) (fun _ _ _ h => h) (.inl ⟨rfl, tY_⟩) tP_ ?_
      refine pure_ (i := 9) (N := some 21) (bm 13 991) rfl rfl (any_of HT_.out (by kernel_rfl)) (fun _ _ _ h => h) (.inl ⟨rfl, tY_⟩) tP_ ?_
      refine take_ (i := 5) (N := some 17) (v := ?_) (a' := ?_) (bm 13 1023) rfl rfl (take_ofW HT_.out HW_.out (by kernel_rfl)) (fun _ _ _ h => h) (Or.inl ⟨by rfl, ?_⟩) hHeld ?_ ?_; rotate_left; (rintro w' ⟨s0, s1, s2, s3⟩; go_simp; with_reducible rfl); rotate_left; exact tP_
      refine take_ (i := 10) (N := some 22) (v := ?_) (a' := ?_) (bm 13 2047) rfl rfl (take_ofW HT_.out HW_.out (by kernel_rfl)) (fun _ _ _ h => h) (Or.inl ⟨by rfl, ?_⟩) hHeld ?_ ?_; rotate_left; (rintro w' ⟨s0, s1, s2, s3⟩; go_simp; with_reducible rfl); rotate_left; exact tP_
      refine one_ (i := 11) (N := some 23) (bm 13 4095) rfl rfl (one_of HT_.out (by kernel_rfl)) (by decide) (fun K hK => ?_)
      refine goes_ Tryz.func44 (by kernel_rfl) rfl #[.string a1, .string ((rd_T94 l0 x5_1).f0), .string ((rd_T94 l0 x5_1).f1)] (by rfl) rfl rfl tM_ ?_
      with_reducible refine (numnahref08_Greater.calls a1 ((rd_T94 l0 x5_1).f0) ((rd_T94 l0 x5_1).f1) true _ A5.out).mono ?_
      rintro e w8 ⟨rfl, hb⟩
      refine ⟨_, rfl, ?_⟩
      have n0_ := Aside0.mk (below_step (tB_ HB) hb)
      clear HB
      have HB := n0_
      clear n0_
      (try clear hb)
      (try clear hb2)
      (try clear hk)
      (try clear hi)
      refine hK.out _ _ ⟨((HB.out.cell (World.block_lt_of_cell? w _ hw392_0)).trans hw392_0), ((HB.out.cell (World.block_lt_of_cell? w _ hw392_1)).trans hw392_1), ((HB.out.cell (World.block_lt_of_cell? w _ hw393_0)).trans hw393_0), ((HB.out.cell (World.block_lt_of_cell? w _ hw393_1)).trans hw393_1)⟩ (fun hHeld => ?_)
      clear hK K
      refine norm_ (a' := ?_) ?_ ?_; rotate_left; (show Act.put _ (some 23) _ = _; exact tP_)
      refine pure_ (i := 12) (N := some 24) (bm 13 8191) rfl rfl (any_of HT_.out (by kernel_rfl)) (fun _ _ _ h => h) (.inl ⟨rfl, tY_⟩) tP_ ?_
      refine done_ (done_of HT_.out (by kernel_rfl)) ?_
      try go_wp2
      go_roundg k1
      case measure => have := HK1.out; omega
      case rel => exact ⟨(wrap64 (x5_1 + 1)), tS_, H', ⟨by have := HK1.out; omega⟩, ⟨by repeat (first | (with_reducible first | exact HB.out | apply below_alloc | apply pw_below_drewN | apply below_drew1) | exact HB.out)⟩⟩
     ·replace c6 := Bool.eq_false_iff.mpr c6
      subst c6
      have H1 : (some false) = some r := by rw [if_neg (show ¬ (false = true) by decide)] at H; exact H
      clear H
      have H := H1
      clear H1
      obtain rfl := Option.some.inj H
      try go_wp2
      have n0_ := Aside0.mk (below_drew1 HB.out)
      clear HB
      have HB := n0_
      clear n0_
      have p392 : 0 ≤ (x5_1 : Int) := of_decide_eq_true tA_
      have q392 : x5_1 < (l0.length : Int) := of_decide_eq_true tA_
      obtain ⟨ad392, e392, hx392_0, hx392_1⟩ := at_T94 HR0.out x5_1 p392 q392
      have hw392_1 := hx392_1
      have hw392_0 := hx392_0
      cases e392
      replace hx392_0 := (HB.out.cell (World.block_lt_of_cell? w _ hx392_0)).trans hx392_0
      replace hx392_1 := (HB.out.cell (World.block_lt_of_cell? w _ hx392_1)).trans hx392_1
      replace p392 := eq_true p392
      replace q392 := eq_true q392
      have p393 : 0 ≤ (x5_1 : Int) := of_decide_eq_true tA_
      have q393 : x5_1 < (l0.length : Int) := of_decide_eq_true tA_
      obtain ⟨ad393, e393, hx393_0, hx393_1⟩ := at_T94 HR0.out x5_1 p393 q393
      have hw393_1 := hx393_1
      have hw393_0 := hx393_0
      obtain rfl : ad392 = ad393 := (by injection e393)
      replace hx393_0 := (HB.out.cell (World.block_lt_of_cell? w _ hx393_0)).trans hx393_0
      replace hx393_1 := (HB.out.cell (World.block_lt_of_cell? w _ hx393_1)).trans hx393_1
      replace p393 := eq_true p393
      replace q393 := eq_true q393
      refine start_ (n := 13) (S := fun w' => w'.cell? (ad392.add ((x5_1).toNat * 2)) = some (.string ((rd_T94 l0 x5_1).f0)) ∧ w'.cell? ⟨(ad392.add ((x5_1).toNat * 2)).block, (ad392.add ((x5_1).toNat * 2)).off + 1, none⟩ = some (.string ((rd_T94 l0 x5_1).f1)) ∧ w'.cell? (ad392.add ((x5_1).toNat * 2)) = some (.string ((rd_T94 l0 x5_1).f0)) ∧ w'.cell? ⟨(ad392.add ((x5_1).toNat * 2)).block, (ad392.add ((x5_1).toNat * 2)).off + 1, none⟩ = some (.string ((rd_T94 l0 x5_1).f1))) (ds := []) (bm 13 0) (by kernel_rfl) rfl rfl ⟨((HB.out.cell (World.block_lt_of_cell? w _ hw392_0)).trans hw392_0), ((HB.out.cell (World.block_lt_of_cell? w _ hw392_1)).trans hw392_1), ((HB.out.cell (World.block_lt_of_cell? w _ hw393_0)).trans hw393_0), ((HB.out.cell (World.block_lt_of_cell? w _ hw393_1)).trans hw393_1)⟩ (fun hHeld => ?_); refine with_tabW numnahref08_Proves.tab4 numnahref08_Proves.bits4 (fun HT_ HW_ => ?_)
      generalize wr.drew = w9 at HB hx392_0 hx392_1 hx393_0 hx393_1 hHeld ⊢
      refine pure_ (i := 0) (N := some 12) (bm 13 1) rfl rfl (any_of HT_.out (by kernel_rfl)) (fun _ _ _ h => h) (.inl ⟨rfl, tY_⟩) tP_ ?_
      refine pure_ (i := 1) (N := some 13) (bm 13 3) rfl rfl (any_of HT_.out (by kernel_rfl)) (fun _ _ _ h => h) (.inl ⟨rfl, tY_⟩) tP_ ?_
      refine pure_ (i := 2) (N := some 14) (bm 13 7) rfl rfl (any_of HT_.out (by kernel_rfl)) (fun _ _ _ h => h) (.inl ⟨rfl, tY_⟩) tP_ ?_
      refine pure_ (i := 3) (N := some 15) (bm 13 15) rfl rfl (any_of HT_.out (by kernel_rfl)) (fun _ _ _ h => h) (.inl ⟨rfl, tY_⟩) tP_ ?_
      refine pure_ (i := 4) (N := some 16) (bm 13 31) rfl rfl (any_of HT_.out (by kernel_rfl)) (fun _ _ _ h => h) (.inl ⟨rfl, tY_⟩) tP_ ?_
      refine pure_ (i := 6) (N := some 18) (bm 13 95) rfl rfl (any_of HT_.out (by kernel_rfl)) (fun _ _ _ h => h) (.inl ⟨rfl, tY_⟩) tP_ ?_
      refine pure_ (i := 7) (N := some 19) (bm 13 223) rfl rfl (any_of HT_.out (by kernel_rfl)) (fun _ _ _ h => h) (.inl ⟨rfl, tY_⟩) tP_ ?_
      refine pure_ (i := 8) (N := some 20) (bm 13 479) rfl rfl (any_of HT_.out (by kernel_rfl)) (fun _ _ _ h => h) (.inl ⟨rfl, tY_⟩) tP_ ?_
      refine pure_ (i := 9) (N := some 21) (bm 13 991) rfl rfl (any_of HT_.out (by kernel_rfl)) (fun _ _ _ h => h) (.inl ⟨rfl, tY_⟩) tP_ ?_
      refine take_ (i := 5) (N := some 17) (v := ?_) (a' := ?_) (bm 13 1023) rfl rfl (take_ofW HT_.out HW_.out (by kernel_rfl)) (fun _ _ _ h => h) (Or.inl ⟨by rfl, ?_⟩) hHeld ?_ ?_; rotate_left; (rintro w' ⟨s0, s1, s2, s3⟩; go_simp; with_reducible rfl); rotate_left; exact tP_
      refine take_ (i := 10) (N := some 22) (v := ?_) (a' := ?_) (bm 13 2047) rfl rfl (take_ofW HT_.out HW_.out (by kernel_rfl)) (fun _ _ _ h => h) (Or.inl ⟨by rfl, ?_⟩) hHeld ?_ ?_; rotate_left; (rintro w' ⟨s0, s1, s2, s3⟩; go_simp; with_reducible rfl); rotate_left; exact tP_
      refine one_ (i := 11) (N := some 23) (bm 13 4095) rfl rfl (one_of HT_.out (by kernel_rfl)) (by decide) (fun K hK => ?_)
      refine goes_ Tryz.func44 (by kernel_rfl) rfl #[.string a1, .string ((rd_T94 l0 x5_1).f0), .string ((rd_T94 l0 x5_1).f1)] (by rfl) rfl rfl tM_ ?_
      with_reducible refine (numnahref08_Greater.calls a1 ((rd_T94 l0 x5_1).f0) ((rd_T94 l0 x5_1).f1) false _ A5.out).mono ?_
      rintro e w10 ⟨rfl, hb⟩
      refine ⟨_, rfl, ?_⟩
      have n0_ := Aside0.mk (below_step (tB_ HB) hb)
      clear HB
      have HB := n0_
      clear n0_
      (try clear hb)
      (try clear hb2)
      (try clear hk)
      (try clear hi)
      refine hK.out _ _ ⟨((HB.out.cell (World.block_lt_of_cell? w _ hw392_0)).trans hw392_0), ((HB.out.cell (World.block_lt_of_cell? w _ hw392_1)).trans hw392_1), ((HB.out.cell (World.block_lt_of_cell? w _ hw393_0)).trans hw393_0), ((HB.out.cell (World.block_lt_of_cell? w _ hw393_1)).trans hw393_1)⟩ (fun hHeld => ?_)
      clear hK K
      refine norm_ (a' := ?_) ?_ ?_; rotate_left; (show Act.put _ (some 23) _ = _; exact tP_)
      refine pure_ (i := 12) (N := some 24) (bm 13 8191) rfl rfl (any_of HT_.out (by kernel_rfl)) (fun _ _ _ h => h) (.inl ⟨rfl, tY_⟩) tP_ ?_
      refine done_ (done_of HT_.out (by kernel_rfl)) ?_
      try go_wp2
      go_ret
      exact ⟨by first | rfl | (simp [errW_none, errW_some] <;> rfl) | (simp [*, errW_none, errW_some] <;> rfl), by repeat (first | (with_reducible first | exact HB.out | apply below_alloc | apply pw_below_drewN | apply below_drew1) | exact HB.out)⟩
    ·rw [if_neg c4] at H
     exact absurd H (by simp)
   ·rw [if_neg c3] at H
    have c3b0 : decide (x5_1 < (l0.length : Int)) = false := decide_eq_false c3
    clear c3
    obtain rfl := Option.some.inj H
    go_wp2
    go_ret
    exact ⟨by first | rfl | (simp [errW_none, errW_some] <;> rfl) | (simp [*, errW_none, errW_some] <;> rfl), by repeat (first | (with_reducible first | exact HB.out | apply below_alloc | apply pw_below_drewN | apply below_drew1) | exact HB.out)⟩

/-! ### numnahref08_Orient: function 38 -/
def numnahref08_Orient.l0 : Nat → List (S94) → List ByteArray → Int → Option (ByteArray × Bool)
 | 0, _, _, _ => none
 | k + 1, x0, x4, x5 => if x5 < (x4.length : Int) then (if 0 ≤ x5 then ((numnahref08_Proves.f k x0 (rdOf ByteArray.empty x4 x5)).bind fun t409 => (if t409 = true then (some (rdOf ByteArray.empty x4 x5, true)) else (numnahref08_Orient.l0 k x0 x4 (wrap64 (x5 + 1))))) else (none)) else (some ((⟨#[]⟩ : ByteArray), false))
def numnahref08_Orient.f (k : Nat) (l0 : List (S94)) : Option (ByteArray × Bool) := (numnahref08_precedences.f k (⟨#[97, 98, 99, 100, 101, 102]⟩ : ByteArray)).bind fun t405 => (numnahref08_Orient.l0 k l0 t405 0)
theorem numnahref08_Orient.mono_l : ∀ k, (∀ y0 y1 y2, LeO (numnahref08_Orient.l0 k y0 y1 y2) (numnahref08_Orient.l0 (k + 1) y0 y1 y2))
 | 0 => fun _ _ _ r h => by simp [numnahref08_Orient.l0] at h
 | k + 1 => by
  have ih0 := numnahref08_Orient.mono_l k
  ·intro y0 y1 y2
   unfold numnahref08_Orient.l0
   repeat' first
   | (with_reducible exact ih0 _ _ _)
   | (with_reducible exact numnahref08_Proves.mono _ _ _)
   | (with_reducible exact numnahref08_precedences.mono _ _)
   | (with_reducible exact LeO.refl _)
   | (with_reducible exact LeO.none _)
   | (with_reducible refine LeO.ite ?_ ?_)
   | (with_reducible refine LeO.bind ?_ (fun _ => ?_))
   | exact ih0 _ _ _
   | exact numnahref08_Proves.mono _ _ _
   | exact numnahref08_precedences.mono _ _
   | exact LeO.none _
   | refine LeO.ite ?_ ?_
   | refine LeO.bind ?_ (fun _ => ?_)
theorem numnahref08_Orient.mono : ∀ a0 k, LeO (numnahref08_Orient.f k a0) (numnahref08_Orient.f (k + 1) a0) := by
 intro a0 k
 have ih0 := numnahref08_Orient.mono_l k
 unfold numnahref08_Orient.f
 repeat' first
   | (with_reducible exact ih0 _ _ _)
   | (with_reducible exact numnahref08_Proves.mono _ _ _)
   | (with_reducible exact numnahref08_precedences.mono _ _)
   | (with_reducible exact LeO.refl _)
   | (with_reducible exact LeO.none _)
   | (with_reducible refine LeO.ite ?_ ?_)
   | (with_reducible refine LeO.bind ?_ (fun _ => ?_))
   | exact ih0 _ _ _
   | exact numnahref08_Proves.mono _ _ _
   | exact numnahref08_precedences.mono _ _
   | exact LeO.none _
   | refine LeO.ite ?_ ?_
   | refine LeO.bind ?_ (fun _ => ?_)
set_option maxHeartbeats 8000000 in
set_option maxRecDepth 100000 in
theorem numnahref08_Orient.calls (k : Nat) (A0 : Option Addr) (c0 : Nat) (l0 : List (S94)) (r1 : ByteArray) (r2 : Bool) (w : World) (hr0 : Kd.C k94 w A0 l0.length l0) (hc0 : l0.length ≤ c0) (h : numnahref08_Orient.f k l0 = some (r1, r2)) :
  Calls Tryz.prog 38 #[.slice A0 l0.length c0] w fun e w' => e = .returned (.tuple #[.string r1, .bool r2]) ∧ Below w.heap.size w w' := by
 have HR0 := Aside0.mk hr0
 have HC0 := Aside0.mk hc0
 clear hr0 hc0
 have HB := Aside0.mk (Below.refl w.heap.size w)
 have H : ((numnahref08_precedences.f k (⟨#[97, 98, 99, 100, 101, 102]⟩ : ByteArray)).bind fun t405 => (numnahref08_Orient.l0 k l0 t405 0)) = some (r1, r2) := h
 clear h
 replace H := Option.bind_eq_some_iff.mp H
 obtain ⟨t405, A20, H⟩ := H
 replace H : (numnahref08_Orient.l0 k l0 t405 0) = some (r1, r2) := H
 have A2 := Aside0.mk A20
 clear A20
 have H' := Aside0.mk H
 clear H
 go_enter Tryz.func38, Tryz.ntmps38
 go_wp2_with (first | ((with_reducible refine gate_callee (f := 91) rfl ?_); refine goesL_ (some 6) rfl rfl Tryz.func91 (by kernel_rfl) rfl #[.string (⟨#[97, 98, 99, 100, 101, 102]⟩ : ByteArray)] rfl tM_ ?_; (with_reducible refine (numnahref08_precedences.calls k (⟨#[97, 98, 99, 100, 101, 102]⟩ : ByteArray) t405 _ A2.out).mono ?_); rintro e w3 ⟨v406, rfl, ho0, hb⟩; refine ⟨_, rfl, ?_⟩; have n0_ := Aside0.mk (Kd.R_lower ho0 (below_size (tB_ HB))); have n1_ := Aside0.mk (below_step (tB_ HB) hb); clear HB; have HO407 := n0_; have HB := n1_; clear n0_ n1_; (try clear hb); (try clear hb2); (try clear hk); (try clear hi); (try clear ho0)))
 go_loopg [5] k (fun kq v5 w' => ∃ (x5_1 : Int), v5 = .int .i64 x5_1 ∧ Aside0 (numnahref08_Orient.l0 kq l0 t405 x5_1 = some (r1, r2)) ∧ Aside0 (kq ≤ k) ∧ Aside0 (Kd.R Kd.string 9 w' w.heap.size (fun _ => True) v406 t405) ∧ Aside0 (Below w.heap.size w w'))
 case atStart => exact ⟨(0), tS_, H', ⟨Nat.le_refl _⟩, ⟨by (with_reducible repeat (first | apply Kd.R_alloc | apply Kd.R_drewN | apply Kd.R_drew)); exact HO407.out⟩, ⟨by repeat (first | (with_reducible first | exact HB.out | apply below_alloc | apply pw_below_drewN | apply below_drew1) | exact HB.out)⟩⟩
 case round =>
  clear H'
  try clear p2
  try clear c3
  obtain ⟨x5_1, rfl, HA, HK1, HO_4, HB⟩ := hrel
  cases gk with
  | zero => exact absurd HA.out (by simp [numnahref08_Orient.l0])
  | succ k1 =>
   have H := HA.out
   clear HA
   simp only [numnahref08_Orient.l0] at H
   by_cases c4 : x5_1 < (t405.length : Int)
   ·rw [if_pos c4] at H
    have c4b0 : decide (x5_1 < (t405.length : Int)) = true := decide_eq_true c4
    clear c4
    by_cases c5 : 0 ≤ x5_1
    ·rw [if_pos c5] at H
     have c5b0 : decide (0 ≤ x5_1) = true := decide_eq_true c5
     clear c5
     replace H := Option.bind_eq_some_iff.mp H
     obtain ⟨t409, A60, H⟩ := H
     replace H : (if t409 = true then (some (rdOf ByteArray.empty t405 x5_1, true)) else (numnahref08_Orient.l0 k1 l0 t405 (wrap64 (x5_1 + 1)))) = some (r1, r2) := H
     have A6 := Aside0.mk A60
     clear A60
     by_cases c7 : t409 = true
     ·subst c7
      have H1 : (some (rdOf ByteArray.empty t405 x5_1, true)) = some (r1, r2) := by rw [if_pos rfl] at H; exact H
      clear H
      have H := H1
      clear H1
      simp only [Option.some.injEq, Prod.mk.injEq] at H
      obtain ⟨rfl, rfl⟩ := H
      obtain ⟨Ao8, co8, eo8⟩ := Kd.R_slice HO_4.out
      subst eo8
      have p408 : 0 ≤ (x5_1 : Int) := of_decide_eq_true tA_
      have q408 : x5_1 < (t405.length : Int) := of_decide_eq_true tA_
      obtain ⟨ad408, e408, hx408_0⟩ := Kd.at_string (Kd.R_reads' HO_4.out).2.2 x5_1 p408 q408
      cases e408
      replace p408 := eq_true p408
      replace q408 := eq_true q408
      go_wp2_with (first | ((with_reducible refine gate_callee (f := 40) rfl ?_); refine goesL_ (some 18) rfl rfl Tryz.func40 (by kernel_rfl) rfl #[.slice A0 l0.length c0, .string (rdOf ByteArray.empty t405 x5_1)] rfl tM_ ?_; (with_reducible refine (numnahref08_Proves.calls k1 _ _ l0 (rdOf ByteArray.empty t405 x5_1) true _ ?side1 ?side2 A6.out).mono ?_); (case side1 => repeat (first | exact (Kd.C_below HR0.out HB.out) | (with_reducible refine Kd.C_alloc ?_ _) | (with_reducible refine Kd.C_drewN ?_ _) | (with_reducible refine Kd.C_drew ?_))); (case side2 => exact HC0.out); rintro e w9 ⟨rfl, hb⟩; refine ⟨_, rfl, ?_⟩; have n0_ := Aside0.mk (Kd.R_below (tR_ HO_4) hb); have n1_ := Aside0.mk (below_step (tB_ HB) hb); clear HO_4; clear HB; have HO_4 := n0_; have HB := n1_; clear n0_ n1_; (try clear hb); (try clear hb2); (try clear hk); (try clear hi); have p410 : 0 ≤ (x5_1 : Int) := of_decide_eq_true tA_; have q410 : x5_1 < (t405.length : Int) := of_decide_eq_true tA_; obtain ⟨ad410, e410, hx410_0⟩ := Kd.at_string (Kd.R_reads' HO_4.out).2.2 x5_1 p410 q410; obtain rfl : ad408 = ad410 := (by injection e410); replace p410 := eq_true p410; replace q410 := eq_true q410))
      go_ret2
      exact ⟨by first | rfl | (simp [errW_none, errW_some] <;> rfl) | (simp [*, errW_none, errW_some] <;> rfl), by repeat (first | (with_reducible first | exact HB.out | apply below_alloc | apply pw_below_drewN | apply below_drew1) | exact HB.out)⟩
     ·replace c7 := Bool.eq_false_iff.mpr c7
      subst c7
      have H1 : (numnahref08_Orient.l0 k1 l0 t405 (wrap64 (x5_1 + 1))) = some (r1, r2) := by rw [if_neg (show ¬ (false = true) by decide)] at H; exact H
      clear H
      have H := H1
      clear H1
      have H' := Aside0.mk H
      clear H
      obtain ⟨Ao10, co10, eo10⟩ := Kd.R_slice HO_4.out
      subst eo10
      have p408 : 0 ≤ (x5_1 : Int) := of_decide_eq_true tA_
      have q408 : x5_1 < (t405.length : Int) := of_decide_eq_true tA_
      obtain ⟨ad408, e408, hx408_0⟩ := Kd.at_string (Kd.R_reads' HO_4.out).2.2 x5_1 p408 q408
      cases e408
      replace p408 := eq_true p408
      replace q408 := eq_true q408
      go_wp2_with (first | ((with_reducible refine gate_callee (f := 40) rfl ?_); refine goesL_ (some 18) rfl rfl Tryz.func40 (by kernel_rfl) rfl #[.slice A0 l0.length c0, .string (rdOf ByteArray.empty t405 x5_1)] rfl tM_ ?_; (with_reducible refine (numnahref08_Proves.calls k1 _ _ l0 (rdOf ByteArray.empty t405 x5_1) false _ ?side1 ?side2 A6.out).mono ?_); (case side1 => repeat (first | exact (Kd.C_below HR0.out HB.out) | (with_reducible refine Kd.C_alloc ?_ _) | (with_reducible refine Kd.C_drewN ?_ _) | (with_reducible refine Kd.C_drew ?_))); (case side2 => exact HC0.out); rintro e w11 ⟨rfl, hb⟩; refine ⟨_, rfl, ?_⟩; have n0_ := Aside0.mk (Kd.R_below (tR_ HO_4) hb); have n1_ := Aside0.mk (below_step (tB_ HB) hb); clear HO_4; clear HB; have HO_4 := n0_; have HB := n1_; clear n0_ n1_; (try clear hb); (try clear hb2); (try clear hk); (try clear hi)))
      go_roundg k1
      case measure => have := HK1.out; omega
      case rel => exact ⟨(wrap64 (x5_1 + 1)), tS_, H', ⟨by have := HK1.out; omega⟩, ⟨by (with_reducible repeat (first | apply Kd.R_alloc | apply Kd.R_drewN | apply Kd.R_drew)); exact HO_4.out⟩, ⟨by repeat (first | (with_reducible first | exact HB.out | apply below_alloc | apply pw_below_drewN | apply below_drew1) | exact HB.out)⟩⟩
    ·rw [if_neg c5] at H
     exact absurd H (by simp)
   ·rw [if_neg c4] at H
    have c4b0 : decide (x5_1 < (t405.length : Int)) = false := decide_eq_false c4
    clear c4
    simp only [Option.some.injEq, Prod.mk.injEq] at H
    obtain ⟨rfl, rfl⟩ := H
    obtain ⟨Ao12, co12, eo12⟩ := Kd.R_slice HO_4.out
    subst eo12
    go_wp2
    go_ret2
    exact ⟨by first | rfl | (simp [errW_none, errW_some] <;> rfl) | (simp [*, errW_none, errW_some] <;> rfl), by repeat (first | (with_reducible first | exact HB.out | apply below_alloc | apply pw_below_drewN | apply below_drew1) | exact HB.out)⟩

end Go.Proofs.YtaafeallcaiooaaGreat.Pr
-- indented by one
