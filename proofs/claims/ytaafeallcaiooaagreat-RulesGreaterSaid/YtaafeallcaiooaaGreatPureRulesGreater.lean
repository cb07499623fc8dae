/- RulesGreater: Greater answers as the reference says. -/
import Derived.Test.YtaafeallcaiooaaGreatHRh1
import Derived.Test.YtaafeallcaiooaaGreatPr0
import Derived.Test.YtaafeallcaiooaaGreatPrA1
import Derived.Test.YtaafeallcaiooaaGreatPrA3
import Derived.Test.YtaafeallcaiooaaGreatHOo
import Derived.Test.YtaafeallcaiooaaGreatPrB1
import Derived.Test.YtaafeallcaiooaaGreatHRu
import Derived.Test.YtaafeallcaiooaaGreatHSr
/- the reference's Greater. -/
namespace Go.Proofs.YtaafeallcaiooaaGreat.Pr
open Go.RowKit Go.Maps Go.Proofs.YtaafeallcaiooaaGreatW.PrintWords Go.Proofs.YtaafeallcaiooaaGreatW.PrintLast Go.Proofs.YtaafeallcaiooaaGreatW.PrintMore
set_option linter.unusedVariables false
set_option linter.unusedSimpArgs false
theorem decK (p s t : ByteArray) (hP : IsPrec p) (hs : s.size ≤ 1000000) (ht : t.size ≤ 1000000) (A : Addr) (cap : Nat) (ar : Nat → Addr) (cr : Nat → Nat) (a b : Tm) (i j : Nat) (ha : AtB s i a) (hb : AtB t j b)
    (ih : ∀ (a' b' : Tm) (i j : Nat), AtB s i a' → AtB t j b' → a'.size + b'.size ≤ a.size + b.size - 1 → GrK 94 p s t A cap ar cr (a'.size + b'.size) a' b' i j) : GrK 131 p s t A cap ar cr (a.size + b.size - 1) a b i j := by
  cases a with
  | var c => exact decide_v p s t A cap ar cr c b i j _ ha
  | app sy l =>
    cases b with
    | var v => exact decide_av p s t hs A cap ar cr sy l v i j _ ha hb
    | app sy' l' => exact decide_aa p s t hP hs ht A cap ar cr sy l sy' l' i j ha hb ih
theorem grK_all (p s t : ByteArray) (hP : IsPrec p) (hs : s.size ≤ 1000000) (ht : t.size ≤ 1000000) (A : Addr) (cap : Nat) (ar : Nat → Addr) (cr : Nat → Nat) : ∀ (n : Nat) (a b : Tm) (i j : Nat), a.size + b.size ≤ n → AtB s i a → AtB t j b → GrK 94 p s t A cap ar cr (a.size + b.size) a b i j
  | 0, a, b, i, j, hn, _, _ => by have := Tm.size_pos a; have := Tm.size_pos b; omega
  | n + 1, a, b, i, j, hn, ha, hb => greaterK_of p s t A cap ar cr a b i j ha hb (decK p s t hP hs ht A cap ar cr a b i j ha hb (fun a' b' i' j' h1 h2 h3 => grK_all p s t hP hs ht A cap ar cr n a' b' i' j' (by omega) h1 h2))
def encS (h : Option Addr × Nat × Nat) : Value := .slice h.1 h.2.1 h.2.2
theorem encS_one (h : Option Addr × Nat × Nat) : (encS h).oneCell' = true := rfl
def kS : Kd (Option Addr × Nat × Nat) := Kd.scalar encS encS_one
/-- rows of m zeros, in blocks of the call -/
def RowZ (w0 w : World) (m k : Nat) (v : Value) (hs : List (Option Addr × Nat × Nat)) (gr : Nat → Nat) : Prop := (∀ i, i < k → hs[i]? = some (some ⟨gr i, 0, none⟩, m, m) ∧ w0.heap.size ≤ gr i ∧ gr i < w.heap.size ∧ w.heap[gr i]? = some (.cells (madeCells #[.int .i64 0] m) 3 (0, 0)) ∧ some (gr i) ≠ v.ownBlock) ∧ ∀ i i', i < k → i' < k → gr i = gr i' → i = i'
def SGr (w0 : World) (m k : Nat) (v : Value) (w : World) : Prop := Below w0.heap.size w0 w ∧ ∃ hs gr, hs.length = k ∧ Kd.R kS 43 w w0.heap.size (fun _ => True) v hs ∧ RowZ w0 w m k v hs gr
theorem made_at (m j : Nat) (h : j < m) : (madeCells #[.int .i64 0] m)[j]? = some (.int .i64 0) := by
  unfold madeCells
  simp [h, Nat.mod_one]
theorem SGr.tab {w0 w : World} {m n : Nat} {v : Value} (hn : 0 < n) (h : SGr w0 m n v w) : ∃ A cap ar cr, v = .slice (some A) n cap ∧ Tab A n m ar cr w (fun _ _ => 0) ∧ ∀ k, InT n ar k → w0.heap.size ≤ k := by
  obtain ⟨hb, hs, gr, hl, hR, hZ, hinj⟩ := h
  obtain ⟨g, cap, rfl, hbg, hlt, cells, hc⟩ := Kd.R_form hR (by omega)
  obtain ⟨e1, e2, hC⟩ := Kd.R_reads' hR
  refine ⟨⟨g, 0, none⟩, cap, fun i => ⟨gr i, 0, none⟩, fun _ => m, by rw [hl], ⟨fun i hi => ?_, fun i hi => rfl, fun i hi => ?_, fun i i' hi hi' e => hinj i i' hi hi' e, fun i hi e => ?_⟩, fun k hk => ?_⟩
  · obtain ⟨ad, c, ea, _, hK, hget⟩ := Kd.C_get hC (none, 0, 0) (i : Int) (by omega) (by omega)
    have ea2 : ad = ⟨g, 0, none⟩ := by injection ea with ea; exact ea.symm
    subst ea2
    have hK2 : c = [encS (hs.getD ((i : Int)).toNat (none, 0, 0))] := hK
    rw [Int.toNat_natCast, List.getD_eq_getElem?_getD, (hZ i hi).1] at hK2
    have h3 := hget 0 (encS (some ⟨gr i, 0, none⟩, m, m)) (by rw [hK2]; rfl)
    rw [add0]
    simp [Addr.add, kS, Kd.scalar, encS] at h3
    by_cases hi0 : i = 0
    · subst hi0
      simpa using h3
    · simpa [hi0] using h3
  · exact ⟨_, (hZ i hi).2.2.2.1, fun j hj => made_at m j hj⟩
  · have := (hZ i hi).2.2.2.2
    simp [Value.ownBlock] at this
    exact this e
  · obtain ⟨i, hi, rfl⟩ := hk
    exact (hZ i hi).2.1
theorem SGr.push {w0 w w1 : World} {m k : Nat} {v v1 : Value} {hs : List (Option Addr × Nat × Nat)} {gr : Nat → Nat} (hb0 : w0.heap.size ≤ w.heap.size) (hl : hs.length = k) (hR : Kd.R kS 43 w w0.heap.size (fun _ => True) v hs) (hZ : RowZ w0 w m k v hs gr)
    (hb : Below w0.heap.size w0 w1) (ho : Kd.R kS 43 w1 w0.heap.size (fun _ => True) v1 (hs ++ [(some ⟨w.heap.size, 0, none⟩, m, m)])) (hg : (w.alloc (.cells (madeCells #[.int .i64 0] m) 3)).grownBy w1 v.ownBlock) (hat : v1.ownBlock = v.ownBlock ∨ ∃ b, v1.ownBlock = some b ∧ (w.alloc (.cells (madeCells #[.int .i64 0] m) 3)).heap.size ≤ b) : SGr w0 m (k + 1) v1 w1 := by
  have hsz : (w.alloc (.cells (madeCells #[.int .i64 0] m) 3)).heap.size = w.heap.size + 1 := World.size_alloc _ _
  rw [hsz] at hat
  have hlt := Kd.R_lt hR
  have hold : ∀ j, j < w.heap.size + 1 → some j ≠ v.ownBlock → w1.heap[j]? = (w.alloc (.cells (madeCells #[.int .i64 0] m) 3)).heap[j]? := fun j hj hne => hg.block j (by omega) hne
  have hne1 : ∀ j, j < w.heap.size + 1 → some j ≠ v.ownBlock → some j ≠ v1.ownBlock := fun j hj hne => by
    rcases hat with e | ⟨b, e, hb⟩
    · rw [e]; exact hne
    · rw [e]; intro q; injection q with q; omega
  have hnew : some w.heap.size ≠ v.ownBlock := fun e => by have := hlt _ e.symm; omega
  have hsz1 : w.heap.size + 1 ≤ w1.heap.size := by have := hg.size; omega
  refine ⟨hb, _, fun i => if i = k then w.heap.size else gr i, by rw [List.length_append, List.length_singleton, hl], ho, fun i hi => ?_, fun i i' hi hi' e => ?_⟩
  · dsimp only
    by_cases he : i = k
    · subst he
      rw [if_pos rfl]
      refine ⟨by rw [List.getElem?_append_right (by omega), hl, Nat.sub_self]; rfl, hb0, by omega, ?_, hne1 _ (by omega) hnew⟩
      rw [hold _ (by omega) hnew]
      exact blk_new w _
    · rw [if_neg he]
      obtain ⟨h1, h2, h3, h4, h5⟩ := hZ.1 i (by omega)
      refine ⟨by rw [List.getElem?_append_left (by omega)]; exact h1, h2, by omega, ?_, hne1 _ (by omega) h5⟩
      rw [hold _ (by omega) h5]
      exact blk_alloc h4 _
  · dsimp only at e
    by_cases he : i = k
    · by_cases he' : i' = k
      · rw [he, he']
      · rw [if_pos he, if_neg he'] at e
        have := (hZ.1 i' (by omega)).2.2.1
        omega
    · by_cases he' : i' = k
      · rw [if_neg he, if_pos he'] at e
        have := (hZ.1 i (by omega)).2.2.1
        omega
      · rw [if_neg he, if_neg he'] at e
        exact hZ.2 i i' (by omega) (by omega) e
set_option maxRecDepth 100000 in
set_option maxHeartbeats 2000000 in
theorem refGreater_calls (p s t : ByteArray) (hP : IsPrec p) (hs : s.size ≤ 1000000) (ht : t.size ≤ 1000000) (a b : Tm) (ha : AtB s 0 a) (hb : AtB t 0 b) (w : World) :
    Calls Tryz.prog 44 #[.string p, .string s, .string t] w fun e w' => e = .returned (.bool (gt (rankP p) a b)) ∧ Below w.heap.size w w' := by
  have hs0 := ha.lt.1
  have hmk := print_make (P := Tryz.prog) 43 3 .i64 8 Tryz.underlying43 (by kernel_rfl) (by omega) t.size (by omega)
  have HK := Aside0.mk (fun (A : Addr) (cap : Nat) (ar : Nat → Addr) (cr : Nat → Nat) => grK_all p s t hP hs ht A cap ar cr (a.size + b.size).toNat a b 0 0 (by have := Tm.size_pos a; have := Tm.size_pos b; omega) ha hb)
  have HS := Aside0.mk (And.intro hs (And.intro ht hs0))
  clear hP hs ht ha hb hs0
  go_enter Tryz.func44, Tryz.ntmps44
  go_wp2
  go_loopw [7, 8] (fun v7 v8 wr => ∃ k : Nat, v8 = .int .i64 (k : Int) ∧ Aside0 (k ≤ s.size) ∧ Aside0 (SGr w t.size k v7 wr)) (fun _ v8 _ => s.size - (intOf v8).toNat)
  case atStart => exact ⟨0, rfl, ⟨Nat.zero_le _⟩, ⟨Below.refl _ _, [], fun _ => 0, rfl, Kd.R_nil _ _ _ _ _, fun i hi => absurd hi (by omega), fun i i' hi => absurd hi (by omega)⟩⟩
  case round =>
    obtain ⟨k, rfl, HKK, HG⟩ := hrel
    by_cases hk : k < s.size
    · have hkb : decide ((k : Int) < (s.size : Int)) = true := decide_eq_true (by omega)
      have hkb2 : decide (k < s.size) = true := decide_eq_true hk
      have hw1 := wrK k (by have := HS.out.1; omega)
      obtain ⟨hb, hs, gr, hl, hR, hZ⟩ := HG.out
      obtain ⟨Ao, co, rfl⟩ := Kd.R_slice hR
      have HR := Aside0.mk (And.intro hb (And.intro hl (And.intro hR hZ)))
      have hle : (hs.length + 1) * 24 ≤ 140737488355328 := by have := HS.out.1; omega
      have HLE := Aside0.mk hle
      clear hb hl hR hZ HG hle
      go_wp2_with ((with_reducible refine gate_builtin (b := .append) (xs := #[.tmp 15, .tmp 19]) rfl ?_); at_builtin; refine Kd.R_append kS (w0 := w) w.heap.size rfl (.tmp 15) (.tmp 19) 22 43 (.slice none 0 0) 24 rfl Tryz.underlying22 info43 rfl (by decide) (by omega) (.slice Ao hs.length co) hs (some ⟨wr.heap.size, 0, none⟩, t.size, t.size) [.slice (some ⟨wr.heap.size, 0, none⟩) t.size t.size] (fun _ => True) (fun _ => False) rfl (by rw [World.size_alloc]; rfl) ?aP (fun _ hk => hk.elim) ?aF ?aO ?aB ?aS ?aL ?_; (case aP => exact rfl); (case aB => exact below_step HR.out.1 (below_alloc (Below.refl _ _) _)); (case aF => exact (fun _ _ => trivial)); (case aO => exact Kd.R_alloc HR.out.2.2.1 _); (case aS => exact (below_step HR.out.1 (below_alloc (Below.refl _ _) _)).size); (case aL => exact HLE.out); intro v9 w9 ho hb hg hat; have H9 := Aside0.mk (SGr.push HR.out.1.size HR.out.2.1 HR.out.2.2.1 HR.out.2.2.2 hb ho hg hat); clear ho hb hg hat)
      refine ⟨⟨k + 1, by first | (rw [hw1]; rfl) | rfl, ⟨hk⟩, H9⟩, ?_⟩
      try rw [hw1]
      simp only [intOf]
      clear hw1
      omega
    · have hkb : decide ((k : Int) < (s.size : Int)) = false := decide_eq_false (by omega)
      have hkb2 : decide (k < s.size) = false := decide_eq_false hk
      obtain rfl : k = s.size := by have := HKK.out; omega
      obtain ⟨A, cap, ar, cr, hv, hT, hB⟩ := SGr.tab HS.out.2.2 HG.out
      subst hv
      have hC0 := HK.out A cap ar cr wr _ hT (fun _ _ _ _ _ _ _ => .inl rfl)
      rw [show ((0 : Nat) : Int) = 0 from rfl] at hC0
      have HC := Aside0.mk hC0
      clear hC0
      have HB := Aside0.mk (And.intro HG.out.1 hB)
      clear hT hB HG HK hk HKK hmk
      go_wp2_with (go_at_call 94; refine HC.out.mono ?_; rintro e w5 ⟨rfl, hb5, _⟩; have H5 := Aside0.mk (HB.out.1.trans (hb5.below HB.out.2 HB.out.1.size)); clear hb5)
      go_ret
      exact ⟨rfl, H5.out⟩
def numnahref08_Greater.f (p x y : ByteArray) : Option Bool := if precB p = true then (readT x).bind fun a => (readT y).bind fun b => some (gt (rankP p) a b) else none
theorem numnahref08_Greater.calls (a0 a1 a2 : ByteArray) (r : Bool) (w : World) (h : numnahref08_Greater.f a0 a1 a2 = some r) :
    Calls Tryz.prog 44 #[.string a0, .string a1, .string a2] w fun e w' => e = .returned (.bool r) ∧ Below w.heap.size w w' := by
  unfold numnahref08_Greater.f at h
  split at h
  · rename_i hp
    cases hA : readT a1 with
    | none => rw [hA] at h; cases h
    | some a =>
      cases hB : readT a2 with
      | none => rw [hA, hB] at h; cases h
      | some b =>
        rw [hA, hB, Option.bind_some, Option.bind_some] at h
        injection h with h
        subst h
        have gA := readT_iff.1 hA
        have gB := readT_iff.1 hB
        have zA := text_le (t := a) (by omega)
        have zB := text_le (t := b) (by omega)
        rw [← gA.2.2] at zA
        rw [← gB.2.2] at zB
        exact refGreater_calls a0 a1 a2 (precB_is hp) (by omega) (by omega) a b ⟨gA.1, [], by rw [List.drop_zero, List.append_nil, gA.2.2, text_data]⟩ ⟨gB.1, [], by rw [List.drop_zero, List.append_nil, gB.2.2, text_data]⟩ w
  · cases h
end Go.Proofs.YtaafeallcaiooaaGreat.Pr
-- Laid by wip/tools/inj.py of this project, which drives the kit's printer. Lean checks it.
namespace Go.Proofs.YtaafeallcaiooaaGreat.Pr
open Go.RowKit Go.Proofs.YtaafeallcaiooaaGreatW.PrintWords Go.Proofs.YtaafeallcaiooaaGreatW.PrintLast Go.Proofs.YtaafeallcaiooaaGreatW.PrintMore
attribute [local go_sem] max2_int min2_int max_two min_two max_three min_three max_four min_four   -- for this text's walks alone
set_option linter.unusedVariables false
set_option linter.unusedSimpArgs false

/-! ### numnahlaw08_RulesGreater: function 8 -/
def numnahlaw08_RulesGreater.j0 : Nat → ByteArray → ByteArray → ByteArray → Bool → Int → Bool → Option (Bool)
 | 0, _, _, _, _, _, _ => none
 | k + 1, x7, x8, x9, x10, x11, x44 => if x44 = true then (if x10 = true then (some false) else (if x11 = 4 then ((numnahlaw08_awake.f k).bind fun t452 => (some t452)) else (some false))) else ((numnahref08_Greater.f x7 x8 x9).bind fun t453 => (if (x10 == t453) = true then (if x11 = 0 then ((numnahlaw08_awake.f k).bind fun t454 => (some t454)) else (some false)) else (some false)))
def numnahlaw08_RulesGreater.f (k : Nat) (a0 : ByteArray) (a1 : ByteArray) (a2 : ByteArray) : Option (Bool) := (numnahlaw08_short.f a0).bind fun t443 => ((numnahlaw08_short.f a1).bind fun t444 => ((numnahlaw08_short.f a2).bind fun t445 => ((rules_Greater.f t443 t444 t445).bind fun bt446 => ((numnahref08_Precedence.f k t443).bind fun t448 => (if t448 = true then ((numnahref08_Term.f k t444).bind fun t450 => (if t450 = true then ((numnahref08_Term.f k t445).bind fun t451 => (numnahlaw08_RulesGreater.j0 k t443 t444 t445 bt446.1 bt446.2 (!t451))) else (numnahlaw08_RulesGreater.j0 k t443 t444 t445 bt446.1 bt446.2 true))) else (if bt446.1 = true then (some false) else (if bt446.2 = 2 then ((numnahlaw08_awake.f k).bind fun t449 => (some t449)) else (some false))))))))
theorem numnahlaw08_RulesGreater.mono_l : ∀ k, (∀ y0 y1 y2 y3 y4 y5, LeO (numnahlaw08_RulesGreater.j0 k y0 y1 y2 y3 y4 y5) (numnahlaw08_RulesGreater.j0 (k + 1) y0 y1 y2 y3 y4 y5))
 | 0 => fun _ _ _ _ _ _ r h => by simp [numnahlaw08_RulesGreater.j0] at h
 | k + 1 => by
  have ih0 := numnahlaw08_RulesGreater.mono_l k
  ·intro y0 y1 y2 y3 y4 y5
   unfold numnahlaw08_RulesGreater.j0
   repeat' first
   | (with_reducible exact ih0 _ _ _ _ _ _)
   | (with_reducible exact numnahlaw08_awake.mono _)
   | (with_reducible exact numnahref08_Precedence.mono _ _)
   | (with_reducible exact numnahref08_Term.mono _ _)
   | (with_reducible exact LeO.refl _)
   | (with_reducible exact LeO.none _)
   | (with_reducible refine LeO.ite ?_ ?_)
   | (with_reducible refine LeO.bind ?_ (fun _ => ?_))
   | exact ih0 _ _ _ _ _ _
   | exact numnahlaw08_awake.mono _
   | exact numnahref08_Precedence.mono _ _
   | exact numnahref08_Term.mono _ _
   | exact LeO.none _
   | refine LeO.ite ?_ ?_
   | refine LeO.bind ?_ (fun _ => ?_)
theorem numnahlaw08_RulesGreater.mono : ∀ a0 a1 a2 k, LeO (numnahlaw08_RulesGreater.f k a0 a1 a2) (numnahlaw08_RulesGreater.f (k + 1) a0 a1 a2) := by
 intro a0 a1 a2 k
 have ih0 := numnahlaw08_RulesGreater.mono_l k
 unfold numnahlaw08_RulesGreater.f
 repeat' first
   | (with_reducible exact ih0 _ _ _ _ _ _)
   | (with_reducible exact numnahlaw08_awake.mono _)
   | (with_reducible exact numnahref08_Precedence.mono _ _)
   | (with_reducible exact numnahref08_Term.mono _ _)
   | (with_reducible exact LeO.refl _)
   | (with_reducible exact LeO.none _)
   | (with_reducible refine LeO.ite ?_ ?_)
   | (with_reducible refine LeO.bind ?_ (fun _ => ?_))
   | exact ih0 _ _ _ _ _ _
   | exact numnahlaw08_awake.mono _
   | exact numnahref08_Precedence.mono _ _
   | exact numnahref08_Term.mono _ _
   | exact LeO.none _
   | refine LeO.ite ?_ ?_
   | refine LeO.bind ?_ (fun _ => ?_)
set_option maxHeartbeats 8000000 in
set_option maxRecDepth 100000 in
theorem numnahlaw08_RulesGreater.calls (k : Nat) (a0 : ByteArray) (a1 : ByteArray) (a2 : ByteArray) (r : Bool) (w : World) (h : numnahlaw08_RulesGreater.f k a0 a1 a2 = some r) (ht : r = true := by rfl) :
  Calls Tryz.prog 8 #[.string a0, .string a1, .string a2] w fun e w' => e = .returned (.bool r) ∧ Below w.heap.size w w' := by
 have HT0_ := Aside0.mk ht
 clear ht
 have HB := Aside0.mk (Below.refl w.heap.size w)
 have H : ((numnahlaw08_short.f a0).bind fun t443 => ((numnahlaw08_short.f a1).bind fun t444 => ((numnahlaw08_short.f a2).bind fun t445 => ((rules_Greater.f t443 t444 t445).bind fun bt446 => ((numnahref08_Precedence.f k t443).bind fun t448 => (if t448 = true then ((numnahref08_Term.f k t444).bind fun t450 => (if t450 = true then ((numnahref08_Term.f k t445).bind fun t451 => (numnahlaw08_RulesGreater.j0 k t443 t444 t445 bt446.1 bt446.2 (!t451))) else (numnahlaw08_RulesGreater.j0 k t443 t444 t445 bt446.1 bt446.2 true))) else (if bt446.1 = true then (some false) else (if bt446.2 = 2 then ((numnahlaw08_awake.f k).bind fun t449 => (some t449)) else (some false))))))))) = some r := h
 clear h
 replace H := Option.bind_eq_some_iff.mp H
 obtain ⟨t443, A40, H⟩ := H
 replace H : ((numnahlaw08_short.f a1).bind fun t444 => ((numnahlaw08_short.f a2).bind fun t445 => ((rules_Greater.f t443 t444 t445).bind fun bt446 => ((numnahref08_Precedence.f k t443).bind fun t448 => (if t448 = true then ((numnahref08_Term.f k t444).bind fun t450 => (if t450 = true then ((numnahref08_Term.f k t445).bind fun t451 => (numnahlaw08_RulesGreater.j0 k t443 t444 t445 bt446.1 bt446.2 (!t451))) else (numnahlaw08_RulesGreater.j0 k t443 t444 t445 bt446.1 bt446.2 true))) else (if bt446.1 = true then (some false) else (if bt446.2 = 2 then ((numnahlaw08_awake.f k).bind fun t449 => (some t449)) else (some false)))))))) = some r := H
 have A4 := Aside0.mk A40
 clear A40
 replace H := Option.bind_eq_some_iff.mp H
 obtain ⟨t444, A50, H⟩ := H
 replace H : ((numnahlaw08_short.f a2).bind fun t445 => ((rules_Greater.f t443 t444 t445).bind fun bt446 => ((numnahref08_Precedence.f k t443).bind fun t448 => (if t448 = true then ((numnahref08_Term.f k t444).bind fun t450 => (if t450 = true then ((numnahref08_Term.f k t445).bind fun t451 => (numnahlaw08_RulesGreater.j0 k t443 t444 t445 bt446.1 bt446.2 (!t451))) else (numnahlaw08_RulesGreater.j0 k t443 t444 t445 bt446.1 bt446.2 true))) else (if bt446.1 = true then (some false) else (if bt446.2 = 2 then ((numnahlaw08_awake.f k).bind fun t449 => (some t449)) else (some false))))))) = some r := H
 have A5 := Aside0.mk A50
 clear A50
 replace H := Option.bind_eq_some_iff.mp H
 obtain ⟨t445, A60, H⟩ := H
 replace H : ((rules_Greater.f t443 t444 t445).bind fun bt446 => ((numnahref08_Precedence.f k t443).bind fun t448 => (if t448 = true then ((numnahref08_Term.f k t444).bind fun t450 => (if t450 = true then ((numnahref08_Term.f k t445).bind fun t451 => (numnahlaw08_RulesGreater.j0 k t443 t444 t445 bt446.1 bt446.2 (!t451))) else (numnahlaw08_RulesGreater.j0 k t443 t444 t445 bt446.1 bt446.2 true))) else (if bt446.1 = true then (some false) else (if bt446.2 = 2 then ((numnahlaw08_awake.f k).bind fun t449 => (some t449)) else (some false)))))) = some r := H
 have A6 := Aside0.mk A60
 clear A60
 replace H := Option.bind_eq_some_iff.mp H
 obtain ⟨⟨t446, t447⟩, A70, H⟩ := H
 replace H : ((numnahref08_Precedence.f k t443).bind fun t448 => (if t448 = true then ((numnahref08_Term.f k t444).bind fun t450 => (if t450 = true then ((numnahref08_Term.f k t445).bind fun t451 => (numnahlaw08_RulesGreater.j0 k t443 t444 t445 t446 t447 (!t451))) else (numnahlaw08_RulesGreater.j0 k t443 t444 t445 t446 t447 true))) else (if t446 = true then (some false) else (if t447 = 2 then ((numnahlaw08_awake.f k).bind fun t449 => (some t449)) else (some false))))) = some r := H
 have A7 := Aside0.mk A70
 clear A70
 replace H := Option.bind_eq_some_iff.mp H
 obtain ⟨t448, A80, H⟩ := H
 replace H : (if t448 = true then ((numnahref08_Term.f k t444).bind fun t450 => (if t450 = true then ((numnahref08_Term.f k t445).bind fun t451 => (numnahlaw08_RulesGreater.j0 k t443 t444 t445 t446 t447 (!t451))) else (numnahlaw08_RulesGreater.j0 k t443 t444 t445 t446 t447 true))) else (if t446 = true then (some false) else (if t447 = 2 then ((numnahlaw08_awake.f k).bind fun t449 => (some t449)) else (some false)))) = some r := H
 have A8 := Aside0.mk A80
 clear A80
 by_cases c9 : t448 = true
 ·subst c9
  have H1 : ((numnahref08_Term.f k t444).bind fun t450 => (if t450 = true then ((numnahref08_Term.f k t445).bind fun t451 => (numnahlaw08_RulesGreater.j0 k t443 t444 t445 t446 t447 (!t451))) else (numnahlaw08_RulesGreater.j0 k t443 t444 t445 t446 t447 true))) = some r := by rw [if_pos rfl] at H; exact H
  clear H
  have H := H1
  clear H1
  have HC10 := Aside0.mk H
  clear H
  go_enter Tryz.func8, Tryz.ntmps8
  go_upto_region 5 with (first | ((with_reducible refine gate_callee (f := 21) rfl ?_); refine goesL_ (some 13) rfl rfl Tryz.func21 (by kernel_rfl) rfl #[.string a0] rfl tM_ ?_; (with_reducible refine (numnahlaw08_short.calls a0 t443 _ A4.out).mono ?_); rintro e w11 ⟨rfl, hb⟩; refine ⟨_, rfl, ?_⟩; have n0_ := Aside0.mk (below_step (tB_ HB) hb); clear HB; have HB := n0_; clear n0_; (try clear hb); (try clear hb2); (try clear hk); (try clear hi)) | ((with_reducible refine gate_callee (f := 21) rfl ?_); refine goesL_ (some 15) rfl rfl Tryz.func21 (by kernel_rfl) rfl #[.string a1] rfl tM_ ?_; (with_reducible refine (numnahlaw08_short.calls a1 t444 _ A5.out).mono ?_); rintro e w12 ⟨rfl, hb⟩; refine ⟨_, rfl, ?_⟩; have n0_ := Aside0.mk (below_step (tB_ HB) hb); clear HB; have HB := n0_; clear n0_; (try clear hb); (try clear hb2); (try clear hk); (try clear hi)) | ((with_reducible refine gate_callee (f := 21) rfl ?_); refine goesL_ (some 17) rfl rfl Tryz.func21 (by kernel_rfl) rfl #[.string a2] rfl tM_ ?_; (with_reducible refine (numnahlaw08_short.calls a2 t445 _ A6.out).mono ?_); rintro e w13 ⟨rfl, hb⟩; refine ⟨_, rfl, ?_⟩; have n0_ := Aside0.mk (below_step (tB_ HB) hb); clear HB; have HB := n0_; clear n0_; (try clear hb); (try clear hb2); (try clear hk); (try clear hi)) | ((with_reducible refine gate_callee (f := 43) rfl ?_); refine goesL_ (some 22) rfl rfl Tryz.func43 (by kernel_rfl) rfl #[.string t443, .string t444, .string t445] rfl tM_ ?_; (with_reducible refine (rules_Greater.calls t443 t444 t445 t446 t447 _ A7.out).mono ?_); rintro e w14 ⟨rfl, hb⟩; refine ⟨_, rfl, ?_⟩; have n0_ := Aside0.mk (below_step (tB_ HB) hb); clear HB; have HB := n0_; clear n0_; (try clear hb); (try clear hb2); (try clear hk); (try clear hi)) | ((with_reducible refine gate_callee (f := 39) rfl ?_); refine goesL_ (some 26) rfl rfl Tryz.func39 (by kernel_rfl) rfl #[.string t443] rfl tM_ ?_; (with_reducible refine (numnahref08_Precedence.calls k t443 true _ A8.out).mono ?_); rintro e w' ⟨rfl, ⟨nd, rfl⟩⟩; refine ⟨_, rfl, ?_⟩))
  (try simp only [Act.put, List.setIfInBounds_toArray, List.set_cons_zero, List.set_cons_succ])
  go_cut [44] (fun v44 wc => ∃ (kq : Nat) (x44_9 : Bool), v44 = .bool x44_9 ∧ Aside0 (numnahlaw08_RulesGreater.j0 kq t443 t444 t445 t446 t447 x44_9 = some r) ∧ Aside0 (kq ≤ k) ∧ Aside0 (Below w.heap.size w wc))
  case first =>
   have H := HC10.out
   clear HC10
   replace H := Option.bind_eq_some_iff.mp H
   obtain ⟨t450, A150, H⟩ := H
   replace H : (if t450 = true then ((numnahref08_Term.f k t445).bind fun t451 => (numnahlaw08_RulesGreater.j0 k t443 t444 t445 t446 t447 (!t451))) else (numnahlaw08_RulesGreater.j0 k t443 t444 t445 t446 t447 true)) = some r := H
   have A15 := Aside0.mk A150
   clear A150
   by_cases c16 : t450 = true
   ·subst c16
    have H1 : ((numnahref08_Term.f k t445).bind fun t451 => (numnahlaw08_RulesGreater.j0 k t443 t444 t445 t446 t447 (!t451))) = some r := by rw [if_pos rfl] at H; exact H
    clear H
    have H := H1
    clear H1
    replace H := Option.bind_eq_some_iff.mp H
    obtain ⟨t451, A170, H⟩ := H
    replace H : (numnahlaw08_RulesGreater.j0 k t443 t444 t445 t446 t447 (!t451)) = some r := H
    have A17 := Aside0.mk A170
    clear A170
    have H' := Aside0.mk H
    clear H
    go_wp2_with (first | ((with_reducible refine gate_callee (f := 25) rfl ?_); refine goesL_ (some 38) rfl rfl Tryz.func25 (by kernel_rfl) rfl #[.string t444] rfl tM_ ?_; (with_reducible refine (numnahref08_Term.calls k t444 true _ A15.out).mono ?_); rintro e w' ⟨rfl, ⟨nd, rfl⟩⟩; refine ⟨_, rfl, ?_⟩) | (go_at_call 25; (with_reducible refine (numnahref08_Term.calls k t445 t451 _ A17.out).mono ?_); rintro e w' ⟨rfl, ⟨nd, rfl⟩⟩))
    go_meet
    case rel => exact ⟨_, (!t451), tS_, H', ⟨by first | omega | exact Nat.le_refl _⟩, ⟨by repeat (first | (with_reducible first | exact HB.out | apply below_alloc | apply pw_below_drewN | apply below_drew1) | exact HB.out)⟩⟩
   ·replace c16 := Bool.eq_false_iff.mpr c16
    subst c16
    have H1 : (numnahlaw08_RulesGreater.j0 k t443 t444 t445 t446 t447 true) = some r := by rw [if_neg (show ¬ (false = true) by decide)] at H; exact H
    clear H
    have H := H1
    clear H1
    have H' := Aside0.mk H
    clear H
    go_wp2_with (first | ((with_reducible refine gate_callee (f := 25) rfl ?_); refine goesL_ (some 38) rfl rfl Tryz.func25 (by kernel_rfl) rfl #[.string t444] rfl tM_ ?_; (with_reducible refine (numnahref08_Term.calls k t444 false _ A15.out).mono ?_); rintro e w' ⟨rfl, ⟨nd, rfl⟩⟩; refine ⟨_, rfl, ?_⟩))
    go_meet
    case rel => exact ⟨_, (true), tS_, H', ⟨by first | omega | exact Nat.le_refl _⟩, ⟨by repeat (first | (with_reducible first | exact HB.out | apply below_alloc | apply pw_below_drewN | apply below_drew1) | exact HB.out)⟩⟩
  case rest =>
   clear HC10
   try clear c1
   try clear c2
   try clear p2
   try clear c3
   try clear c4
   try clear c8
   try clear c9
   try clear c16
   obtain ⟨kq, x44_9, rfl, HA, HJ9, HB⟩ := hcut
   cases kq with
   | zero => exact absurd HA.out (by simp [numnahlaw08_RulesGreater.j0])
   | succ kj9 =>
    have H := HA.out
    clear HA
    simp only [numnahlaw08_RulesGreater.j0] at H
    by_cases c18 : x44_9 = true
    ·subst c18
     have H1 : (if t446 = true then (some false) else (if t447 = 4 then ((numnahlaw08_awake.f kj9).bind fun t452 => (some t452)) else (some false))) = some r := by rw [if_pos rfl] at H; exact H
     clear H
     have H := H1
     clear H1
     by_cases c19 : t446 = true
     ·subst c19
      have H1 : (some false) = some r := by rw [if_pos rfl] at H; exact H
      exact absurd (H1.trans (congrArg some HT0_.out)) (by simp)
     ·replace c19 := Bool.eq_false_iff.mpr c19
      subst c19
      have H1 : (if t447 = 4 then ((numnahlaw08_awake.f kj9).bind fun t452 => (some t452)) else (some false)) = some r := by rw [if_neg (show ¬ (false = true) by decide)] at H; exact H
      clear H
      have H := H1
      clear H1
      by_cases c20 : t447 = 4
      ·rw [if_pos c20] at H
       have c20b0 : (t447 == 4) = true := beq_iff_eq.mpr c20
       have c20b1 : (t447 != 4) = false := bne_eq_false_iff_eq.mpr c20
       clear c20
       replace H := Option.bind_eq_some_iff.mp H
       obtain ⟨t452, A210, H⟩ := H
       replace H : (some t452) = some r := H
       have A21 := Aside0.mk A210
       clear A210
       obtain rfl := Option.some.inj H
       go_wp2_with (first | (go_at_call 24; (with_reducible refine (numnahlaw08_awake.calls kj9  t452 _ A21.out).mono ?_); rintro e w22 ⟨rfl, hb⟩; have n0_ := Aside0.mk (below_step (tB_ HB) hb); clear HB; have HB := n0_; clear n0_; (try clear hb); (try clear hb2); (try clear hk); (try clear hi)))
       go_ret
       exact ⟨by first | rfl | (simp [errW_none, errW_some] <;> rfl) | (simp [*, errW_none, errW_some] <;> rfl), by repeat (first | (with_reducible first | exact HB.out | apply below_alloc | apply pw_below_drewN | apply below_drew1) | exact HB.out)⟩
      ·rw [if_neg c20] at H
       exact absurd (H.trans (congrArg some HT0_.out)) (by simp)
    ·replace c18 := Bool.eq_false_iff.mpr c18
     subst c18
     have H1 : ((numnahref08_Greater.f t443 t444 t445).bind fun t453 => (if (t446 == t453) = true then (if t447 = 0 then ((numnahlaw08_awake.f kj9).bind fun t454 => (some t454)) else (some false)) else (some false))) = some r := by rw [if_neg (show ¬ (false = true) by decide)] at H; exact H
     clear H
     have H := H1
     clear H1
     replace H := Option.bind_eq_some_iff.mp H
     obtain ⟨t453, A230, H⟩ := H
     replace H : (if (t446 == t453) = true then (if t447 = 0 then ((numnahlaw08_awake.f kj9).bind fun t454 => (some t454)) else (some false)) else (some false)) = some r := H
     have A23 := Aside0.mk A230
     clear A230
     by_cases c24 : (t446 == t453) = true
     ·rw [if_pos c24] at H
      have c24b0 : (t446 == t453) = true := c24
      (try (have c24b1 : decide (t446 = t453) = true := by simpa using c24))
      (try (have c24b2 : (t446 == t453) = true := by simpa using c24))
      clear c24
      by_cases c25 : t447 = 0
      ·rw [if_pos c25] at H
       have c25b0 : (t447 == 0) = true := beq_iff_eq.mpr c25
       have c25b1 : (t447 != 0) = false := bne_eq_false_iff_eq.mpr c25
       clear c25
       replace H := Option.bind_eq_some_iff.mp H
       obtain ⟨t454, A260, H⟩ := H
       replace H : (some t454) = some r := H
       have A26 := Aside0.mk A260
       clear A260
       obtain rfl := Option.some.inj H
       go_wp2_with (first | ((with_reducible refine gate_callee (f := 44) rfl ?_); refine goesL_ (some 58) rfl rfl Tryz.func44 (by kernel_rfl) rfl #[.string t443, .string t444, .string t445] rfl tM_ ?_; (with_reducible refine (numnahref08_Greater.calls t443 t444 t445 t453 _ A23.out).mono ?_); rintro e w27 ⟨rfl, hb⟩; refine ⟨_, rfl, ?_⟩; have n0_ := Aside0.mk (below_step (tB_ HB) hb); clear HB; have HB := n0_; clear n0_; (try clear hb); (try clear hb2); (try clear hk); (try clear hi)) | (go_at_call 24; (with_reducible refine (numnahlaw08_awake.calls kj9  t454 _ A26.out).mono ?_); rintro e w28 ⟨rfl, hb⟩; have n0_ := Aside0.mk (below_step (tB_ HB) hb); clear HB; have HB := n0_; clear n0_; (try clear hb); (try clear hb2); (try clear hk); (try clear hi)))
       go_ret
       exact ⟨by first | rfl | (simp [errW_none, errW_some] <;> rfl) | (simp [*, errW_none, errW_some] <;> rfl), by repeat (first | (with_reducible first | exact HB.out | apply below_alloc | apply pw_below_drewN | apply below_drew1) | exact HB.out)⟩
      ·rw [if_neg c25] at H
       exact absurd (H.trans (congrArg some HT0_.out)) (by simp)
     ·rw [if_neg c24] at H
      exact absurd (H.trans (congrArg some HT0_.out)) (by simp)
 ·replace c9 := Bool.eq_false_iff.mpr c9
  subst c9
  have H1 : (if t446 = true then (some false) else (if t447 = 2 then ((numnahlaw08_awake.f k).bind fun t449 => (some t449)) else (some false))) = some r := by rw [if_neg (show ¬ (false = true) by decide)] at H; exact H
  clear H
  have H := H1
  clear H1
  by_cases c31 : t446 = true
  ·subst c31
   have H1 : (some false) = some r := by rw [if_pos rfl] at H; exact H
   exact absurd (H1.trans (congrArg some HT0_.out)) (by simp)
  ·replace c31 := Bool.eq_false_iff.mpr c31
   subst c31
   have H1 : (if t447 = 2 then ((numnahlaw08_awake.f k).bind fun t449 => (some t449)) else (some false)) = some r := by rw [if_neg (show ¬ (false = true) by decide)] at H; exact H
   clear H
   have H := H1
   clear H1
   by_cases c36 : t447 = 2
   ·rw [if_pos c36] at H
    have c36b0 : (t447 == 2) = true := beq_iff_eq.mpr c36
    have c36b1 : (t447 != 2) = false := bne_eq_false_iff_eq.mpr c36
    clear c36
    replace H := Option.bind_eq_some_iff.mp H
    obtain ⟨t449, A370, H⟩ := H
    replace H : (some t449) = some r := H
    have A37 := Aside0.mk A370
    clear A370
    obtain rfl := Option.some.inj H
    go_enter Tryz.func8, Tryz.ntmps8
    go_wp2_with (first | ((with_reducible refine gate_callee (f := 21) rfl ?_); refine goesL_ (some 13) rfl rfl Tryz.func21 (by kernel_rfl) rfl #[.string a0] rfl tM_ ?_; (with_reducible refine (numnahlaw08_short.calls a0 t443 _ A4.out).mono ?_); rintro e w38 ⟨rfl, hb⟩; refine ⟨_, rfl, ?_⟩; have n0_ := Aside0.mk (below_step (tB_ HB) hb); clear HB; have HB := n0_; clear n0_; (try clear hb); (try clear hb2); (try clear hk); (try clear hi)) | ((with_reducible refine gate_callee (f := 21) rfl ?_); refine goesL_ (some 15) rfl rfl Tryz.func21 (by kernel_rfl) rfl #[.string a1] rfl tM_ ?_; (with_reducible refine (numnahlaw08_short.calls a1 t444 _ A5.out).mono ?_); rintro e w39 ⟨rfl, hb⟩; refine ⟨_, rfl, ?_⟩; have n0_ := Aside0.mk (below_step (tB_ HB) hb); clear HB; have HB := n0_; clear n0_; (try clear hb); (try clear hb2); (try clear hk); (try clear hi)) | ((with_reducible refine gate_callee (f := 21) rfl ?_); refine goesL_ (some 17) rfl rfl Tryz.func21 (by kernel_rfl) rfl #[.string a2] rfl tM_ ?_; (with_reducible refine (numnahlaw08_short.calls a2 t445 _ A6.out).mono ?_); rintro e w40 ⟨rfl, hb⟩; refine ⟨_, rfl, ?_⟩; have n0_ := Aside0.mk (below_step (tB_ HB) hb); clear HB; have HB := n0_; clear n0_; (try clear hb); (try clear hb2); (try clear hk); (try clear hi)) | ((with_reducible refine gate_callee (f := 43) rfl ?_); refine goesL_ (some 22) rfl rfl Tryz.func43 (by kernel_rfl) rfl #[.string t443, .string t444, .string t445] rfl tM_ ?_; (with_reducible refine (rules_Greater.calls t443 t444 t445 false t447 _ A7.out).mono ?_); rintro e w41 ⟨rfl, hb⟩; refine ⟨_, rfl, ?_⟩; have n0_ := Aside0.mk (below_step (tB_ HB) hb); clear HB; have HB := n0_; clear n0_; (try clear hb); (try clear hb2); (try clear hk); (try clear hi)) | ((with_reducible refine gate_callee (f := 39) rfl ?_); refine goesL_ (some 26) rfl rfl Tryz.func39 (by kernel_rfl) rfl #[.string t443] rfl tM_ ?_; (with_reducible refine (numnahref08_Precedence.calls k t443 false _ A8.out).mono ?_); rintro e w' ⟨rfl, ⟨nd, rfl⟩⟩; refine ⟨_, rfl, ?_⟩) | (go_at_call 24; (with_reducible refine (numnahlaw08_awake.calls k  t449 _ A37.out).mono ?_); rintro e w42 ⟨rfl, hb⟩; have n0_ := Aside0.mk (below_step (tB_ HB) hb); clear HB; have HB := n0_; clear n0_; (try clear hb); (try clear hb2); (try clear hk); (try clear hi)))
    go_ret
    exact ⟨by first | rfl | (simp [errW_none, errW_some] <;> rfl) | (simp [*, errW_none, errW_some] <;> rfl), by repeat (first | (with_reducible first | exact HB.out | apply below_alloc | apply pw_below_drewN | apply below_drew1) | exact HB.out)⟩
   ·rw [if_neg c36] at H
    exact absurd (H.trans (congrArg some HT0_.out)) (by simp)
/-- THE ONE PURE STATEMENT of numnahlaw08_RulesGreater: yours. -/
def numnahlaw08_RulesGreater.Pure : Prop := ∀ (a0 : ByteArray) (a1 : ByteArray) (a2 : ByteArray), a0.size ≤ 140737488351232 → a1.size ≤ 140737488351232 → a2.size ≤ 140737488351232 → ∃ k, numnahlaw08_RulesGreater.f k a0 a1 a2 = some true
theorem numnahlaw08_RulesGreater.walk (P : numnahlaw08_RulesGreater.Pure) (a0 : ByteArray) (a1 : ByteArray) (a2 : ByteArray) (w : World) (w0 : a0.size ≤ 140737488351232) (w1 : a1.size ≤ 140737488351232) (w2 : a2.size ≤ 140737488351232) :
  Calls Tryz.prog 8 #[.string a0, .string a1, .string a2] w fun e w' => e = .returned (.bool true) ∧ Below w.heap.size w w' := by
 obtain ⟨k, h⟩ := P a0 a1 a2 w0 w1 w2
 refine (numnahlaw08_RulesGreater.calls k a0 a1 a2 true w h).mono ?_
 rintro e w' ⟨rfl, hd⟩
 exact ⟨rfl, hd⟩

end Go.Proofs.YtaafeallcaiooaaGreat.Pr
-- indented by one
/- the reference's Precedence says whether newPrecedence takes a string. -/
namespace Go.Proofs.YtaafeallcaiooaaGreat.Pr
open Go.RowKit Go.Maps Go.Proofs.YtaafeallcaiooaaGreatW.PrintWords Go.Proofs.YtaafeallcaiooaaGreatW.PrintLast Go.Proofs.YtaafeallcaiooaaGreatW.PrintMore
set_option linter.unusedVariables false
set_option linter.unusedSimpArgs false
def allC (L : List UInt8) : Nat → Int → Bool
  | 0, _ => true
  | n + 1, c => hasB c L && allC L n (c + 1)
theorem precG (p : ByteArray) (hs : p.size ≤ 1000000) : ∀ (n : Nat) (c : Int), 97 ≤ c → c + n = 103 → Evt (fun k => numnahref08_Precedence.l0 k p c) (allC p.data.toList n c && ((p.size : Int) == 6))
  | 0, c, h1, h2 => Evt.now fun k => by rw [numnahref08_Precedence.l0, if_neg (by omega)]; rfl
  | n + 1, c, h1, h2 => by
    refine Evt.step (g' := fun k => (numnahref08_occurs.f k c p).bind fun t411 => (if t411 = true then (numnahref08_Precedence.l0 k p (c + 1)) else (some false))) (fun k => ?_) ?_
    · rw [numnahref08_Precedence.l0, if_pos (by omega), show (c + 1) % 256 = c + 1 by omega]
    refine Evt.bind (occursE c p (by omega)) ?_
    rw [allC, Bool.and_assoc]
    cases hasB c p.data.toList with
    | true => exact Evt.pos rfl (precG p hs n (c + 1) (by omega) (by omega))
    | false => exact Evt.neg (by simp) (Evt.all fun _ => rfl)
theorem nodup_of : ∀ L : List UInt8, (∀ x, x ∈ L → x ∉ L.erase x) → L.Nodup
  | [], _ => List.nodup_nil
  | a :: l, h => by
    refine List.nodup_cons.2 ⟨?_, nodup_of l fun x hx hx2 => ?_⟩
    · have := h a (by simp)
      rwa [List.erase_cons_head] at this
    · have := h x (by simp [hx])
      by_cases e : a = x
      · rw [e, List.erase_cons_head] at this
        exact this hx
      · rw [List.erase_cons_tail (by simpa using e)] at this
        exact this (List.mem_cons_of_mem _ hx2)
theorem c6_nodup : c6.Nodup := by decide
theorem perm_of {L : List UInt8} (h6 : L.length = 6) (hall : ∀ c, c ∈ c6 → c ∈ L) : L.Nodup ∧ ∀ x, x ∈ L → x ∈ c6 := by
  have key : ∀ x, x ∈ L → ¬ (∀ c, c ∈ c6 → c ∈ L.erase x) := fun x hx h => by
    have h1 := nodup_len c6 (L.erase x) c6_nodup h
    rw [List.length_erase_of_mem hx] at h1
    have : c6.length = 6 := rfl
    omega
  constructor
  · refine nodup_of L fun x hx hx2 => key x hx fun c hc => ?_
    by_cases e : c = x
    · rw [e]; exact hx2
    · exact (List.mem_erase_of_ne e).2 (hall c hc)
  · intro x hx
    refine Decidable.byContradiction fun hn => key x hx fun c hc => ?_
    exact (List.mem_erase_of_ne (fun e => hn (by rw [← e]; exact hc))).2 (hall c hc)
theorem allC_iff {L : List UInt8} : allC L 6 97 = true ↔ ∀ c, c ∈ c6 → c ∈ L := by
  have hb : ∀ b : UInt8, hasB (b.toNat : Int) L = true ↔ b ∈ L := fun b => by
    rw [hasB_iff]
    constructor
    · rintro ⟨x, hx, e⟩
      have : x = b := UInt8.toNat_inj.1 (by omega)
      exact this ▸ hx
    · intro h
      exact ⟨b, h, rfl⟩
  simp only [allC, Bool.and_eq_true, and_true]
  show (hasB ((97 : UInt8).toNat : Int) L = true ∧ hasB ((98 : UInt8).toNat : Int) L = true ∧ hasB ((99 : UInt8).toNat : Int) L = true ∧ hasB ((100 : UInt8).toNat : Int) L = true ∧ hasB ((101 : UInt8).toNat : Int) L = true ∧ hasB ((102 : UInt8).toNat : Int) L = true) ↔ _
  simp only [hb]
  constructor
  · rintro ⟨h0, h1, h2, h3, h4, h5⟩ c hc
    simp only [c6, List.mem_cons, List.not_mem_nil, or_false] at hc
    rcases hc with rfl | rfl | rfl | rfl | rfl | rfl <;> assumption
  · intro h
    exact ⟨h _ (by decide), h _ (by decide), h _ (by decide), h _ (by decide), h _ (by decide), h _ (by decide)⟩
theorem rkL_mem (p : ByteArray) (c : Int) : ∀ k, k ≤ p.size → (getL (rkL p k) c).isSome = true → hasB c p.data.toList = true
  | 0, _, h => by cases h
  | k + 1, hk, h => by
    rw [rkL, getL_put] at h
    split at h
    · rename_i e
      obtain ⟨b, h1, h2⟩ := at_get p k (by omega)
      rw [hasB_iff]
      refine ⟨b, ?_, ?_⟩
      · have : b ∈ p.data.toList.drop k := by rw [h1]; simp
        exact List.mem_of_mem_drop this
      · rw [← h2]
        have h3 : bAt p k = bt p (k : Int) := by
          unfold bAt
          rw [dif_pos (by omega)]
          simp [bt, show k < p.size by omega]
        rw [← h3]
        first | exact e.symm | exact e
    · exact rkL_mem p c k (by omega) h
theorem precOk_eq (p : ByteArray) : precOk p = (allC p.data.toList 6 97 && ((p.size : Int) == 6)) := by
  rw [Bool.eq_iff_iff]
  constructor
  · intro h
    unfold precOk at h
    rw [Bool.and_eq_true, Bool.and_eq_true, decide_eq_true_eq, List.all_eq_true] at h
    obtain ⟨h1, _, h3⟩ := h
    have g := fun c hc => rkL_mem p c p.size (Nat.le_refl _) (h3 c hc)
    have h6 : ((p.size : Int) == 6) = true := by rw [h1]; rfl
    rw [h6, Bool.and_true]
    simp only [allC, Bool.and_eq_true, and_true]
    exact ⟨g 97 (by simp), g 98 (by simp), g 99 (by simp), g 100 (by simp), g 101 (by simp), g 102 (by simp)⟩
  · intro h
    rw [Bool.and_eq_true] at h
    have h6 : p.data.toList.length = 6 := by
      have h2 : (p.size : Int) = 6 := by simpa using h.2
      have : p.data.toList.length = p.size := by simp
      omega
    obtain ⟨h1, h2⟩ := perm_of h6 (allC_iff.1 h.1)
    have := prec_perm h6 h1 h2
    rwa [B8_of] at this
theorem precRE (p : ByteArray) (hs : p.size ≤ 1000000) : Evt (fun k => numnahref08_Precedence.f k p) (precOk p) := by
  rw [precOk_eq]
  exact precG p hs 6 97 (by omega) (by omega)
theorem ok_is {p : ByteArray} (h : precOk p = true) : IsPrec p := by
  rw [precOk_eq, Bool.and_eq_true] at h
  have h6 : p.data.toList.length = 6 := by
    have h2 : (p.size : Int) = 6 := by simpa using h.2
    have : p.data.toList.length = p.size := by simp
    omega
  obtain ⟨h1, h2⟩ := perm_of h6 (allC_iff.1 h.1)
  exact ⟨p.data.toList, (B8_of p).symm, h6, h1, h2⟩
theorem is_B {p : ByteArray} (h : IsPrec p) : precB p = true := by
  obtain ⟨L, rfl, h6, hn, hc⟩ := h
  unfold precB
  rw [B8_list, decide_eq_true h6, decide_eq_true hn, Bool.true_and, Bool.true_and, List.all_eq_true]
  intro x hx
  exact decide_eq_true (hc x hx)
end Go.Proofs.YtaafeallcaiooaaGreat.Pr
namespace Go.Proofs.YtaafeallcaiooaaGreat.Pr
open Go.RowKit Go.Proofs.YtaafeallcaiooaaGreatW.PrintWords Go.Proofs.YtaafeallcaiooaaGreatW.PrintLast Go.Proofs.YtaafeallcaiooaaGreatW.PrintMore
set_option linter.unusedVariables false
set_option linter.unusedSimpArgs false
theorem greater_law (a0 a1 a2 : ByteArray) : Evt (fun k => numnahlaw08_RulesGreater.f k a0 a1 a2) true := by
  obtain ⟨p, hp, hps⟩ := short_ev a0
  obtain ⟨s, hs, hss⟩ := short_ev a1
  obtain ⟨t, ht, hts⟩ := short_ev a2
  have hP := precRE p (by omega)
  have hS := termRE s (by omega)
  have hT := termRE t (by omega)
  have hG : rules_Greater.f p s t = some ((greaterE p s t).2, (greaterE p s t).1) := by unfold rules_Greater.f; rw [if_pos (by omega)]
  unfold numnahlaw08_RulesGreater.f
  simp only [hp, hs, ht, hG, Option.bind_some]
  refine Evt.bind hP ?_
  have hj : ∀ (e : Int), e = 4 → Evt (fun k => numnahlaw08_RulesGreater.j0 k p s t false e true) true := fun e he => by
    refine Evt.step (fun k => ?_) awakeF
    rw [numnahlaw08_RulesGreater.j0, if_pos rfl, if_neg (by simp), if_pos he]
  cases hok : precOk p with
  | false =>
    have eg : greaterE p s t = (2, false) := by unfold greaterE; rw [hok]
    rw [eg]
    exact Evt.neg (by simp) (Evt.neg (by simp) (Evt.pos rfl awakeF))
  | true =>
    refine Evt.pos rfl (Evt.bind hS ?_)
    cases hA : readT s with
    | none =>
      have eg : greaterE p s t = (4, false) := by unfold greaterE; rw [hok]; dsimp only; rw [hA]
      rw [eg]
      exact Evt.neg (by simp) (hj 4 rfl)
    | some a =>
      refine Evt.pos rfl (Evt.bind hT ?_)
      cases hB : readT t with
      | none =>
        have eg : greaterE p s t = (4, false) := by unfold greaterE; rw [hok]; dsimp only; rw [hA]; dsimp only; rw [hB]
        rw [eg]
        exact hj 4 rfl
      | some b =>
        have eg : greaterE p s t = (0, gt (rankP p) a b) := by unfold greaterE; rw [hok]; dsimp only; rw [hA]; dsimp only; rw [hB]
        have er : numnahref08_Greater.f p s t = some (gt (rankP p) a b) := by
          unfold numnahref08_Greater.f
          rw [if_pos (is_B (ok_is hok)), hA, hB]
          rfl
        rw [eg]
        dsimp only
        refine Evt.step (fun k => ?_) awakeF
        rw [show (!(some b : Option Tm).isSome) = false from rfl, numnahlaw08_RulesGreater.j0, if_neg (by simp), er, Option.bind_some, if_pos (by simp), if_pos rfl]
end Go.Proofs.YtaafeallcaiooaaGreat.Pr
namespace Go.Proofs.YtaafeallcaiooaaGreat.Pure
open Go.RowKit Go.Proofs.YtaafeallcaiooaaGreat.Pr Go.Proofs.YtaafeallcaiooaaGreatW.PrintWords Go.Proofs.YtaafeallcaiooaaGreatW.PrintLast
theorem RulesGreater : numnahlaw08_RulesGreater.Pure := fun a0 a1 a2 _ _ _ => (greater_law a0 a1 a2).ex
end Go.Proofs.YtaafeallcaiooaaGreat.Pure
