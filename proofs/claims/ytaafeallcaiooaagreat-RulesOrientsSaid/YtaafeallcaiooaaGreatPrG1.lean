import Derived.Test.YtaafeallcaiooaaGreatPr0
import Derived.Test.YtaafeallcaiooaaGreatHEx
import Derived.Test.YtaafeallcaiooaaGreatPrA1
import Derived.Test.YtaafeallcaiooaaGreatPrA4
import Derived.Test.YtaafeallcaiooaaGreatPrA5
import Derived.Test.YtaafeallcaiooaaGreatHRh0
import Derived.Test.YtaafeallcaiooaaGreatPrB1
import Derived.Test.YtaafeallcaiooaaGreatPrF1
/- Proves. -/
namespace Go.Proofs.YtaafeallcaiooaaGreat.Pr
open Go.RowKit Go.Maps Go.Proofs.YtaafeallcaiooaaGreatW.PrintWords Go.Proofs.YtaafeallcaiooaaGreatW.PrintLast Go.Proofs.YtaafeallcaiooaaGreatW.PrintMore
set_option linter.unusedVariables false
set_option linter.unusedSimpArgs false
/-- Proves: the error -/
def provesE (rs : List S94) (p : ByteArray) : Int := match newLawsT rs with
  | none => 2
  | some ls => match precOk p with
    | false => 2
    | true => if provT (rankP p) ls then 0 else 10
set_option maxRecDepth 100000 in
set_option maxHeartbeats 1000000 in
theorem proves1_calls (rs : List S94) (p : ByteArray) (hp : p.size ≤ 1000000) (A0 : Option Addr) (c0 b0 b1 : Nat) (w : World) (hC0 : Kd.C k94 w A0 rs.length rs) (hb0 : w.heap[b0]? = some (.cells #[.slice A0 rs.length c0] 35 (0, 0))) (hb1 : w.heap[b1]? = some (.cells #[.string p] 9 (0, 0))) :
    Calls Tryz.prog 90 #[.pointer (some ⟨b0, 0, none⟩), .pointer (some ⟨b1, 0, none⟩)] w (OutI w (provesE rs p)) := by
  have hx0 := blk_cell hb0 0
  have hnl := newLaws_calls rs A0 c0 w hC0
  cases hL : newLawsT rs with
  | none =>
    have hr : provesE rs p = 2 := by unfold provesE; rw [hL]
    rw [hr]
    rw [hL] at hnl
    have HC := Aside0.mk hnl
    clear hnl hC0 hb0 hb1 hL hr
    go_enter Tryz.func90, Tryz.ntmps90
    go_wp2_with (go_at_call 77; refine HC.out.mono ?_; rintro e w1 ⟨hb, rfl⟩; have H1 := Aside0.mk hb; clear hb)
    exact ⟨rfl, rfl, H1.out⟩
  | some ls =>
    have hlg := newLawsT_good hL
    rw [hL] at hnl
    have hnp := fun w' : World => newPrec_calls p hp w'
    unfold OutP at hnp
    cases hP : precOk p with
    | false =>
      have hr : provesE rs p = 2 := by unfold provesE; rw [hL]; dsimp only; rw [hP]
      rw [hr]
      rw [hP] at hnp
      have HC := Aside0.mk hnl
      have HN := Aside0.mk hnp
      have HB1 := Aside0.mk hb1
      clear hnl hnp hC0 hb0 hb1 hL hr hP hlg
      go_enter Tryz.func90, Tryz.ntmps90
      go_wp2_with (first
        | (go_at_call 77; refine HC.out.mono ?_; rintro e w1 ⟨hb, A2, c2, rfl, hW⟩; have hx1 := blk_cell (blk_below HB1.out hb) 0; have H1 := Aside0.mk hb; clear hb hW)
        | (go_at_call 87; refine (HN.out _).mono ?_; rintro e w2 ⟨hb, rfl⟩; have H2 := Aside0.mk (below_on H1.out hb); clear hb))
      exact ⟨rfl, rfl, H2.out⟩
    | true =>
      obtain ⟨b, hb⟩ : ∃ b, b = provT (rankP p) ls := ⟨_, rfl⟩
      have hr : provesE rs p = if b = true then 0 else 10 := by unfold provesE; rw [hL]; dsimp only; rw [hP, hb]
      rw [hr]
      rw [hP] at hnp
      dsimp only at hnp
      have hpv := fun (c1 c2 : Nat) (A : Option Addr) (cap : Nat) (w' : World) (ok : Nat → Prop) (hW : HasW w' ok ls A) (hQ : Prec w' (rankP p) c1 c2) => proves_calls (rankP p) ls c1 c2 A cap w' ok hW hlg.1 (by omega) hQ
      rw [← hb] at hpv
      have HC := Aside0.mk hnl
      have HN := Aside0.mk hnp
      have HPV := Aside0.mk hpv
      have HB1 := Aside0.mk hb1
      clear hnl hnp hC0 hb0 hb1 hL hr hP hlg hpv hb
      cases b with
      | true =>
        rw [if_pos rfl]
        go_enter Tryz.func90, Tryz.ntmps90
        go_wp2_with (first
          | (go_at_call 77; refine HC.out.mono ?_; rintro e w1 ⟨hb, A2, c2, rfl, hW⟩; have hx1 := blk_cell (blk_below HB1.out hb) 0; have H1 := Aside0.mk (And.intro hb hW); clear hb hW)
          | (go_at_call 87; refine (HN.out _).mono ?_; rintro e w2 ⟨hb, d1, d2, rfl, hne, hs1, hs2, hRk, hMp⟩; have H2 := Aside0.mk (And.intro (below_on H1.out.1 hb) (And.intro (H1.out.2.below hb) (And.intro (⟨hRk, hne, [], hMp, known_nil _⟩ : Prec w2 (rankP p) d1 d2) (Nat.le_trans H1.out.1.size hs2)))); clear hb hne hs1 hs2 hRk hMp)
          | (go_at_call 88; refine (HPV.out _ _ _ _ _ _ H2.out.2.1 H2.out.2.2.1).mono ?_; rintro e w3 ⟨rfl, hb, hP3⟩; have H3 := Aside0.mk (H2.out.1.trans (hb.below H2.out.2.2.2 H2.out.1.size)); clear hb hP3)
          | (go_at_call 67; refine (demand_ok 10 _).mono ?_; rintro e w8 ⟨rfl, h8⟩; subst w8))
        simp [bodyPost, results, Tryz.results90]
        exact ⟨rfl, H3.out⟩
      | false =>
        rw [if_neg (by simp)]
        go_enter Tryz.func90, Tryz.ntmps90
        go_wp2_with (first
          | (go_at_call 77; refine HC.out.mono ?_; rintro e w1 ⟨hb, A2, c2, rfl, hW⟩; have hx1 := blk_cell (blk_below HB1.out hb) 0; have H1 := Aside0.mk (And.intro hb hW); clear hb hW)
          | (go_at_call 87; refine (HN.out _).mono ?_; rintro e w2 ⟨hb, d1, d2, rfl, hne, hs1, hs2, hRk, hMp⟩; have H2 := Aside0.mk (And.intro (below_on H1.out.1 hb) (And.intro (H1.out.2.below hb) (And.intro (⟨hRk, hne, [], hMp, known_nil _⟩ : Prec w2 (rankP p) d1 d2) (Nat.le_trans H1.out.1.size hs2)))); clear hb hne hs1 hs2 hRk hMp)
          | (go_at_call 88; refine (HPV.out _ _ _ _ _ _ H2.out.2.1 H2.out.2.2.1).mono ?_; rintro e w3 ⟨rfl, hb, hP3⟩; have H3 := Aside0.mk (H2.out.1.trans (hb.below H2.out.2.2.2 H2.out.1.size)); clear hb hP3)
          | (go_at_call 67; refine (demand_no 10 _).mono ?_; rintro e w8 ⟨rfl, h8⟩; subst w8))
        exact ⟨rfl, rfl, H3.out⟩
theorem enters90 : ∀ args w, (callFunc 90 args).run Tryz.prog w = .ok (.enter 90 args) w := fun args w => enters_ Tryz.func90 (by kernel_rfl) rfl args w
def rules_Proves.f (l0 : List S94) (a1 : ByteArray) : Option Int := if a1.size ≤ 1000000 then some (provesE l0 a1) else none
set_option maxRecDepth 100000 in
theorem rules_Proves.calls (A0 : Option Addr) (c0 : Nat) (l0 : List S94) (a1 : ByteArray) (r0 : Int) (w : World) (hr0 : Kd.C k94 w A0 l0.length l0) (hc0 : l0.length ≤ c0) (h : rules_Proves.f l0 a1 = some r0) :
    Calls Tryz.prog 37 #[.slice A0 l0.length c0, .string a1] w fun e w' => e = .returned (.int .i64 r0) ∧ Below w.heap.size w w' := by
  unfold rules_Proves.f at h
  split at h
  · rename_i hl
    injection h with h
    have hb2 : Below w.heap.size w ((w.alloc (.cells #[.slice A0 l0.length c0] 35)).alloc (.cells #[.string a1] 9)) := below_alloc (below_alloc (Below.refl _ _) _) _
    have hb3 : Below w.heap.size w (((w.alloc (.cells #[.slice A0 l0.length c0] 35)).alloc (.cells #[.string a1] 9)).alloc (.cells #[.int .i64 0] 26)) := below_alloc hb2 _
    have hx0 : (((w.alloc (.cells #[.slice A0 l0.length c0] 35)).alloc (.cells #[.string a1] 9)).alloc (.cells #[.int .i64 0] 26)).heap[w.heap.size]? = some (.cells #[.slice A0 l0.length c0] 35 (0, 0)) := blk_alloc (blk_alloc (blk_new w _) _) _
    have hx1 : (((w.alloc (.cells #[.slice A0 l0.length c0] 35)).alloc (.cells #[.string a1] 9)).alloc (.cells #[.int .i64 0] 26)).heap[w.heap.size + 1]? = some (.cells #[.string a1] 9 (0, 0)) := blk_alloc (blk_new1' w _ _) _
    have hg := guarded 90 enters90 #[.pointer (some ⟨w.heap.size, 0, none⟩), .pointer (some ⟨w.heap.size + 1, 0, none⟩)] ((w.alloc (.cells #[.slice A0 l0.length c0] 35)).alloc (.cells #[.string a1] 9)) (provesE l0 a1) (proves1_calls l0 a1 hl A0 c0 w.heap.size (w.heap.size + 1) _ (Kd.C_below hr0 hb3) hx0 hx1)
    rw [h] at hg
    have HG := Aside0.mk hg
    have HB := Aside0.mk hb2
    clear hg hb2 hb3 hx0 hx1 hr0 hc0 hl h
    go_enter Tryz.func37, Tryz.ntmps37
    go_wp2_with (go_at_call 65; refine HG.out.mono ?_; rintro e w1 ⟨rfl, hb⟩; have H1 := Aside0.mk (below_step HB.out hb); clear hb)
    go_ret
    exact ⟨rfl, H1.out⟩
  · cases h
end Go.Proofs.YtaafeallcaiooaaGreat.Pr
-- Laid by wip/tools/inj.py of this project, which drives the kit's printer. Lean checks it.
namespace Go.Proofs.YtaafeallcaiooaaGreat.Pr
open Go.RowKit Go.Proofs.YtaafeallcaiooaaGreatW.PrintWords Go.Proofs.YtaafeallcaiooaaGreatW.PrintLast Go.Proofs.YtaafeallcaiooaaGreatW.PrintMore
attribute [local go_sem] max2_int min2_int max_two min_two max_three min_three max_four min_four   -- for this text's walks alone
set_option linter.unusedVariables false
set_option linter.unusedSimpArgs false

/-! ### numnahlaw08_RulesOrients: function 6 -/
def numnahlaw08_RulesOrients.j0 : Nat → List (S94) → ByteArray → Int → Bool → Option (Bool)
 | 0, _, _, _, _ => none
 | k + 1, x5, x6, x9, x66 => if x66 = true then (some false) else ((numnahref08_Precedence.f k x6).bind fun t423 => (if t423 = true then ((numnahref08_Proves.f k x5 x6).bind fun t425 => (if t425 = true then (if x9 = 0 then ((numnahlaw08_awake.f k).bind fun t426 => (some t426)) else (some false)) else (if x9 = 10 then ((numnahlaw08_awake.f k).bind fun t427 => (some t427)) else (some false)))) else (if x9 = 2 then ((numnahlaw08_awake.f k).bind fun t424 => (some t424)) else (some false))))
def numnahlaw08_RulesOrients.f (k : Nat) (l0 : List (S94)) (a1 : ByteArray) : Option (Bool) := (numnahlaw08_laws.f k l0).bind fun t412 => ((numnahlaw08_short.f a1).bind fun t415 => ((rules_Orient.f t412).bind fun bt416 => ((rules_Proves.f t412 t415).bind fun t418 => ((numnahref08_Rules.f k t412).bind fun t419 => (if t419 = true then ((numnahref08_Orient.f k t412).bind fun bt421 => (if bt421.2 = true then (if bt416.1.toList = bt421.1.toList then (numnahlaw08_RulesOrients.j0 k t412 t415 t418 (bt416.2 != 0)) else (numnahlaw08_RulesOrients.j0 k t412 t415 t418 true)) else (if bt416.1.toList = ([] : List UInt8) then (if bt416.2 = 6 then (numnahlaw08_RulesOrients.j0 k t412 t415 t418 false) else (numnahlaw08_RulesOrients.j0 k t412 t415 t418 true)) else (numnahlaw08_RulesOrients.j0 k t412 t415 t418 true)))) else (if bt416.1.toList = ([] : List UInt8) then (if bt416.2 = 2 then (if t418 = 2 then ((numnahlaw08_awake.f k).bind fun t420 => (some t420)) else (some false)) else (some false)) else (some false)))))))
theorem numnahlaw08_RulesOrients.mono_l : ∀ k, (∀ y0 y1 y2 y3, LeO (numnahlaw08_RulesOrients.j0 k y0 y1 y2 y3) (numnahlaw08_RulesOrients.j0 (k + 1) y0 y1 y2 y3))
 | 0 => fun _ _ _ _ r h => by simp [numnahlaw08_RulesOrients.j0] at h
 | k + 1 => by
  have ih0 := numnahlaw08_RulesOrients.mono_l k
  ·intro y0 y1 y2 y3
   unfold numnahlaw08_RulesOrients.j0
   repeat' first
   | (with_reducible exact ih0 _ _ _ _)
   | (with_reducible exact numnahlaw08_awake.mono _)
   | (with_reducible exact numnahlaw08_laws.mono _ _)
   | (with_reducible exact numnahref08_Orient.mono _ _)
   | (with_reducible exact numnahref08_Precedence.mono _ _)
   | (with_reducible exact numnahref08_Proves.mono _ _ _)
   | (with_reducible exact numnahref08_Rules.mono _ _)
   | (with_reducible exact LeO.refl _)
   | (with_reducible exact LeO.none _)
   | (with_reducible refine LeO.ite ?_ ?_)
   | (with_reducible refine LeO.bind ?_ (fun _ => ?_))
   | exact ih0 _ _ _ _
   | exact numnahlaw08_awake.mono _
   | exact numnahlaw08_laws.mono _ _
   | exact numnahref08_Orient.mono _ _
   | exact numnahref08_Precedence.mono _ _
   | exact numnahref08_Proves.mono _ _ _
   | exact numnahref08_Rules.mono _ _
   | exact LeO.none _
   | refine LeO.ite ?_ ?_
   | refine LeO.bind ?_ (fun _ => ?_)
theorem numnahlaw08_RulesOrients.mono : ∀ a0 a1 k, LeO (numnahlaw08_RulesOrients.f k a0 a1) (numnahlaw08_RulesOrients.f (k + 1) a0 a1) := by
 intro a0 a1 k
 have ih0 := numnahlaw08_RulesOrients.mono_l k
 unfold numnahlaw08_RulesOrients.f
 repeat' first
   | (with_reducible exact ih0 _ _ _ _)
   | (with_reducible exact numnahlaw08_awake.mono _)
   | (with_reducible exact numnahlaw08_laws.mono _ _)
   | (with_reducible exact numnahref08_Orient.mono _ _)
   | (with_reducible exact numnahref08_Precedence.mono _ _)
   | (with_reducible exact numnahref08_Proves.mono _ _ _)
   | (with_reducible exact numnahref08_Rules.mono _ _)
   | (with_reducible exact LeO.refl _)
   | (with_reducible exact LeO.none _)
   | (with_reducible refine LeO.ite ?_ ?_)
   | (with_reducible refine LeO.bind ?_ (fun _ => ?_))
   | exact ih0 _ _ _ _
   | exact numnahlaw08_awake.mono _
   | exact numnahlaw08_laws.mono _ _
   | exact numnahref08_Orient.mono _ _
   | exact numnahref08_Precedence.mono _ _
   | exact numnahref08_Proves.mono _ _ _
   | exact numnahref08_Rules.mono _ _
   | exact LeO.none _
   | refine LeO.ite ?_ ?_
   | refine LeO.bind ?_ (fun _ => ?_)
theorem numnahlaw08_RulesOrients.j0_no : ∀ k y0 y1 y2, numnahlaw08_RulesOrients.j0 k y0 y1 y2 true ≠ some true := by intro k y0 y1 y2; cases k <;> simp [numnahlaw08_RulesOrients.j0]
set_option maxHeartbeats 8000000 in
set_option maxRecDepth 100000 in
theorem numnahlaw08_RulesOrients.calls (k : Nat) (A0 : Option Addr) (c0 : Nat) (l0 : List (S94)) (a1 : ByteArray) (r : Bool) (w : World) (hr0 : Kd.C k94 w A0 l0.length l0) (hc0 : l0.length ≤ c0) (h : numnahlaw08_RulesOrients.f k l0 a1 = some r) (ht : r = true := by rfl) :
  Calls Tryz.prog 6 #[.slice A0 l0.length c0, .string a1] w fun e w' => e = .returned (.bool r) ∧ Below w.heap.size w w' := by
 have HT0_ := Aside0.mk ht
 clear ht
 have HR0 := Aside0.mk hr0
 have HC0 := Aside0.mk hc0
 clear hr0 hc0
 have HB := Aside0.mk (Below.refl w.heap.size w)
 have H : ((numnahlaw08_laws.f k l0).bind fun t412 => ((numnahlaw08_short.f a1).bind fun t415 => ((rules_Orient.f t412).bind fun bt416 => ((rules_Proves.f t412 t415).bind fun t418 => ((numnahref08_Rules.f k t412).bind fun t419 => (if t419 = true then ((numnahref08_Orient.f k t412).bind fun bt421 => (if bt421.2 = true then (if bt416.1.toList = bt421.1.toList then (numnahlaw08_RulesOrients.j0 k t412 t415 t418 (bt416.2 != 0)) else (numnahlaw08_RulesOrients.j0 k t412 t415 t418 true)) else (if bt416.1.toList = ([] : List UInt8) then (if bt416.2 = 6 then (numnahlaw08_RulesOrients.j0 k t412 t415 t418 false) else (numnahlaw08_RulesOrients.j0 k t412 t415 t418 true)) else (numnahlaw08_RulesOrients.j0 k t412 t415 t418 true)))) else (if bt416.1.toList = ([] : List UInt8) then (if bt416.2 = 2 then (if t418 = 2 then ((numnahlaw08_awake.f k).bind fun t420 => (some t420)) else (some false)) else (some false)) else (some false)))))))) = some r := h
 clear h
 replace H := Option.bind_eq_some_iff.mp H
 obtain ⟨t412, A30, H⟩ := H
 replace H : ((numnahlaw08_short.f a1).bind fun t415 => ((rules_Orient.f t412).bind fun bt416 => ((rules_Proves.f t412 t415).bind fun t418 => ((numnahref08_Rules.f k t412).bind fun t419 => (if t419 = true then ((numnahref08_Orient.f k t412).bind fun bt421 => (if bt421.2 = true then (if bt416.1.toList = bt421.1.toList then (numnahlaw08_RulesOrients.j0 k t412 t415 t418 (bt416.2 != 0)) else (numnahlaw08_RulesOrients.j0 k t412 t415 t418 true)) else (if bt416.1.toList = ([] : List UInt8) then (if bt416.2 = 6 then (numnahlaw08_RulesOrients.j0 k t412 t415 t418 false) else (numnahlaw08_RulesOrients.j0 k t412 t415 t418 true)) else (numnahlaw08_RulesOrients.j0 k t412 t415 t418 true)))) else (if bt416.1.toList = ([] : List UInt8) then (if bt416.2 = 2 then (if t418 = 2 then ((numnahlaw08_awake.f k).bind fun t420 => (some t420)) else (some false)) else (some false)) else (some false))))))) = some r := H
 have A3 := Aside0.mk A30
 clear A30
 replace H := Option.bind_eq_some_iff.mp H
 obtain ⟨t415, A40, H⟩ := H
 replace H : ((rules_Orient.f t412).bind fun bt416 => ((rules_Proves.f t412 t415).bind fun t418 => ((numnahref08_Rules.f k t412).bind fun t419 => (if t419 = true then ((numnahref08_Orient.f k t412).bind fun bt421 => (if bt421.2 = true then (if bt416.1.toList = bt421.1.toList then (numnahlaw08_RulesOrients.j0 k t412 t415 t418 (bt416.2 != 0)) else (numnahlaw08_RulesOrients.j0 k t412 t415 t418 true)) else (if bt416.1.toList = ([] : List UInt8) then (if bt416.2 = 6 then (numnahlaw08_RulesOrients.j0 k t412 t415 t418 false) else (numnahlaw08_RulesOrients.j0 k t412 t415 t418 true)) else (numnahlaw08_RulesOrients.j0 k t412 t415 t418 true)))) else (if bt416.1.toList = ([] : List UInt8) then (if bt416.2 = 2 then (if t418 = 2 then ((numnahlaw08_awake.f k).bind fun t420 => (some t420)) else (some false)) else (some false)) else (some false)))))) = some r := H
 have A4 := Aside0.mk A40
 clear A40
 replace H := Option.bind_eq_some_iff.mp H
 obtain ⟨⟨t416, t417⟩, A50, H⟩ := H
 replace H : ((rules_Proves.f t412 t415).bind fun t418 => ((numnahref08_Rules.f k t412).bind fun t419 => (if t419 = true then ((numnahref08_Orient.f k t412).bind fun bt421 => (if bt421.2 = true then (if t416.toList = bt421.1.toList then (numnahlaw08_RulesOrients.j0 k t412 t415 t418 (t417 != 0)) else (numnahlaw08_RulesOrients.j0 k t412 t415 t418 true)) else (if t416.toList = ([] : List UInt8) then (if t417 = 6 then (numnahlaw08_RulesOrients.j0 k t412 t415 t418 false) else (numnahlaw08_RulesOrients.j0 k t412 t415 t418 true)) else (numnahlaw08_RulesOrients.j0 k t412 t415 t418 true)))) else (if t416.toList = ([] : List UInt8) then (if t417 = 2 then (if t418 = 2 then ((numnahlaw08_awake.f k).bind fun t420 => (some t420)) else (some false)) else (some false)) else (some false))))) = some r := H
 have A5 := Aside0.mk A50
 clear A50
 replace H := Option.bind_eq_some_iff.mp H
 obtain ⟨t418, A60, H⟩ := H
 replace H : ((numnahref08_Rules.f k t412).bind fun t419 => (if t419 = true then ((numnahref08_Orient.f k t412).bind fun bt421 => (if bt421.2 = true then (if t416.toList = bt421.1.toList then (numnahlaw08_RulesOrients.j0 k t412 t415 t418 (t417 != 0)) else (numnahlaw08_RulesOrients.j0 k t412 t415 t418 true)) else (if t416.toList = ([] : List UInt8) then (if t417 = 6 then (numnahlaw08_RulesOrients.j0 k t412 t415 t418 false) else (numnahlaw08_RulesOrients.j0 k t412 t415 t418 true)) else (numnahlaw08_RulesOrients.j0 k t412 t415 t418 true)))) else (if t416.toList = ([] : List UInt8) then (if t417 = 2 then (if t418 = 2 then ((numnahlaw08_awake.f k).bind fun t420 => (some t420)) else (some false)) else (some false)) else (some false)))) = some r := H
 have A6 := Aside0.mk A60
 clear A60
 replace H := Option.bind_eq_some_iff.mp H
 obtain ⟨t419, A70, H⟩ := H
 replace H : (if t419 = true then ((numnahref08_Orient.f k t412).bind fun bt421 => (if bt421.2 = true then (if t416.toList = bt421.1.toList then (numnahlaw08_RulesOrients.j0 k t412 t415 t418 (t417 != 0)) else (numnahlaw08_RulesOrients.j0 k t412 t415 t418 true)) else (if t416.toList = ([] : List UInt8) then (if t417 = 6 then (numnahlaw08_RulesOrients.j0 k t412 t415 t418 false) else (numnahlaw08_RulesOrients.j0 k t412 t415 t418 true)) else (numnahlaw08_RulesOrients.j0 k t412 t415 t418 true)))) else (if t416.toList = ([] : List UInt8) then (if t417 = 2 then (if t418 = 2 then ((numnahlaw08_awake.f k).bind fun t420 => (some t420)) else (some false)) else (some false)) else (some false))) = some r := H
 have A7 := Aside0.mk A70
 clear A70
 by_cases c8 : t419 = true
 ·subst c8
  have H1 : ((numnahref08_Orient.f k t412).bind fun bt421 => (if bt421.2 = true then (if t416.toList = bt421.1.toList then (numnahlaw08_RulesOrients.j0 k t412 t415 t418 (t417 != 0)) else (numnahlaw08_RulesOrients.j0 k t412 t415 t418 true)) else (if t416.toList = ([] : List UInt8) then (if t417 = 6 then (numnahlaw08_RulesOrients.j0 k t412 t415 t418 false) else (numnahlaw08_RulesOrients.j0 k t412 t415 t418 true)) else (numnahlaw08_RulesOrients.j0 k t412 t415 t418 true)))) = some r := by rw [if_pos rfl] at H; exact H
  clear H
  have H := H1
  clear H1
  replace H := Option.bind_eq_some_iff.mp H
  obtain ⟨⟨t421, t422⟩, A90, H⟩ := H
  replace H : (if t422 = true then (if t416.toList = t421.toList then (numnahlaw08_RulesOrients.j0 k t412 t415 t418 (t417 != 0)) else (numnahlaw08_RulesOrients.j0 k t412 t415 t418 true)) else (if t416.toList = ([] : List UInt8) then (if t417 = 6 then (numnahlaw08_RulesOrients.j0 k t412 t415 t418 false) else (numnahlaw08_RulesOrients.j0 k t412 t415 t418 true)) else (numnahlaw08_RulesOrients.j0 k t412 t415 t418 true))) = some r := H
  have A9 := Aside0.mk A90
  clear A90
  have HC10 := Aside0.mk H
  clear H
  go_enter Tryz.func6, Tryz.ntmps6
  go_upto_region 7 with (first | ((with_reducible refine gate_callee (f := 28) rfl ?_); refine goesL_ (some 13) rfl rfl Tryz.func28 (by kernel_rfl) rfl #[.slice A0 l0.length c0] rfl tM_ ?_; (with_reducible refine (numnahlaw08_laws.calls k _ _ l0 t412 _ ?side1 ?side2 A3.out).mono ?_); (case side1 => repeat (first | exact HR0.out | (with_reducible refine Kd.C_alloc ?_ _) | (with_reducible refine Kd.C_drewN ?_ _) | (with_reducible refine Kd.C_drew ?_))); (case side2 => exact HC0.out); rintro e w11 ⟨v413, rfl, ho0, hb⟩; refine ⟨_, rfl, ?_⟩; have n0_ := Aside0.mk (Kd.R_lower ho0 (below_size (tB_ HB))); have n1_ := Aside0.mk (below_step (tB_ HB) hb); clear HB; have HO414 := n0_; have HB := n1_; clear n0_ n1_; (try clear hb); (try clear hb2); (try clear hk); (try clear hi); (try clear ho0)) | ((with_reducible refine gate_callee (f := 21) rfl ?_); refine goesL_ (some 15) rfl rfl Tryz.func21 (by kernel_rfl) rfl #[.string a1] rfl tM_ ?_; (with_reducible refine (numnahlaw08_short.calls a1 t415 _ A4.out).mono ?_); rintro e w12 ⟨rfl, hb⟩; refine ⟨_, rfl, ?_⟩; have n0_ := Aside0.mk (Kd.R_below (tR_ HO414) hb); have n1_ := Aside0.mk (below_step (tB_ HB) hb); clear HO414; clear HB; have HO414 := n0_; have HB := n1_; clear n0_ n1_; (try clear hb); (try clear hb2); (try clear hk); (try clear hi); obtain ⟨Ao13, co13, eo13⟩ := Kd.R_slice HO414.out; subst eo13) | ((with_reducible refine gate_callee (f := 36) rfl ?_); refine goesL_ (some 18) rfl rfl Tryz.func36 (by kernel_rfl) rfl #[.slice Ao13 t412.length co13] rfl tM_ ?_; (with_reducible refine (rules_Orient.calls _ _ t412 t416 t417 _ ?side1 ?side2 A5.out).mono ?_); (case side1 => repeat (first | exact (Kd.R_reads' HO414.out).2.2 | (with_reducible refine Kd.C_alloc ?_ _) | (with_reducible refine Kd.C_drewN ?_ _) | (with_reducible refine Kd.C_drew ?_))); (case side2 => exact (Kd.R_reads' HO414.out).2.1); rintro e w14 ⟨rfl, hb⟩; refine ⟨_, rfl, ?_⟩; have n0_ := Aside0.mk (Kd.R_below (tR_ HO414) hb); have n1_ := Aside0.mk (below_step (tB_ HB) hb); clear HO414; clear HB; have HO414 := n0_; have HB := n1_; clear n0_ n1_; (try clear hb); (try clear hb2); (try clear hk); (try clear hi)) | ((with_reducible refine gate_callee (f := 37) rfl ?_); refine goesL_ (some 23) rfl rfl Tryz.func37 (by kernel_rfl) rfl #[.slice Ao13 t412.length co13, .string t415] rfl tM_ ?_; (with_reducible refine (rules_Proves.calls _ _ t412 t415 t418 _ ?side1 ?side2 A6.out).mono ?_); (case side1 => repeat (first | exact (Kd.R_reads' HO414.out).2.2 | (with_reducible refine Kd.C_alloc ?_ _) | (with_reducible refine Kd.C_drewN ?_ _) | (with_reducible refine Kd.C_drew ?_))); (case side2 => exact (Kd.R_reads' HO414.out).2.1); rintro e w15 ⟨rfl, hb⟩; refine ⟨_, rfl, ?_⟩; have n0_ := Aside0.mk (Kd.R_below (tR_ HO414) hb); have n1_ := Aside0.mk (below_step (tB_ HB) hb); clear HO414; clear HB; have HO414 := n0_; have HB := n1_; clear n0_ n1_; (try clear hb); (try clear hb2); (try clear hk); (try clear hi)) | ((with_reducible refine gate_callee (f := 31) rfl ?_); refine goesL_ (some 25) rfl rfl Tryz.func31 (by kernel_rfl) rfl #[.slice Ao13 t412.length co13] rfl tM_ ?_; (with_reducible refine (numnahref08_Rules.calls k _ _ t412 true _ ?side1 ?side2 A7.out).mono ?_); (case side1 => repeat (first | exact (Kd.R_reads' HO414.out).2.2 | (with_reducible refine Kd.C_alloc ?_ _) | (with_reducible refine Kd.C_drewN ?_ _) | (with_reducible refine Kd.C_drew ?_))); (case side2 => exact (Kd.R_reads' HO414.out).2.1); rintro e w' ⟨rfl, ⟨nd, rfl⟩⟩; refine ⟨_, rfl, ?_⟩) | ((with_reducible refine gate_callee (f := 38) rfl ?_); refine goesL_ (some 42) rfl rfl Tryz.func38 (by kernel_rfl) rfl #[.slice Ao13 t412.length co13] rfl tM_ ?_; (with_reducible refine (numnahref08_Orient.calls k _ _ t412 t421 t422 _ ?side1 ?side2 A9.out).mono ?_); (case side1 => repeat (first | exact (Kd.R_reads' HO414.out).2.2 | (with_reducible refine Kd.C_alloc ?_ _) | (with_reducible refine Kd.C_drewN ?_ _) | (with_reducible refine Kd.C_drew ?_))); (case side2 => exact (Kd.R_reads' HO414.out).2.1); rintro e w16 ⟨rfl, hb⟩; refine ⟨_, rfl, ?_⟩; have n0_ := Aside0.mk (Kd.R_below (tR_ HO414) hb); have n1_ := Aside0.mk (below_step (tB_ HB) hb); clear HO414; clear HB; have HO414 := n0_; have HB := n1_; clear n0_ n1_; (try clear hb); (try clear hb2); (try clear hk); (try clear hi)))
  (try simp only [Act.put, List.setIfInBounds_toArray, List.set_cons_zero, List.set_cons_succ])
  go_cut [66] (fun v66 wc => ∃ (kq : Nat) (x66_9 : Bool), v66 = .bool x66_9 ∧ Aside0 (numnahlaw08_RulesOrients.j0 kq t412 t415 t418 x66_9 = some r) ∧ Aside0 (kq ≤ k) ∧ Aside0 (Kd.R k94 94 wc w.heap.size (fun _ => True) (.slice Ao13 t412.length co13) t412) ∧ Aside0 (Below w.heap.size w wc))
  case first =>
   have H := HC10.out
   clear HC10
   by_cases c17 : t422 = true
   ·subst c17
    have H1 : (if t416.toList = t421.toList then (numnahlaw08_RulesOrients.j0 k t412 t415 t418 (t417 != 0)) else (numnahlaw08_RulesOrients.j0 k t412 t415 t418 true)) = some r := by rw [if_pos rfl] at H; exact H
    clear H
    have H := H1
    clear H1
    by_cases c18 : t416.toList = t421.toList
    ·rw [if_pos c18] at H
     have c18b0 : (t416.toList == t421.toList) = true := beq_iff_eq.mpr c18
     have c18b1 : (t416.toList != t421.toList) = false := bne_eq_false_iff_eq.mpr c18
     clear c18
     (first | rw [c18b0] | (simp only [i64_w, i32_w]; rw [c18b0]) | skip)
     have H' := Aside0.mk H
     clear H
     go_wp2
     go_meet
     case rel => exact ⟨_, ((t417 != 0)), tS_, H', ⟨by first | omega | exact Nat.le_refl _⟩, ⟨by (with_reducible repeat (first | apply Kd.R_alloc | apply Kd.R_drewN | apply Kd.R_drew)); exact HO414.out⟩, ⟨by repeat (first | (with_reducible first | exact HB.out | apply below_alloc | apply pw_below_drewN | apply below_drew1) | exact HB.out)⟩⟩
    ·rw [if_neg c18] at H
     exact absurd (H.trans (congrArg some HT0_.out)) (numnahlaw08_RulesOrients.j0_no _ _ _ _)
   ·replace c17 := Bool.eq_false_iff.mpr c17
    subst c17
    have H1 : (if t416.toList = ([] : List UInt8) then (if t417 = 6 then (numnahlaw08_RulesOrients.j0 k t412 t415 t418 false) else (numnahlaw08_RulesOrients.j0 k t412 t415 t418 true)) else (numnahlaw08_RulesOrients.j0 k t412 t415 t418 true)) = some r := by rw [if_neg (show ¬ (false = true) by decide)] at H; exact H
    clear H
    have H := H1
    clear H1
    by_cases c19 : t416.toList = ([] : List UInt8)
    ·rw [if_pos c19] at H
     have c19b0 : (t416.toList == ([] : List UInt8)) = true := beq_iff_eq.mpr c19
     have c19b1 : (t416.toList != ([] : List UInt8)) = false := bne_eq_false_iff_eq.mpr c19
     clear c19
     by_cases c20 : t417 = 6
     ·rw [if_pos c20] at H
      have c20b0 : (t417 == 6) = true := beq_iff_eq.mpr c20
      have c20b1 : (t417 != 6) = false := bne_eq_false_iff_eq.mpr c20
      clear c20
      have H' := Aside0.mk H
      clear H
      go_wp2
      go_meet
      case rel => exact ⟨_, (false), tS_, H', ⟨by first | omega | exact Nat.le_refl _⟩, ⟨by (with_reducible repeat (first | apply Kd.R_alloc | apply Kd.R_drewN | apply Kd.R_drew)); exact HO414.out⟩, ⟨by repeat (first | (with_reducible first | exact HB.out | apply below_alloc | apply pw_below_drewN | apply below_drew1) | exact HB.out)⟩⟩
     ·rw [if_neg c20] at H
      exact absurd (H.trans (congrArg some HT0_.out)) (numnahlaw08_RulesOrients.j0_no _ _ _ _)
    ·rw [if_neg c19] at H
     exact absurd (H.trans (congrArg some HT0_.out)) (numnahlaw08_RulesOrients.j0_no _ _ _ _)
  case rest =>
   clear HC10
   try clear c1
   try clear c2
   try clear p2
   try clear c3
   try clear c6
   try clear c8
   try clear c17
   try clear c18
   try clear c18b0
   try clear c18b1
   try clear c19
   try clear c19b0
   try clear c19b1
   try clear c20
   try clear c20b0
   try clear c20b1
   obtain ⟨kq, x66_9, rfl, HA, HJ9, HO_5, HB⟩ := hcut
   cases kq with
   | zero => exact absurd HA.out (by simp [numnahlaw08_RulesOrients.j0])
   | succ kj9 =>
    have H := HA.out
    clear HA
    simp only [numnahlaw08_RulesOrients.j0] at H
    by_cases c21 : x66_9 = true
    ·subst c21
     have H1 : (some false) = some r := by rw [if_pos rfl] at H; exact H
     exact absurd (H1.trans (congrArg some HT0_.out)) (by simp)
    ·replace c21 := Bool.eq_false_iff.mpr c21
     subst c21
     have H1 : ((numnahref08_Precedence.f kj9 t415).bind fun t423 => (if t423 = true then ((numnahref08_Proves.f kj9 t412 t415).bind fun t425 => (if t425 = true then (if t418 = 0 then ((numnahlaw08_awake.f kj9).bind fun t426 => (some t426)) else (some false)) else (if t418 = 10 then ((numnahlaw08_awake.f kj9).bind fun t427 => (some t427)) else (some false)))) else (if t418 = 2 then ((numnahlaw08_awake.f kj9).bind fun t424 => (some t424)) else (some false)))) = some r := by rw [if_neg (show ¬ (false = true) by decide)] at H; exact H
     clear H
     have H := H1
     clear H1
     replace H := Option.bind_eq_some_iff.mp H
     obtain ⟨t423, A220, H⟩ := H
     replace H : (if t423 = true then ((numnahref08_Proves.f kj9 t412 t415).bind fun t425 => (if t425 = true then (if t418 = 0 then ((numnahlaw08_awake.f kj9).bind fun t426 => (some t426)) else (some false)) else (if t418 = 10 then ((numnahlaw08_awake.f kj9).bind fun t427 => (some t427)) else (some false)))) else (if t418 = 2 then ((numnahlaw08_awake.f kj9).bind fun t424 => (some t424)) else (some false))) = some r := H
     have A22 := Aside0.mk A220
     clear A220
     by_cases c23 : t423 = true
     ·subst c23
      have H1 : ((numnahref08_Proves.f kj9 t412 t415).bind fun t425 => (if t425 = true then (if t418 = 0 then ((numnahlaw08_awake.f kj9).bind fun t426 => (some t426)) else (some false)) else (if t418 = 10 then ((numnahlaw08_awake.f kj9).bind fun t427 => (some t427)) else (some false)))) = some r := by rw [if_pos rfl] at H; exact H
      clear H
      have H := H1
      clear H1
      replace H := Option.bind_eq_some_iff.mp H
      obtain ⟨t425, A240, H⟩ := H
      replace H : (if t425 = true then (if t418 = 0 then ((numnahlaw08_awake.f kj9).bind fun t426 => (some t426)) else (some false)) else (if t418 = 10 then ((numnahlaw08_awake.f kj9).bind fun t427 => (some t427)) else (some false))) = some r := H
      have A24 := Aside0.mk A240
      clear A240
      by_cases c25 : t425 = true
      ·subst c25
       have H1 : (if t418 = 0 then ((numnahlaw08_awake.f kj9).bind fun t426 => (some t426)) else (some false)) = some r := by rw [if_pos rfl] at H; exact H
       clear H
       have H := H1
       clear H1
       by_cases c26 : t418 = 0
       ·rw [if_pos c26] at H
        have c26b0 : (t418 == 0) = true := beq_iff_eq.mpr c26
        have c26b1 : (t418 != 0) = false := bne_eq_false_iff_eq.mpr c26
        clear c26
        replace H := Option.bind_eq_some_iff.mp H
        obtain ⟨t426, A270, H⟩ := H
        replace H : (some t426) = some r := H
        have A27 := Aside0.mk A270
        clear A270
        obtain rfl := Option.some.inj H
        go_wp2_with (first | ((with_reducible refine gate_callee (f := 39) rfl ?_); refine goesL_ (some 68) rfl rfl Tryz.func39 (by kernel_rfl) rfl #[.string t415] rfl tM_ ?_; (with_reducible refine (numnahref08_Precedence.calls kj9 t415 true _ A22.out).mono ?_); rintro e w' ⟨rfl, ⟨nd, rfl⟩⟩; refine ⟨_, rfl, ?_⟩) | ((with_reducible refine gate_callee (f := 40) rfl ?_); refine goesL_ (some 77) rfl rfl Tryz.func40 (by kernel_rfl) rfl #[.slice Ao13 t412.length co13, .string t415] rfl tM_ ?_; (with_reducible refine (numnahref08_Proves.calls kj9 _ _ t412 t415 true _ ?side1 ?side2 A24.out).mono ?_); (case side1 => repeat (first | exact (Kd.R_reads' HO_5.out).2.2 | (with_reducible refine Kd.C_alloc ?_ _) | (with_reducible refine Kd.C_drewN ?_ _) | (with_reducible refine Kd.C_drew ?_))); (case side2 => exact (Kd.R_reads' HO_5.out).2.1); rintro e w28 ⟨rfl, hb⟩; refine ⟨_, rfl, ?_⟩; have n0_ := Aside0.mk (Kd.R_below (tR_ HO_5) hb); have n1_ := Aside0.mk (below_step (tB_ HB) hb); clear HO_5; clear HB; have HO_5 := n0_; have HB := n1_; clear n0_ n1_; (try clear hb); (try clear hb2); (try clear hk); (try clear hi)) | (go_at_call 24; (with_reducible refine (numnahlaw08_awake.calls kj9  t426 _ A27.out).mono ?_); rintro e w29 ⟨rfl, hb⟩; have n0_ := Aside0.mk (Kd.R_below (tR_ HO_5) hb); have n1_ := Aside0.mk (below_step (tB_ HB) hb); clear HO_5; clear HB; have HO_5 := n0_; have HB := n1_; clear n0_ n1_; (try clear hb); (try clear hb2); (try clear hk); (try clear hi)))
        go_ret
        exact ⟨by first | rfl | (simp [errW_none, errW_some] <;> rfl) | (simp [*, errW_none, errW_some] <;> rfl), by repeat (first | (with_reducible first | exact HB.out | apply below_alloc | apply pw_below_drewN | apply below_drew1) | exact HB.out)⟩
       ·rw [if_neg c26] at H
        exact absurd (H.trans (congrArg some HT0_.out)) (by simp)
      ·replace c25 := Bool.eq_false_iff.mpr c25
       subst c25
       have H1 : (if t418 = 10 then ((numnahlaw08_awake.f kj9).bind fun t427 => (some t427)) else (some false)) = some r := by rw [if_neg (show ¬ (false = true) by decide)] at H; exact H
       clear H
       have H := H1
       clear H1
       by_cases c31 : t418 = 10
       ·rw [if_pos c31] at H
        have c31b0 : (t418 == 10) = true := beq_iff_eq.mpr c31
        have c31b1 : (t418 != 10) = false := bne_eq_false_iff_eq.mpr c31
        clear c31
        replace H := Option.bind_eq_some_iff.mp H
        obtain ⟨t427, A320, H⟩ := H
        replace H : (some t427) = some r := H
        have A32 := Aside0.mk A320
        clear A320
        obtain rfl := Option.some.inj H
        go_wp2_with (first | ((with_reducible refine gate_callee (f := 39) rfl ?_); refine goesL_ (some 68) rfl rfl Tryz.func39 (by kernel_rfl) rfl #[.string t415] rfl tM_ ?_; (with_reducible refine (numnahref08_Precedence.calls kj9 t415 true _ A22.out).mono ?_); rintro e w' ⟨rfl, ⟨nd, rfl⟩⟩; refine ⟨_, rfl, ?_⟩) | ((with_reducible refine gate_callee (f := 40) rfl ?_); refine goesL_ (some 77) rfl rfl Tryz.func40 (by kernel_rfl) rfl #[.slice Ao13 t412.length co13, .string t415] rfl tM_ ?_; (with_reducible refine (numnahref08_Proves.calls kj9 _ _ t412 t415 false _ ?side1 ?side2 A24.out).mono ?_); (case side1 => repeat (first | exact (Kd.R_reads' HO_5.out).2.2 | (with_reducible refine Kd.C_alloc ?_ _) | (with_reducible refine Kd.C_drewN ?_ _) | (with_reducible refine Kd.C_drew ?_))); (case side2 => exact (Kd.R_reads' HO_5.out).2.1); rintro e w33 ⟨rfl, hb⟩; refine ⟨_, rfl, ?_⟩; have n0_ := Aside0.mk (Kd.R_below (tR_ HO_5) hb); have n1_ := Aside0.mk (below_step (tB_ HB) hb); clear HO_5; clear HB; have HO_5 := n0_; have HB := n1_; clear n0_ n1_; (try clear hb); (try clear hb2); (try clear hk); (try clear hi)) | (go_at_call 24; (with_reducible refine (numnahlaw08_awake.calls kj9  t427 _ A32.out).mono ?_); rintro e w34 ⟨rfl, hb⟩; have n0_ := Aside0.mk (Kd.R_below (tR_ HO_5) hb); have n1_ := Aside0.mk (below_step (tB_ HB) hb); clear HO_5; clear HB; have HO_5 := n0_; have HB := n1_; clear n0_ n1_; (try clear hb); (try clear hb2); (try clear hk); (try clear hi)))
        go_ret
        exact ⟨by first | rfl | (simp [errW_none, errW_some] <;> rfl) | (simp [*, errW_none, errW_some] <;> rfl), by repeat (first | (with_reducible first | exact HB.out | apply below_alloc | apply pw_below_drewN | apply below_drew1) | exact HB.out)⟩
       ·rw [if_neg c31] at H
        exact absurd (H.trans (congrArg some HT0_.out)) (by simp)
     ·replace c23 := Bool.eq_false_iff.mpr c23
      subst c23
      have H1 : (if t418 = 2 then ((numnahlaw08_awake.f kj9).bind fun t424 => (some t424)) else (some false)) = some r := by rw [if_neg (show ¬ (false = true) by decide)] at H; exact H
      clear H
      have H := H1
      clear H1
      by_cases c36 : t418 = 2
      ·rw [if_pos c36] at H
       have c36b0 : (t418 == 2) = true := beq_iff_eq.mpr c36
       have c36b1 : (t418 != 2) = false := bne_eq_false_iff_eq.mpr c36
       clear c36
       replace H := Option.bind_eq_some_iff.mp H
       obtain ⟨t424, A370, H⟩ := H
       replace H : (some t424) = some r := H
       have A37 := Aside0.mk A370
       clear A370
       obtain rfl := Option.some.inj H
       go_wp2_with (first | ((with_reducible refine gate_callee (f := 39) rfl ?_); refine goesL_ (some 68) rfl rfl Tryz.func39 (by kernel_rfl) rfl #[.string t415] rfl tM_ ?_; (with_reducible refine (numnahref08_Precedence.calls kj9 t415 false _ A22.out).mono ?_); rintro e w' ⟨rfl, ⟨nd, rfl⟩⟩; refine ⟨_, rfl, ?_⟩) | (go_at_call 24; (with_reducible refine (numnahlaw08_awake.calls kj9  t424 _ A37.out).mono ?_); rintro e w38 ⟨rfl, hb⟩; have n0_ := Aside0.mk (Kd.R_below (tR_ HO_5) hb); have n1_ := Aside0.mk (below_step (tB_ HB) hb); clear HO_5; clear HB; have HO_5 := n0_; have HB := n1_; clear n0_ n1_; (try clear hb); (try clear hb2); (try clear hk); (try clear hi)))
       go_ret
       exact ⟨by first | rfl | (simp [errW_none, errW_some] <;> rfl) | (simp [*, errW_none, errW_some] <;> rfl), by repeat (first | (with_reducible first | exact HB.out | apply below_alloc | apply pw_below_drewN | apply below_drew1) | exact HB.out)⟩
      ·rw [if_neg c36] at H
       exact absurd (H.trans (congrArg some HT0_.out)) (by simp)
 ·replace c8 := Bool.eq_false_iff.mpr c8
  subst c8
  have H1 : (if t416.toList = ([] : List UInt8) then (if t417 = 2 then (if t418 = 2 then ((numnahlaw08_awake.f k).bind fun t420 => (some t420)) else (some false)) else (some false)) else (some false)) = some r := by rw [if_neg (show ¬ (false = true) by decide)] at H; exact H
  clear H
  have H := H1
  clear H1
  by_cases c39 : t416.toList = ([] : List UInt8)
  ·rw [if_pos c39] at H
   have c39b0 : (t416.toList == ([] : List UInt8)) = true := beq_iff_eq.mpr c39
   have c39b1 : (t416.toList != ([] : List UInt8)) = false := bne_eq_false_iff_eq.mpr c39
   clear c39
   by_cases c40 : t417 = 2
   ·rw [if_pos c40] at H
    have c40b0 : (t417 == 2) = true := beq_iff_eq.mpr c40
    have c40b1 : (t417 != 2) = false := bne_eq_false_iff_eq.mpr c40
    clear c40
    by_cases c41 : t418 = 2
    ·rw [if_pos c41] at H
     have c41b0 : (t418 == 2) = true := beq_iff_eq.mpr c41
     have c41b1 : (t418 != 2) = false := bne_eq_false_iff_eq.mpr c41
     clear c41
     replace H := Option.bind_eq_some_iff.mp H
     obtain ⟨t420, A420, H⟩ := H
     replace H : (some t420) = some r := H
     have A42 := Aside0.mk A420
     clear A420
     obtain rfl := Option.some.inj H
     go_enter Tryz.func6, Tryz.ntmps6
     go_wp2_with (first | ((with_reducible refine gate_callee (f := 28) rfl ?_); refine goesL_ (some 13) rfl rfl Tryz.func28 (by kernel_rfl) rfl #[.slice A0 l0.length c0] rfl tM_ ?_; (with_reducible refine (numnahlaw08_laws.calls k _ _ l0 t412 _ ?side1 ?side2 A3.out).mono ?_); (case side1 => repeat (first | exact HR0.out | (with_reducible refine Kd.C_alloc ?_ _) | (with_reducible refine Kd.C_drewN ?_ _) | (with_reducible refine Kd.C_drew ?_))); (case side2 => exact HC0.out); rintro e w43 ⟨v413, rfl, ho0, hb⟩; refine ⟨_, rfl, ?_⟩; have n0_ := Aside0.mk (Kd.R_lower ho0 (below_size (tB_ HB))); have n1_ := Aside0.mk (below_step (tB_ HB) hb); clear HB; have HO414 := n0_; have HB := n1_; clear n0_ n1_; (try clear hb); (try clear hb2); (try clear hk); (try clear hi); (try clear ho0)) | ((with_reducible refine gate_callee (f := 21) rfl ?_); refine goesL_ (some 15) rfl rfl Tryz.func21 (by kernel_rfl) rfl #[.string a1] rfl tM_ ?_; (with_reducible refine (numnahlaw08_short.calls a1 t415 _ A4.out).mono ?_); rintro e w44 ⟨rfl, hb⟩; refine ⟨_, rfl, ?_⟩; have n0_ := Aside0.mk (Kd.R_below (tR_ HO414) hb); have n1_ := Aside0.mk (below_step (tB_ HB) hb); clear HO414; clear HB; have HO414 := n0_; have HB := n1_; clear n0_ n1_; (try clear hb); (try clear hb2); (try clear hk); (try clear hi); obtain ⟨Ao45, co45, eo45⟩ := Kd.R_slice HO414.out; subst eo45) | ((with_reducible refine gate_callee (f := 36) rfl ?_); refine goesL_ (some 18) rfl rfl Tryz.func36 (by kernel_rfl) rfl #[.slice Ao45 t412.length co45] rfl tM_ ?_; (with_reducible refine (rules_Orient.calls _ _ t412 t416 t417 _ ?side1 ?side2 A5.out).mono ?_); (case side1 => repeat (first | exact (Kd.R_reads' HO414.out).2.2 | (with_reducible refine Kd.C_alloc ?_ _) | (with_reducible refine Kd.C_drewN ?_ _) | (with_reducible refine Kd.C_drew ?_))); (case side2 => exact (Kd.R_reads' HO414.out).2.1); rintro e w46 ⟨rfl, hb⟩; refine ⟨_, rfl, ?_⟩; have n0_ := Aside0.mk (Kd.R_below (tR_ HO414) hb); have n1_ := Aside0.mk (below_step (tB_ HB) hb); clear HO414; clear HB; have HO414 := n0_; have HB := n1_; clear n0_ n1_; (try clear hb); (try clear hb2); (try clear hk); (try clear hi)) | ((with_reducible refine gate_callee (f := 37) rfl ?_); refine goesL_ (some 23) rfl rfl Tryz.func37 (by kernel_rfl) rfl #[.slice Ao45 t412.length co45, .string t415] rfl tM_ ?_; (with_reducible refine (rules_Proves.calls _ _ t412 t415 t418 _ ?side1 ?side2 A6.out).mono ?_); (case side1 => repeat (first | exact (Kd.R_reads' HO414.out).2.2 | (with_reducible refine Kd.C_alloc ?_ _) | (with_reducible refine Kd.C_drewN ?_ _) | (with_reducible refine Kd.C_drew ?_))); (case side2 => exact (Kd.R_reads' HO414.out).2.1); rintro e w47 ⟨rfl, hb⟩; refine ⟨_, rfl, ?_⟩; have n0_ := Aside0.mk (Kd.R_below (tR_ HO414) hb); have n1_ := Aside0.mk (below_step (tB_ HB) hb); clear HO414; clear HB; have HO414 := n0_; have HB := n1_; clear n0_ n1_; (try clear hb); (try clear hb2); (try clear hk); (try clear hi)) | ((with_reducible refine gate_callee (f := 31) rfl ?_); refine goesL_ (some 25) rfl rfl Tryz.func31 (by kernel_rfl) rfl #[.slice Ao45 t412.length co45] rfl tM_ ?_; (with_reducible refine (numnahref08_Rules.calls k _ _ t412 false _ ?side1 ?side2 A7.out).mono ?_); (case side1 => repeat (first | exact (Kd.R_reads' HO414.out).2.2 | (with_reducible refine Kd.C_alloc ?_ _) | (with_reducible refine Kd.C_drewN ?_ _) | (with_reducible refine Kd.C_drew ?_))); (case side2 => exact (Kd.R_reads' HO414.out).2.1); rintro e w' ⟨rfl, ⟨nd, rfl⟩⟩; refine ⟨_, rfl, ?_⟩) | (go_at_call 24; (with_reducible refine (numnahlaw08_awake.calls k  t420 _ A42.out).mono ?_); rintro e w48 ⟨rfl, hb⟩; have n0_ := Aside0.mk (Kd.R_below (tR_ HO414) hb); have n1_ := Aside0.mk (below_step (tB_ HB) hb); clear HO414; clear HB; have HO414 := n0_; have HB := n1_; clear n0_ n1_; (try clear hb); (try clear hb2); (try clear hk); (try clear hi)))
     go_ret
     exact ⟨by first | rfl | (simp [errW_none, errW_some] <;> rfl) | (simp [*, errW_none, errW_some] <;> rfl), by repeat (first | (with_reducible first | exact HB.out | apply below_alloc | apply pw_below_drewN | apply below_drew1) | exact HB.out)⟩
    ·rw [if_neg c41] at H
     exact absurd (H.trans (congrArg some HT0_.out)) (by simp)
   ·rw [if_neg c40] at H
    exact absurd (H.trans (congrArg some HT0_.out)) (by simp)
  ·rw [if_neg c39] at H
   exact absurd (H.trans (congrArg some HT0_.out)) (by simp)
end Go.Proofs.YtaafeallcaiooaaGreat.Pr
-- indented by one
