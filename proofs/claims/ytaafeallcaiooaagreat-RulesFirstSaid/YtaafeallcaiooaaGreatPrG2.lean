import Derived.Test.YtaafeallcaiooaaGreatPr0
import Derived.Test.YtaafeallcaiooaaGreatHEx
import Derived.Test.YtaafeallcaiooaaGreatHMd
import Derived.Test.YtaafeallcaiooaaGreatPrA1
import Derived.Test.YtaafeallcaiooaaGreatPrA7
import Derived.Test.YtaafeallcaiooaaGreatPrB1
/- Proves. -/
namespace Go.Proofs.YtaafeallcaiooaaGreat.Pr
open Go.RowKit Go.Maps Go.Proofs.YtaafeallcaiooaaGreatW.PrintWords Go.Proofs.YtaafeallcaiooaaGreatW.PrintLast Go.Proofs.YtaafeallcaiooaaGreatW.PrintMore
set_option linter.unusedVariables false
set_option linter.unusedSimpArgs false
/-- Proves: the error -/
def provesE (rs : List S94) (p : ByteArray) : Int := match newLawsT rs with
  | none => 2
  | some ls => match precOk p with
    | false => 2
    | true => if provT (rankP p) ls then 0 else 10
set_option maxRecDepth 100000 in
set_option maxHeartbeats 1000000 in
theorem proves1_calls (rs : List S94) (p : ByteArray) (hp : p.size ≤ 1000000) (A0 : Option Addr) (c0 b0 b1 : Nat) (w : World) (hC0 : Kd.C k94 w A0 rs.length rs) (hb0 : w.heap[b0]? = some (.cells #[.slice A0 rs.length c0] 35 (0, 0))) (hb1 : w.heap[b1]? = some (.cells #[.string p] 9 (0, 0))) :
    Calls Tryz.prog 90 #[.pointer (some ⟨b0, 0, none⟩), .pointer (some ⟨b1, 0, none⟩)] w (OutI w (provesE rs p)) := by
  have hx0 := blk_cell hb0 0
  have hnl := newLaws_calls rs A0 c0 w hC0
  cases hL : newLawsT rs with
  | none =>
    have hr : provesE rs p = 2 := by unfold provesE; rw [hL]
    rw [hr]
    rw [hL] at hnl
    have HC := Aside0.mk hnl
    clear hnl hC0 hb0 hb1 hL hr
    go_enter Tryz.func90, Tryz.ntmps90
    go_wp2_with (go_at_call 77; refine HC.out.mono ?_; rintro e w1 ⟨hb, rfl⟩; have H1 := Aside0.mk hb; clear hb)
    exact ⟨rfl, rfl, H1.out⟩
  | some ls =>
    have hlg := newLawsT_good hL
    rw [hL] at hnl
    have hnp := fun w' : World => newPrec_calls p hp w'
    unfold OutP at hnp
    cases hP : precOk p with
    | false =>
      have hr : provesE rs p = 2 := by unfold provesE; rw [hL]; dsimp only; rw [hP]
      rw [hr]
      rw [hP] at hnp
      have HC := Aside0.mk hnl
      have HN := Aside0.mk hnp
      have HB1 := Aside0.mk hb1
      clear hnl hnp hC0 hb0 hb1 hL hr hP hlg
      go_enter Tryz.func90, Tryz.ntmps90
      go_wp2_with (first
        | (go_at_call 77; refine HC.out.mono ?_; rintro e w1 ⟨hb, A2, c2, rfl, hW⟩; have hx1 := blk_cell (blk_below HB1.out hb) 0; have H1 := Aside0.mk hb; clear hb hW)
        | (go_at_call 87; refine (HN.out _).mono ?_; rintro e w2 ⟨hb, rfl⟩; have H2 := Aside0.mk (below_on H1.out hb); clear hb))
      exact ⟨rfl, rfl, H2.out⟩
    | true =>
      obtain ⟨b, hb⟩ : ∃ b, b = provT (rankP p) ls := ⟨_, rfl⟩
      have hr : provesE rs p = if b = true then 0 else 10 := by unfold provesE; rw [hL]; dsimp only; rw [hP, hb]
      rw [hr]
      rw [hP] at hnp
      dsimp only at hnp
      have hpv := fun (c1 c2 : Nat) (A : Option Addr) (cap : Nat) (w' : World) (ok : Nat → Prop) (hW : HasW w' ok ls A) (hQ : Prec w' (rankP p) c1 c2) => proves_calls (rankP p) ls c1 c2 A cap w' ok hW hlg.1 (by omega) hQ
      rw [← hb] at hpv
      have HC := Aside0.mk hnl
      have HN := Aside0.mk hnp
      have HPV := Aside0.mk hpv
      have HB1 := Aside0.mk hb1
      clear hnl hnp hC0 hb0 hb1 hL hr hP hlg hpv hb
      cases b with
      | true =>
        rw [if_pos rfl]
        go_enter Tryz.func90, Tryz.ntmps90
        go_wp2_with (first
          | (go_at_call 77; refine HC.out.mono ?_; rintro e w1 ⟨hb, A2, c2, rfl, hW⟩; have hx1 := blk_cell (blk_below HB1.out hb) 0; have H1 := Aside0.mk (And.intro hb hW); clear hb hW)
          | (go_at_call 87; refine (HN.out _).mono ?_; rintro e w2 ⟨hb, d1, d2, rfl, hne, hs1, hs2, hRk, hMp⟩; have H2 := Aside0.mk (And.intro (below_on H1.out.1 hb) (And.intro (H1.out.2.below hb) (And.intro (⟨hRk, hne, [], hMp, known_nil _⟩ : Prec w2 (rankP p) d1 d2) (Nat.le_trans H1.out.1.size hs2)))); clear hb hne hs1 hs2 hRk hMp)
          | (go_at_call 88; refine (HPV.out _ _ _ _ _ _ H2.out.2.1 H2.out.2.2.1).mono ?_; rintro e w3 ⟨rfl, hb, hP3⟩; have H3 := Aside0.mk (H2.out.1.trans (hb.below H2.out.2.2.2 H2.out.1.size)); clear hb hP3)
          | (go_at_call 67; refine (demand_ok 10 _).mono ?_; rintro e w8 ⟨rfl, h8⟩; subst w8))
        simp [bodyPost, results, Tryz.results90]
        exact ⟨rfl, H3.out⟩
      | false =>
        rw [if_neg (by simp)]
        go_enter Tryz.func90, Tryz.ntmps90
        go_wp2_with (first
          | (go_at_call 77; refine HC.out.mono ?_; rintro e w1 ⟨hb, A2, c2, rfl, hW⟩; have hx1 := blk_cell (blk_below HB1.out hb) 0; have H1 := Aside0.mk (And.intro hb hW); clear hb hW)
          | (go_at_call 87; refine (HN.out _).mono ?_; rintro e w2 ⟨hb, d1, d2, rfl, hne, hs1, hs2, hRk, hMp⟩; have H2 := Aside0.mk (And.intro (below_on H1.out.1 hb) (And.intro (H1.out.2.below hb) (And.intro (⟨hRk, hne, [], hMp, known_nil _⟩ : Prec w2 (rankP p) d1 d2) (Nat.le_trans H1.out.1.size hs2)))); clear hb hne hs1 hs2 hRk hMp)
          | (go_at_call 88; refine (HPV.out _ _ _ _ _ _ H2.out.2.1 H2.out.2.2.1).mono ?_; rintro e w3 ⟨rfl, hb, hP3⟩; have H3 := Aside0.mk (H2.out.1.trans (hb.below H2.out.2.2.2 H2.out.1.size)); clear hb hP3)
          | (go_at_call 67; refine (demand_no 10 _).mono ?_; rintro e w8 ⟨rfl, h8⟩; subst w8))
        exact ⟨rfl, rfl, H3.out⟩
theorem enters90 : ∀ args w, (callFunc 90 args).run Tryz.prog w = .ok (.enter 90 args) w := fun args w => enters_ Tryz.func90 (by kernel_rfl) rfl args w
def rules_Proves.f (l0 : List S94) (a1 : ByteArray) : Option Int := if a1.size ≤ 1000000 then some (provesE l0 a1) else none
set_option maxRecDepth 100000 in
theorem rules_Proves.calls (A0 : Option Addr) (c0 : Nat) (l0 : List S94) (a1 : ByteArray) (r0 : Int) (w : World) (hr0 : Kd.C k94 w A0 l0.length l0) (hc0 : l0.length ≤ c0) (h : rules_Proves.f l0 a1 = some r0) :
    Calls Tryz.prog 37 #[.slice A0 l0.length c0, .string a1] w fun e w' => e = .returned (.int .i64 r0) ∧ Below w.heap.size w w' := by
  unfold rules_Proves.f at h
  split at h
  · rename_i hl
    injection h with h
    have hb2 : Below w.heap.size w ((w.alloc (.cells #[.slice A0 l0.length c0] 35)).alloc (.cells #[.string a1] 9)) := below_alloc (below_alloc (Below.refl _ _) _) _
    have hb3 : Below w.heap.size w (((w.alloc (.cells #[.slice A0 l0.length c0] 35)).alloc (.cells #[.string a1] 9)).alloc (.cells #[.int .i64 0] 26)) := below_alloc hb2 _
    have hx0 : (((w.alloc (.cells #[.slice A0 l0.length c0] 35)).alloc (.cells #[.string a1] 9)).alloc (.cells #[.int .i64 0] 26)).heap[w.heap.size]? = some (.cells #[.slice A0 l0.length c0] 35 (0, 0)) := blk_alloc (blk_alloc (blk_new w _) _) _
    have hx1 : (((w.alloc (.cells #[.slice A0 l0.length c0] 35)).alloc (.cells #[.string a1] 9)).alloc (.cells #[.int .i64 0] 26)).heap[w.heap.size + 1]? = some (.cells #[.string a1] 9 (0, 0)) := blk_alloc (blk_new1' w _ _) _
    have hg := guarded 90 enters90 #[.pointer (some ⟨w.heap.size, 0, none⟩), .pointer (some ⟨w.heap.size + 1, 0, none⟩)] ((w.alloc (.cells #[.slice A0 l0.length c0] 35)).alloc (.cells #[.string a1] 9)) (provesE l0 a1) (proves1_calls l0 a1 hl A0 c0 w.heap.size (w.heap.size + 1) _ (Kd.C_below hr0 hb3) hx0 hx1)
    rw [h] at hg
    have HG := Aside0.mk hg
    have HB := Aside0.mk hb2
    clear hg hb2 hb3 hx0 hx1 hr0 hc0 hl h
    go_enter Tryz.func37, Tryz.ntmps37
    go_wp2_with (go_at_call 65; refine HG.out.mono ?_; rintro e w1 ⟨rfl, hb⟩; have H1 := Aside0.mk (below_step HB.out hb); clear hb)
    go_ret
    exact ⟨rfl, H1.out⟩
  · cases h
end Go.Proofs.YtaafeallcaiooaaGreat.Pr
-- Laid by wip/tools/inj.py of this project, which drives the kit's printer. Lean checks it.
namespace Go.Proofs.YtaafeallcaiooaaGreat.Pr
open Go.RowKit Go.Proofs.YtaafeallcaiooaaGreatW.PrintWords Go.Proofs.YtaafeallcaiooaaGreatW.PrintLast Go.Proofs.YtaafeallcaiooaaGreatW.PrintMore
attribute [local go_sem] max2_int min2_int max_two min_two max_three min_three max_four min_four   -- for this text's walks alone
set_option linter.unusedVariables false
set_option linter.unusedSimpArgs false

/-! ### numnahlaw08_RulesFirst: function 7 -/
noncomputable def numnahlaw08_RulesFirst.f (k : Nat) (l0 : List ByteArray) (a1 : Int) : Option (Bool) := (numnahlaw08_made.f l0).bind fun t430 => ((numnahlaw08_order.f k a1).bind fun t433 => ((rules_Orient.f t430).bind fun bt434 => ((rules_Proves.f t430 t433).bind fun t436 => (if bt434.2 = 0 then ((numnahref08_Precedence.f k bt434.1).bind fun t437 => (if t437 = true then ((rules_Proves.f t430 bt434.1).bind fun t438 => (if t438 = 0 then (if t436 = 0 then (if ((Op.bytesLess t433.toList bt434.1.toList) = true) then (if t436 = 10 then (if t433.toList = bt434.1.toList then (some false) else ((numnahlaw08_awake.f k).bind fun t439 => (some t439))) else (some false)) else ((numnahlaw08_awake.f k).bind fun t440 => (some t440))) else (if t436 = 10 then (if t433.toList = bt434.1.toList then (some false) else ((numnahlaw08_awake.f k).bind fun t441 => (some t441))) else (some false))) else (some false))) else (some false))) else (if bt434.2 = 6 then (if t436 = 10 then ((numnahlaw08_awake.f k).bind fun t442 => (some t442)) else (some false)) else (some false))))))
theorem numnahlaw08_RulesFirst.mono : ∀ a0 a1 k, LeO (numnahlaw08_RulesFirst.f k a0 a1) (numnahlaw08_RulesFirst.f (k + 1) a0 a1) := by
 intro a0 a1 k
 unfold numnahlaw08_RulesFirst.f
 repeat' first
   | (with_reducible exact numnahlaw08_awake.mono _)
   | (with_reducible exact numnahlaw08_order.mono _ _)
   | (with_reducible exact numnahref08_Precedence.mono _ _)
   | (with_reducible exact LeO.refl _)
   | (with_reducible exact LeO.none _)
   | (with_reducible refine LeO.ite ?_ ?_)
   | (with_reducible refine LeO.bind ?_ (fun _ => ?_))
   | exact numnahlaw08_awake.mono _
   | exact numnahlaw08_order.mono _ _
   | exact numnahref08_Precedence.mono _ _
   | exact LeO.none _
   | refine LeO.ite ?_ ?_
   | refine LeO.bind ?_ (fun _ => ?_)
set_option maxHeartbeats 8000000 in
set_option maxRecDepth 100000 in
theorem numnahlaw08_RulesFirst.calls (k : Nat) (A0 : Option Addr) (c0 : Nat) (l0 : List ByteArray) (a1 : Int) (r : Bool) (w : World) (hr0 : Kd.C Kd.string w A0 l0.length l0) (hc0 : l0.length ≤ c0) (h : numnahlaw08_RulesFirst.f k l0 a1 = some r) (ht : r = true := by rfl) :
  Calls Tryz.prog 7 #[.slice A0 l0.length c0, .int .i64 a1] w fun e w' => e = .returned (.bool r) ∧ Below w.heap.size w w' := by
 have HT0_ := Aside0.mk ht
 clear ht
 have HR0 := Aside0.mk hr0
 have HC0 := Aside0.mk hc0
 clear hr0 hc0
 have HB := Aside0.mk (Below.refl w.heap.size w)
 have H : ((numnahlaw08_made.f l0).bind fun t430 => ((numnahlaw08_order.f k a1).bind fun t433 => ((rules_Orient.f t430).bind fun bt434 => ((rules_Proves.f t430 t433).bind fun t436 => (if bt434.2 = 0 then ((numnahref08_Precedence.f k bt434.1).bind fun t437 => (if t437 = true then ((rules_Proves.f t430 bt434.1).bind fun t438 => (if t438 = 0 then (if t436 = 0 then (if ((Op.bytesLess t433.toList bt434.1.toList) = true) then (if t436 = 10 then (if t433.toList = bt434.1.toList then (some false) else ((numnahlaw08_awake.f k).bind fun t439 => (some t439))) else (some false)) else ((numnahlaw08_awake.f k).bind fun t440 => (some t440))) else (if t436 = 10 then (if t433.toList = bt434.1.toList then (some false) else ((numnahlaw08_awake.f k).bind fun t441 => (some t441))) else (some false))) else (some false))) else (some false))) else (if bt434.2 = 6 then (if t436 = 10 then ((numnahlaw08_awake.f k).bind fun t442 => (some t442)) else (some false)) else (some false))))))) = some r := h
 clear h
 replace H := Option.bind_eq_some_iff.mp H
 obtain ⟨t430, A30, H⟩ := H
 replace H : ((numnahlaw08_order.f k a1).bind fun t433 => ((rules_Orient.f t430).bind fun bt434 => ((rules_Proves.f t430 t433).bind fun t436 => (if bt434.2 = 0 then ((numnahref08_Precedence.f k bt434.1).bind fun t437 => (if t437 = true then ((rules_Proves.f t430 bt434.1).bind fun t438 => (if t438 = 0 then (if t436 = 0 then (if ((Op.bytesLess t433.toList bt434.1.toList) = true) then (if t436 = 10 then (if t433.toList = bt434.1.toList then (some false) else ((numnahlaw08_awake.f k).bind fun t439 => (some t439))) else (some false)) else ((numnahlaw08_awake.f k).bind fun t440 => (some t440))) else (if t436 = 10 then (if t433.toList = bt434.1.toList then (some false) else ((numnahlaw08_awake.f k).bind fun t441 => (some t441))) else (some false))) else (some false))) else (some false))) else (if bt434.2 = 6 then (if t436 = 10 then ((numnahlaw08_awake.f k).bind fun t442 => (some t442)) else (some false)) else (some false)))))) = some r := H
 have A3 := Aside0.mk A30
 clear A30
 replace H := Option.bind_eq_some_iff.mp H
 obtain ⟨t433, A40, H⟩ := H
 replace H : ((rules_Orient.f t430).bind fun bt434 => ((rules_Proves.f t430 t433).bind fun t436 => (if bt434.2 = 0 then ((numnahref08_Precedence.f k bt434.1).bind fun t437 => (if t437 = true then ((rules_Proves.f t430 bt434.1).bind fun t438 => (if t438 = 0 then (if t436 = 0 then (if ((Op.bytesLess t433.toList bt434.1.toList) = true) then (if t436 = 10 then (if t433.toList = bt434.1.toList then (some false) else ((numnahlaw08_awake.f k).bind fun t439 => (some t439))) else (some false)) else ((numnahlaw08_awake.f k).bind fun t440 => (some t440))) else (if t436 = 10 then (if t433.toList = bt434.1.toList then (some false) else ((numnahlaw08_awake.f k).bind fun t441 => (some t441))) else (some false))) else (some false))) else (some false))) else (if bt434.2 = 6 then (if t436 = 10 then ((numnahlaw08_awake.f k).bind fun t442 => (some t442)) else (some false)) else (some false))))) = some r := H
 have A4 := Aside0.mk A40
 clear A40
 replace H := Option.bind_eq_some_iff.mp H
 obtain ⟨⟨t434, t435⟩, A50, H⟩ := H
 replace H : ((rules_Proves.f t430 t433).bind fun t436 => (if t435 = 0 then ((numnahref08_Precedence.f k t434).bind fun t437 => (if t437 = true then ((rules_Proves.f t430 t434).bind fun t438 => (if t438 = 0 then (if t436 = 0 then (if ((Op.bytesLess t433.toList t434.toList) = true) then (if t436 = 10 then (if t433.toList = t434.toList then (some false) else ((numnahlaw08_awake.f k).bind fun t439 => (some t439))) else (some false)) else ((numnahlaw08_awake.f k).bind fun t440 => (some t440))) else (if t436 = 10 then (if t433.toList = t434.toList then (some false) else ((numnahlaw08_awake.f k).bind fun t441 => (some t441))) else (some false))) else (some false))) else (some false))) else (if t435 = 6 then (if t436 = 10 then ((numnahlaw08_awake.f k).bind fun t442 => (some t442)) else (some false)) else (some false)))) = some r := H
 have A5 := Aside0.mk A50
 clear A50
 replace H := Option.bind_eq_some_iff.mp H
 obtain ⟨t436, A60, H⟩ := H
 replace H : (if t435 = 0 then ((numnahref08_Precedence.f k t434).bind fun t437 => (if t437 = true then ((rules_Proves.f t430 t434).bind fun t438 => (if t438 = 0 then (if t436 = 0 then (if ((Op.bytesLess t433.toList t434.toList) = true) then (if t436 = 10 then (if t433.toList = t434.toList then (some false) else ((numnahlaw08_awake.f k).bind fun t439 => (some t439))) else (some false)) else ((numnahlaw08_awake.f k).bind fun t440 => (some t440))) else (if t436 = 10 then (if t433.toList = t434.toList then (some false) else ((numnahlaw08_awake.f k).bind fun t441 => (some t441))) else (some false))) else (some false))) else (some false))) else (if t435 = 6 then (if t436 = 10 then ((numnahlaw08_awake.f k).bind fun t442 => (some t442)) else (some false)) else (some false))) = some r := H
 have A6 := Aside0.mk A60
 clear A60
 by_cases c7 : t435 = 0
 ·rw [if_pos c7] at H
  have c7b0 : (t435 == 0) = true := beq_iff_eq.mpr c7
  have c7b1 : (t435 != 0) = false := bne_eq_false_iff_eq.mpr c7
  clear c7
  replace H := Option.bind_eq_some_iff.mp H
  obtain ⟨t437, A80, H⟩ := H
  replace H : (if t437 = true then ((rules_Proves.f t430 t434).bind fun t438 => (if t438 = 0 then (if t436 = 0 then (if ((Op.bytesLess t433.toList t434.toList) = true) then (if t436 = 10 then (if t433.toList = t434.toList then (some false) else ((numnahlaw08_awake.f k).bind fun t439 => (some t439))) else (some false)) else ((numnahlaw08_awake.f k).bind fun t440 => (some t440))) else (if t436 = 10 then (if t433.toList = t434.toList then (some false) else ((numnahlaw08_awake.f k).bind fun t441 => (some t441))) else (some false))) else (some false))) else (some false)) = some r := H
  have A8 := Aside0.mk A80
  clear A80
  by_cases c9 : t437 = true
  ·subst c9
   have H1 : ((rules_Proves.f t430 t434).bind fun t438 => (if t438 = 0 then (if t436 = 0 then (if ((Op.bytesLess t433.toList t434.toList) = true) then (if t436 = 10 then (if t433.toList = t434.toList then (some false) else ((numnahlaw08_awake.f k).bind fun t439 => (some t439))) else (some false)) else ((numnahlaw08_awake.f k).bind fun t440 => (some t440))) else (if t436 = 10 then (if t433.toList = t434.toList then (some false) else ((numnahlaw08_awake.f k).bind fun t441 => (some t441))) else (some false))) else (some false))) = some r := by rw [if_pos rfl] at H; exact H
   clear H
   have H := H1
   clear H1
   replace H := Option.bind_eq_some_iff.mp H
   obtain ⟨t438, A100, H⟩ := H
   replace H : (if t438 = 0 then (if t436 = 0 then (if ((Op.bytesLess t433.toList t434.toList) = true) then (if t436 = 10 then (if t433.toList = t434.toList then (some false) else ((numnahlaw08_awake.f k).bind fun t439 => (some t439))) else (some false)) else ((numnahlaw08_awake.f k).bind fun t440 => (some t440))) else (if t436 = 10 then (if t433.toList = t434.toList then (some false) else ((numnahlaw08_awake.f k).bind fun t441 => (some t441))) else (some false))) else (some false)) = some r := H
   have A10 := Aside0.mk A100
   clear A100
   by_cases c11 : t438 = 0
   ·rw [if_pos c11] at H
    have c11b0 : (t438 == 0) = true := beq_iff_eq.mpr c11
    have c11b1 : (t438 != 0) = false := bne_eq_false_iff_eq.mpr c11
    clear c11
    by_cases c12 : t436 = 0
    ·rw [if_pos c12] at H
     have c12b0 : (t436 == 0) = true := beq_iff_eq.mpr c12
     have c12b1 : (t436 != 0) = false := bne_eq_false_iff_eq.mpr c12
     clear c12
     by_cases c13 : ((Op.bytesLess t433.toList t434.toList) = true)
     ·rw [if_pos c13] at H
      have c13b0 : (Op.bytesLess t433.toList t434.toList) = true := c13
      have c13l := less_no c13b0
      have c13l1 := c13l.1
      have c13l2 := c13l.2
      clear c13l
      clear c13
      by_cases c14 : t436 = 10
      ·rw [if_pos c14] at H
       have c14b0 : (t436 == 10) = true := beq_iff_eq.mpr c14
       have c14b1 : (t436 != 10) = false := bne_eq_false_iff_eq.mpr c14
       clear c14
       by_cases c15 : t433.toList = t434.toList
       ·rw [if_pos c15] at H
        exact absurd (H.trans (congrArg some HT0_.out)) (by simp)
       ·rw [if_neg c15] at H
        have c15b0 : (t433.toList == t434.toList) = false := beq_eq_false_iff_ne.mpr c15
        have c15b1 : (t433.toList != t434.toList) = true := bne_iff_ne.mpr c15
        replace H := Option.bind_eq_some_iff.mp H
        obtain ⟨t439, A210, H⟩ := H
        replace H : (some t439) = some r := H
        have A21 := Aside0.mk A210
        clear A210
        obtain rfl := Option.some.inj H
        go_enter Tryz.func7, Tryz.ntmps7
        go_wp2_with (first | ((with_reducible refine gate_callee (f := 41) rfl ?_); refine goesL_ (some 11) rfl rfl Tryz.func41 (by kernel_rfl) rfl #[.slice A0 l0.length c0] rfl tM_ ?_; (with_reducible refine (numnahlaw08_made.calls _ _ l0 t430 _ ?side1 ?side2 A3.out).mono ?_); (case side1 => repeat (first | exact HR0.out | (with_reducible refine Kd.C_alloc ?_ _) | (with_reducible refine Kd.C_drewN ?_ _) | (with_reducible refine Kd.C_drew ?_))); (case side2 => exact HC0.out); rintro e w22 ⟨v431, rfl, ho0, hb⟩; refine ⟨_, rfl, ?_⟩; have n0_ := Aside0.mk (Kd.R_lower ho0 (below_size (tB_ HB))); have n1_ := Aside0.mk (below_step (tB_ HB) hb); clear HB; have HO432 := n0_; have HB := n1_; clear n0_ n1_; (try clear hb); (try clear hb2); (try clear hk); (try clear hi); (try clear ho0)) | ((with_reducible refine gate_callee (f := 42) rfl ?_); refine goesL_ (some 13) rfl rfl Tryz.func42 (by kernel_rfl) rfl #[.int .i64 a1] rfl tM_ ?_; (with_reducible refine (numnahlaw08_order.calls k a1 t433 _ A4.out).mono ?_); rintro e w' ⟨rfl, ⟨nd, rfl⟩⟩; refine ⟨_, rfl, ?_⟩; obtain ⟨Ao23, co23, eo23⟩ := Kd.R_slice HO432.out; subst eo23) | ((with_reducible refine gate_callee (f := 36) rfl ?_); refine goesL_ (some 16) rfl rfl Tryz.func36 (by kernel_rfl) rfl #[.slice Ao23 t430.length co23] rfl tM_ ?_; (with_reducible refine (rules_Orient.calls _ _ t430 t434 t435 _ ?side1 ?side2 A5.out).mono ?_); (case side1 => repeat (first | exact (Kd.R_reads' HO432.out).2.2 | (with_reducible refine Kd.C_alloc ?_ _) | (with_reducible refine Kd.C_drewN ?_ _) | (with_reducible refine Kd.C_drew ?_))); (case side2 => exact (Kd.R_reads' HO432.out).2.1); rintro e w24 ⟨rfl, hb⟩; refine ⟨_, rfl, ?_⟩; have n0_ := Aside0.mk (Kd.R_below (tR_ HO432) hb); have n1_ := Aside0.mk (below_step (tB_ HB) hb); clear HO432; clear HB; have HO432 := n0_; have HB := n1_; clear n0_ n1_; (try clear hb); (try clear hb2); (try clear hk); (try clear hi)) | ((with_reducible refine gate_callee (f := 37) rfl ?_); refine goesL_ (some 21) rfl rfl Tryz.func37 (by kernel_rfl) rfl #[.slice Ao23 t430.length co23, .string t433] rfl tM_ ?_; (with_reducible refine (rules_Proves.calls _ _ t430 t433 t436 _ ?side1 ?side2 A6.out).mono ?_); (case side1 => repeat (first | exact (Kd.R_reads' HO432.out).2.2 | (with_reducible refine Kd.C_alloc ?_ _) | (with_reducible refine Kd.C_drewN ?_ _) | (with_reducible refine Kd.C_drew ?_))); (case side2 => exact (Kd.R_reads' HO432.out).2.1); rintro e w25 ⟨rfl, hb⟩; refine ⟨_, rfl, ?_⟩; have n0_ := Aside0.mk (Kd.R_below (tR_ HO432) hb); have n1_ := Aside0.mk (below_step (tB_ HB) hb); clear HO432; clear HB; have HO432 := n0_; have HB := n1_; clear n0_ n1_; (try clear hb); (try clear hb2); (try clear hk); (try clear hi)) | ((with_reducible refine gate_callee (f := 39) rfl ?_); refine goesL_ (some 34) rfl rfl Tryz.func39 (by kernel_rfl) rfl #[.string t434] rfl tM_ ?_; (with_reducible refine (numnahref08_Precedence.calls k t434 true _ A8.out).mono ?_); rintro e w' ⟨rfl, ⟨nd, rfl⟩⟩; refine ⟨_, rfl, ?_⟩) | (go_at_call 37; (with_reducible refine (rules_Proves.calls _ _ t430 t434 t438 _ ?side1 ?side2 A10.out).mono ?_); (case side1 => repeat (first | exact (Kd.R_reads' HO432.out).2.2 | (with_reducible refine Kd.C_alloc ?_ _) | (with_reducible refine Kd.C_drewN ?_ _) | (with_reducible refine Kd.C_drew ?_))); (case side2 => exact (Kd.R_reads' HO432.out).2.1); rintro e w26 ⟨rfl, hb⟩; have n0_ := Aside0.mk (Kd.R_below (tR_ HO432) hb); have n1_ := Aside0.mk (below_step (tB_ HB) hb); clear HO432; clear HB; have HO432 := n0_; have HB := n1_; clear n0_ n1_; (try clear hb); (try clear hb2); (try clear hk); (try clear hi)) | (go_at_call 24; (with_reducible refine (numnahlaw08_awake.calls k  t439 _ A21.out).mono ?_); rintro e w27 ⟨rfl, hb⟩; have n0_ := Aside0.mk (Kd.R_below (tR_ HO432) hb); have n1_ := Aside0.mk (below_step (tB_ HB) hb); clear HO432; clear HB; have HO432 := n0_; have HB := n1_; clear n0_ n1_; (try clear hb); (try clear hb2); (try clear hk); (try clear hi)))
        go_ret
        exact ⟨by first | rfl | (simp [errW_none, errW_some] <;> rfl) | (simp [*, errW_none, errW_some] <;> rfl), by repeat (first | (with_reducible first | exact HB.out | apply below_alloc | apply pw_below_drewN | apply below_drew1) | exact HB.out)⟩
      ·rw [if_neg c14] at H
       exact absurd (H.trans (congrArg some HT0_.out)) (by simp)
     ·rw [if_neg c13] at H
      have c13b0 : (Op.bytesLess t433.toList t434.toList) = false := by simpa using c13
      have c13l := less_or c13b0
      have c13l1 := c13l.1
      have c13l2 := c13l.2
      clear c13l
      clear c13
      replace H := Option.bind_eq_some_iff.mp H
      obtain ⟨t440, A330, H⟩ := H
      replace H : (some t440) = some r := H
      have A33 := Aside0.mk A330
      clear A330
      obtain rfl := Option.some.inj H
      go_enter Tryz.func7, Tryz.ntmps7
      go_wp2_with (first | ((with_reducible refine gate_callee (f := 41) rfl ?_); refine goesL_ (some 11) rfl rfl Tryz.func41 (by kernel_rfl) rfl #[.slice A0 l0.length c0] rfl tM_ ?_; (with_reducible refine (numnahlaw08_made.calls _ _ l0 t430 _ ?side1 ?side2 A3.out).mono ?_); (case side1 => repeat (first | exact HR0.out | (with_reducible refine Kd.C_alloc ?_ _) | (with_reducible refine Kd.C_drewN ?_ _) | (with_reducible refine Kd.C_drew ?_))); (case side2 => exact HC0.out); rintro e w34 ⟨v431, rfl, ho0, hb⟩; refine ⟨_, rfl, ?_⟩; have n0_ := Aside0.mk (Kd.R_lower ho0 (below_size (tB_ HB))); have n1_ := Aside0.mk (below_step (tB_ HB) hb); clear HB; have HO432 := n0_; have HB := n1_; clear n0_ n1_; (try clear hb); (try clear hb2); (try clear hk); (try clear hi); (try clear ho0)) | ((with_reducible refine gate_callee (f := 42) rfl ?_); refine goesL_ (some 13) rfl rfl Tryz.func42 (by kernel_rfl) rfl #[.int .i64 a1] rfl tM_ ?_; (with_reducible refine (numnahlaw08_order.calls k a1 t433 _ A4.out).mono ?_); rintro e w' ⟨rfl, ⟨nd, rfl⟩⟩; refine ⟨_, rfl, ?_⟩; obtain ⟨Ao35, co35, eo35⟩ := Kd.R_slice HO432.out; subst eo35) | ((with_reducible refine gate_callee (f := 36) rfl ?_); refine goesL_ (some 16) rfl rfl Tryz.func36 (by kernel_rfl) rfl #[.slice Ao35 t430.length co35] rfl tM_ ?_; (with_reducible refine (rules_Orient.calls _ _ t430 t434 t435 _ ?side1 ?side2 A5.out).mono ?_); (case side1 => repeat (first | exact (Kd.R_reads' HO432.out).2.2 | (with_reducible refine Kd.C_alloc ?_ _) | (with_reducible refine Kd.C_drewN ?_ _) | (with_reducible refine Kd.C_drew ?_))); (case side2 => exact (Kd.R_reads' HO432.out).2.1); rintro e w36 ⟨rfl, hb⟩; refine ⟨_, rfl, ?_⟩; have n0_ := Aside0.mk (Kd.R_below (tR_ HO432) hb); have n1_ := Aside0.mk (below_step (tB_ HB) hb); clear HO432; clear HB; have HO432 := n0_; have HB := n1_; clear n0_ n1_; (try clear hb); (try clear hb2); (try clear hk); (try clear hi)) | ((with_reducible refine gate_callee (f := 37) rfl ?_); refine goesL_ (some 21) rfl rfl Tryz.func37 (by kernel_rfl) rfl #[.slice Ao35 t430.length co35, .string t433] rfl tM_ ?_; (with_reducible refine (rules_Proves.calls _ _ t430 t433 t436 _ ?side1 ?side2 A6.out).mono ?_); (case side1 => repeat (first | exact (Kd.R_reads' HO432.out).2.2 | (with_reducible refine Kd.C_alloc ?_ _) | (with_reducible refine Kd.C_drewN ?_ _) | (with_reducible refine Kd.C_drew ?_))); (case side2 => exact (Kd.R_reads' HO432.out).2.1); rintro e w37 ⟨rfl, hb⟩; refine ⟨_, rfl, ?_⟩; have n0_ := Aside0.mk (Kd.R_below (tR_ HO432) hb); have n1_ := Aside0.mk (below_step (tB_ HB) hb); clear HO432; clear HB; have HO432 := n0_; have HB := n1_; clear n0_ n1_; (try clear hb); (try clear hb2); (try clear hk); (try clear hi)) | ((with_reducible refine gate_callee (f := 39) rfl ?_); refine goesL_ (some 34) rfl rfl Tryz.func39 (by kernel_rfl) rfl #[.string t434] rfl tM_ ?_; (with_reducible refine (numnahref08_Precedence.calls k t434 true _ A8.out).mono ?_); rintro e w' ⟨rfl, ⟨nd, rfl⟩⟩; refine ⟨_, rfl, ?_⟩) | (go_at_call 37; (with_reducible refine (rules_Proves.calls _ _ t430 t434 t438 _ ?side1 ?side2 A10.out).mono ?_); (case side1 => repeat (first | exact (Kd.R_reads' HO432.out).2.2 | (with_reducible refine Kd.C_alloc ?_ _) | (with_reducible refine Kd.C_drewN ?_ _) | (with_reducible refine Kd.C_drew ?_))); (case side2 => exact (Kd.R_reads' HO432.out).2.1); rintro e w38 ⟨rfl, hb⟩; have n0_ := Aside0.mk (Kd.R_below (tR_ HO432) hb); have n1_ := Aside0.mk (below_step (tB_ HB) hb); clear HO432; clear HB; have HO432 := n0_; have HB := n1_; clear n0_ n1_; (try clear hb); (try clear hb2); (try clear hk); (try clear hi)) | (go_at_call 24; (with_reducible refine (numnahlaw08_awake.calls k  t440 _ A33.out).mono ?_); rintro e w39 ⟨rfl, hb⟩; have n0_ := Aside0.mk (Kd.R_below (tR_ HO432) hb); have n1_ := Aside0.mk (below_step (tB_ HB) hb); clear HO432; clear HB; have HO432 := n0_; have HB := n1_; clear n0_ n1_; (try clear hb); (try clear hb2); (try clear hk); (try clear hi)))
      go_ret
      exact ⟨by first | rfl | (simp [errW_none, errW_some] <;> rfl) | (simp [*, errW_none, errW_some] <;> rfl), by repeat (first | (with_reducible first | exact HB.out | apply below_alloc | apply pw_below_drewN | apply below_drew1) | exact HB.out)⟩
    ·rw [if_neg c12] at H
     have c12b0 : (t436 == 0) = false := beq_eq_false_iff_ne.mpr c12
     have c12b1 : (t436 != 0) = true := bne_iff_ne.mpr c12
     by_cases c40 : t436 = 10
     ·rw [if_pos c40] at H
      have c40b0 : (t436 == 10) = true := beq_iff_eq.mpr c40
      have c40b1 : (t436 != 10) = false := bne_eq_false_iff_eq.mpr c40
      clear c40
      by_cases c41 : t433.toList = t434.toList
      ·rw [if_pos c41] at H
       exact absurd (H.trans (congrArg some HT0_.out)) (by simp)
      ·rw [if_neg c41] at H
       have c41b0 : (t433.toList == t434.toList) = false := beq_eq_false_iff_ne.mpr c41
       have c41b1 : (t433.toList != t434.toList) = true := bne_iff_ne.mpr c41
       replace H := Option.bind_eq_some_iff.mp H
       obtain ⟨t441, A470, H⟩ := H
       replace H : (some t441) = some r := H
       have A47 := Aside0.mk A470
       clear A470
       obtain rfl := Option.some.inj H
       go_enter Tryz.func7, Tryz.ntmps7
       go_wp2_with (first | ((with_reducible refine gate_callee (f := 41) rfl ?_); refine goesL_ (some 11) rfl rfl Tryz.func41 (by kernel_rfl) rfl #[.slice A0 l0.length c0] rfl tM_ ?_; (with_reducible refine (numnahlaw08_made.calls _ _ l0 t430 _ ?side1 ?side2 A3.out).mono ?_); (case side1 => repeat (first | exact HR0.out | (with_reducible refine Kd.C_alloc ?_ _) | (with_reducible refine Kd.C_drewN ?_ _) | (with_reducible refine Kd.C_drew ?_))); (case side2 => exact HC0.out); rintro e w48 ⟨v431, rfl, ho0, hb⟩; refine ⟨_, rfl, ?_⟩; have n0_ := Aside0.mk (Kd.R_lower ho0 (below_size (tB_ HB))); have n1_ := Aside0.mk (below_step (tB_ HB) hb); clear HB; have HO432 := n0_; have HB := n1_; clear n0_ n1_; (try clear hb); (try clear hb2); (try clear hk); (try clear hi); (try clear ho0)) | ((with_reducible refine gate_callee (f := 42) rfl ?_); refine goesL_ (some 13) rfl rfl Tryz.func42 (by kernel_rfl) rfl #[.int .i64 a1] rfl tM_ ?_; (with_reducible refine (numnahlaw08_order.calls k a1 t433 _ A4.out).mono ?_); rintro e w' ⟨rfl, ⟨nd, rfl⟩⟩; refine ⟨_, rfl, ?_⟩; obtain ⟨Ao49, co49, eo49⟩ := Kd.R_slice HO432.out; subst eo49) | ((with_reducible refine gate_callee (f := 36) rfl ?_); refine goesL_ (some 16) rfl rfl Tryz.func36 (by kernel_rfl) rfl #[.slice Ao49 t430.length co49] rfl tM_ ?_; (with_reducible refine (rules_Orient.calls _ _ t430 t434 t435 _ ?side1 ?side2 A5.out).mono ?_); (case side1 => repeat (first | exact (Kd.R_reads' HO432.out).2.2 | (with_reducible refine Kd.C_alloc ?_ _) | (with_reducible refine Kd.C_drewN ?_ _) | (with_reducible refine Kd.C_drew ?_))); (case side2 => exact (Kd.R_reads' HO432.out).2.1); rintro e w50 ⟨rfl, hb⟩; refine ⟨_, rfl, ?_⟩; have n0_ := Aside0.mk (Kd.R_below (tR_ HO432) hb); have n1_ := Aside0.mk (below_step (tB_ HB) hb); clear HO432; clear HB; have HO432 := n0_; have HB := n1_; clear n0_ n1_; (try clear hb); (try clear hb2); (try clear hk); (try clear hi)) | ((with_reducible refine gate_callee (f := 37) rfl ?_); refine goesL_ (some 21) rfl rfl Tryz.func37 (by kernel_rfl) rfl #[.slice Ao49 t430.length co49, .string t433] rfl tM_ ?_; (with_reducible refine (rules_Proves.calls _ _ t430 t433 t436 _ ?side1 ?side2 A6.out).mono ?_); (case side1 => repeat (first | exact (Kd.R_reads' HO432.out).2.2 | (with_reducible refine Kd.C_alloc ?_ _) | (with_reducible refine Kd.C_drewN ?_ _) | (with_reducible refine Kd.C_drew ?_))); (case side2 => exact (Kd.R_reads' HO432.out).2.1); rintro e w51 ⟨rfl, hb⟩; refine ⟨_, rfl, ?_⟩; have n0_ := Aside0.mk (Kd.R_below (tR_ HO432) hb); have n1_ := Aside0.mk (below_step (tB_ HB) hb); clear HO432; clear HB; have HO432 := n0_; have HB := n1_; clear n0_ n1_; (try clear hb); (try clear hb2); (try clear hk); (try clear hi)) | ((with_reducible refine gate_callee (f := 39) rfl ?_); refine goesL_ (some 34) rfl rfl Tryz.func39 (by kernel_rfl) rfl #[.string t434] rfl tM_ ?_; (with_reducible refine (numnahref08_Precedence.calls k t434 true _ A8.out).mono ?_); rintro e w' ⟨rfl, ⟨nd, rfl⟩⟩; refine ⟨_, rfl, ?_⟩) | (go_at_call 37; (with_reducible refine (rules_Proves.calls _ _ t430 t434 t438 _ ?side1 ?side2 A10.out).mono ?_); (case side1 => repeat (first | exact (Kd.R_reads' HO432.out).2.2 | (with_reducible refine Kd.C_alloc ?_ _) | (with_reducible refine Kd.C_drewN ?_ _) | (with_reducible refine Kd.C_drew ?_))); (case side2 => exact (Kd.R_reads' HO432.out).2.1); rintro e w52 ⟨rfl, hb⟩; have n0_ := Aside0.mk (Kd.R_below (tR_ HO432) hb); have n1_ := Aside0.mk (below_step (tB_ HB) hb); clear HO432; clear HB; have HO432 := n0_; have HB := n1_; clear n0_ n1_; (try clear hb); (try clear hb2); (try clear hk); (try clear hi)) | (go_at_call 24; (with_reducible refine (numnahlaw08_awake.calls k  t441 _ A47.out).mono ?_); rintro e w53 ⟨rfl, hb⟩; have n0_ := Aside0.mk (Kd.R_below (tR_ HO432) hb); have n1_ := Aside0.mk (below_step (tB_ HB) hb); clear HO432; clear HB; have HO432 := n0_; have HB := n1_; clear n0_ n1_; (try clear hb); (try clear hb2); (try clear hk); (try clear hi)))
       go_ret
       exact ⟨by first | rfl | (simp [errW_none, errW_some] <;> rfl) | (simp [*, errW_none, errW_some] <;> rfl), by repeat (first | (with_reducible first | exact HB.out | apply below_alloc | apply pw_below_drewN | apply below_drew1) | exact HB.out)⟩
     ·rw [if_neg c40] at H
      exact absurd (H.trans (congrArg some HT0_.out)) (by simp)
   ·rw [if_neg c11] at H
    exact absurd (H.trans (congrArg some HT0_.out)) (by simp)
  ·replace c9 := Bool.eq_false_iff.mpr c9
   subst c9
   have H1 : (some false) = some r := by rw [if_neg (show ¬ (false = true) by decide)] at H; exact H
   exact absurd (H1.trans (congrArg some HT0_.out)) (by simp)
 ·rw [if_neg c7] at H
  have c7b0 : (t435 == 0) = false := beq_eq_false_iff_ne.mpr c7
  have c7b1 : (t435 != 0) = true := bne_iff_ne.mpr c7
  by_cases c68 : t435 = 6
  ·rw [if_pos c68] at H
   have c68b0 : (t435 == 6) = true := beq_iff_eq.mpr c68
   have c68b1 : (t435 != 6) = false := bne_eq_false_iff_eq.mpr c68
   clear c68
   by_cases c69 : t436 = 10
   ·rw [if_pos c69] at H
    have c69b0 : (t436 == 10) = true := beq_iff_eq.mpr c69
    have c69b1 : (t436 != 10) = false := bne_eq_false_iff_eq.mpr c69
    clear c69
    replace H := Option.bind_eq_some_iff.mp H
    obtain ⟨t442, A700, H⟩ := H
    replace H : (some t442) = some r := H
    have A70 := Aside0.mk A700
    clear A700
    obtain rfl := Option.some.inj H
    go_enter Tryz.func7, Tryz.ntmps7
    go_wp2_with (first | ((with_reducible refine gate_callee (f := 41) rfl ?_); refine goesL_ (some 11) rfl rfl Tryz.func41 (by kernel_rfl) rfl #[.slice A0 l0.length c0] rfl tM_ ?_; (with_reducible refine (numnahlaw08_made.calls _ _ l0 t430 _ ?side1 ?side2 A3.out).mono ?_); (case side1 => repeat (first | exact HR0.out | (with_reducible refine Kd.C_alloc ?_ _) | (with_reducible refine Kd.C_drewN ?_ _) | (with_reducible refine Kd.C_drew ?_))); (case side2 => exact HC0.out); rintro e w71 ⟨v431, rfl, ho0, hb⟩; refine ⟨_, rfl, ?_⟩; have n0_ := Aside0.mk (Kd.R_lower ho0 (below_size (tB_ HB))); have n1_ := Aside0.mk (below_step (tB_ HB) hb); clear HB; have HO432 := n0_; have HB := n1_; clear n0_ n1_; (try clear hb); (try clear hb2); (try clear hk); (try clear hi); (try clear ho0)) | ((with_reducible refine gate_callee (f := 42) rfl ?_); refine goesL_ (some 13) rfl rfl Tryz.func42 (by kernel_rfl) rfl #[.int .i64 a1] rfl tM_ ?_; (with_reducible refine (numnahlaw08_order.calls k a1 t433 _ A4.out).mono ?_); rintro e w' ⟨rfl, ⟨nd, rfl⟩⟩; refine ⟨_, rfl, ?_⟩; obtain ⟨Ao72, co72, eo72⟩ := Kd.R_slice HO432.out; subst eo72) | ((with_reducible refine gate_callee (f := 36) rfl ?_); refine goesL_ (some 16) rfl rfl Tryz.func36 (by kernel_rfl) rfl #[.slice Ao72 t430.length co72] rfl tM_ ?_; (with_reducible refine (rules_Orient.calls _ _ t430 t434 t435 _ ?side1 ?side2 A5.out).mono ?_); (case side1 => repeat (first | exact (Kd.R_reads' HO432.out).2.2 | (with_reducible refine Kd.C_alloc ?_ _) | (with_reducible refine Kd.C_drewN ?_ _) | (with_reducible refine Kd.C_drew ?_))); (case side2 => exact (Kd.R_reads' HO432.out).2.1); rintro e w73 ⟨rfl, hb⟩; refine ⟨_, rfl, ?_⟩; have n0_ := Aside0.mk (Kd.R_below (tR_ HO432) hb); have n1_ := Aside0.mk (below_step (tB_ HB) hb); clear HO432; clear HB; have HO432 := n0_; have HB := n1_; clear n0_ n1_; (try clear hb); (try clear hb2); (try clear hk); (try clear hi)) | ((with_reducible refine gate_callee (f := 37) rfl ?_); refine goesL_ (some 21) rfl rfl Tryz.func37 (by kernel_rfl) rfl #[.slice Ao72 t430.length co72, .string t433] rfl tM_ ?_; (with_reducible refine (rules_Proves.calls _ _ t430 t433 t436 _ ?side1 ?side2 A6.out).mono ?_); (case side1 => repeat (first | exact (Kd.R_reads' HO432.out).2.2 | (with_reducible refine Kd.C_alloc ?_ _) | (with_reducible refine Kd.C_drewN ?_ _) | (with_reducible refine Kd.C_drew ?_))); (case side2 => exact (Kd.R_reads' HO432.out).2.1); rintro e w74 ⟨rfl, hb⟩; refine ⟨_, rfl, ?_⟩; have n0_ := Aside0.mk (Kd.R_below (tR_ HO432) hb); have n1_ := Aside0.mk (below_step (tB_ HB) hb); clear HO432; clear HB; have HO432 := n0_; have HB := n1_; clear n0_ n1_; (try clear hb); (try clear hb2); (try clear hk); (try clear hi)) | (go_at_call 24; (with_reducible refine (numnahlaw08_awake.calls k  t442 _ A70.out).mono ?_); rintro e w75 ⟨rfl, hb⟩; have n0_ := Aside0.mk (Kd.R_below (tR_ HO432) hb); have n1_ := Aside0.mk (below_step (tB_ HB) hb); clear HO432; clear HB; have HO432 := n0_; have HB := n1_; clear n0_ n1_; (try clear hb); (try clear hb2); (try clear hk); (try clear hi)))
    go_ret
    exact ⟨by first | rfl | (simp [errW_none, errW_some] <;> rfl) | (simp [*, errW_none, errW_some] <;> rfl), by repeat (first | (with_reducible first | exact HB.out | apply below_alloc | apply pw_below_drewN | apply below_drew1) | exact HB.out)⟩
   ·rw [if_neg c69] at H
    exact absurd (H.trans (congrArg some HT0_.out)) (by simp)
  ·rw [if_neg c68] at H
   exact absurd (H.trans (congrArg some HT0_.out)) (by simp)
end Go.Proofs.YtaafeallcaiooaaGreat.Pr
-- indented by one
