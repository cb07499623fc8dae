-- Laid by wip/tools/inj.py of this project, which drives the kit's printer. Lean checks it.
import Derived.Test.YtaafeallcaiooaaGreatPr0
import Derived.Test.YtaafeallcaiooaaGreatHEm
import Derived.Test.YtaafeallcaiooaaGreatHEs
import Derived.Test.YtaafeallcaiooaaGreatHRm
import Derived.Test.YtaafeallcaiooaaGreatPrA2
import Derived.Test.YtaafeallcaiooaaGreatPrA3
import Derived.Test.YtaafeallcaiooaaGreatPrB1
import Derived.Test.YtaafeallcaiooaaGreatPrEq2
namespace Go.Proofs.YtaafeallcaiooaaGreat.Pr
open Go.RowKit Go.Proofs.YtaafeallcaiooaaGreatW.PrintWords Go.Proofs.YtaafeallcaiooaaGreatW.PrintLast Go.Proofs.YtaafeallcaiooaaGreatW.PrintMore
attribute [local go_sem] max2_int min2_int max_two min_two max_three min_three max_four min_four   -- for this text's walks alone
set_option linter.unusedVariables false
set_option linter.unusedSimpArgs false

attribute [local go_sem high] eqA61
/-! ### numnahlaw08_RulesTerms: function 11 -/
mutual
noncomputable def numnahlaw08_RulesTerms.j0 : Nat → ByteArray → ByteArray → Int → Bool → ByteArray → ByteArray → ByteArray → Option (Bool)
  | 0, _, _, _, _, _, _, _ => none
  | k + 1, x5, x6, x10, x52, x500000, x500001, x500002 => if x52 = true then (some false) else ((numnahref08_Term.f k x5).bind fun t505 => (if t505 = true then ((numnahref08_Term.f k x6).bind fun t506 => (numnahlaw08_RulesTerms.j1 k x5 x6 x10 (!t506) x500000 x500001 x500002)) else (numnahlaw08_RulesTerms.j1 k x5 x6 x10 true x500000 x500001 x500002)))
noncomputable def numnahlaw08_RulesTerms.j1 : Nat → ByteArray → ByteArray → Int → Bool → ByteArray → ByteArray → ByteArray → Option (Bool)
  | 0, _, _, _, _, _, _, _ => none
  | k + 1, x5, x6, x10, x60, x500000, x500001, x500002 => if x60 = true then (if (x500000.toList == ([] : List UInt8) && (x500001.toList == ([] : List UInt8) && (x500002.toList == ([] : List UInt8)))) = true then (if x10 = 4 then ((numnahlaw08_awake.f k).bind fun t507 => (some t507)) else (some false)) else (some false)) else ((numnahref08_Match.f x5 x6).bind fun bt508 => (if bt508.2.2.2 = true then (if (x500000.toList == bt508.1.toList && (x500001.toList == bt508.2.1.toList && (x500002.toList == bt508.2.2.1.toList))) = true then (if x10 = 0 then ((numnahlaw08_awake.f k).bind fun t513 => (some t513)) else (some false)) else (some false)) else (if (x500000.toList == ([] : List UInt8) && (x500001.toList == ([] : List UInt8) && (x500002.toList == ([] : List UInt8)))) = true then (if x10 = 6 then ((numnahlaw08_awake.f k).bind fun t514 => (some t514)) else (some false)) else (some false))))
end
noncomputable def numnahlaw08_RulesTerms.f (k : Nat) (a0 : ByteArray) (a1 : ByteArray) : Option (Bool) := (numnahlaw08_short.f a0).bind fun t491 => ((numnahlaw08_short.f a1).bind fun t492 => ((rules_Size.f t492).bind fun bt493 => ((rules_Match.f t491 t492).bind fun bt495 => ((numnahref08_Term.f k t492).bind fun t500 => (if t500 = true then ((numnahref08_Term.f k t492).bind fun t501 => (if t501 = true then ((numnahref08_Size.f k t492).bind fun t502 => (if bt493.1 = t502 then (numnahlaw08_RulesTerms.j0 k t491 t492 bt495.2.2.2 (bt493.2 != 0) bt495.1 bt495.2.1 bt495.2.2.1) else (numnahlaw08_RulesTerms.j0 k t491 t492 bt495.2.2.2 true bt495.1 bt495.2.1 bt495.2.2.1))) else (numnahlaw08_RulesTerms.j0 k t491 t492 bt495.2.2.2 false bt495.1 bt495.2.1 bt495.2.2.1))) else (if bt493.1 = 0 then (if bt493.2 = 4 then ((numnahref08_Term.f k t492).bind fun t503 => (if t503 = true then ((numnahref08_Size.f k t492).bind fun t504 => (if bt493.1 = t504 then (numnahlaw08_RulesTerms.j0 k t491 t492 bt495.2.2.2 (bt493.2 != 0) bt495.1 bt495.2.1 bt495.2.2.1) else (numnahlaw08_RulesTerms.j0 k t491 t492 bt495.2.2.2 true bt495.1 bt495.2.1 bt495.2.2.1))) else (numnahlaw08_RulesTerms.j0 k t491 t492 bt495.2.2.2 false bt495.1 bt495.2.1 bt495.2.2.1))) else (numnahlaw08_RulesTerms.j0 k t491 t492 bt495.2.2.2 true bt495.1 bt495.2.1 bt495.2.2.1)) else (numnahlaw08_RulesTerms.j0 k t491 t492 bt495.2.2.2 true bt495.1 bt495.2.1 bt495.2.2.1)))))))
theorem numnahlaw08_RulesTerms.mono_l : ∀ k, (∀ y0 y1 y2 y3 y4 y5 y6, LeO (numnahlaw08_RulesTerms.j0 k y0 y1 y2 y3 y4 y5 y6) (numnahlaw08_RulesTerms.j0 (k + 1) y0 y1 y2 y3 y4 y5 y6)) ∧ (∀ y0 y1 y2 y3 y4 y5 y6, LeO (numnahlaw08_RulesTerms.j1 k y0 y1 y2 y3 y4 y5 y6) (numnahlaw08_RulesTerms.j1 (k + 1) y0 y1 y2 y3 y4 y5 y6))
  | 0 => ⟨fun _ _ _ _ _ _ _ r h => by simp [numnahlaw08_RulesTerms.j0] at h, fun _ _ _ _ _ _ _ r h => by simp [numnahlaw08_RulesTerms.j1] at h⟩
  | k + 1 => by
    obtain ⟨ih0, ih1⟩ := numnahlaw08_RulesTerms.mono_l k
    refine ⟨?_, ?_⟩
    · intro y0 y1 y2 y3 y4 y5 y6
      unfold numnahlaw08_RulesTerms.j0
      repeat' first
      | (with_reducible exact ih0 _ _ _ _ _ _ _)
      | (with_reducible exact ih1 _ _ _ _ _ _ _)
      | (with_reducible exact numnahlaw08_awake.mono _)
      | (with_reducible exact numnahref08_Size.mono _ _)
      | (with_reducible exact numnahref08_Term.mono _ _)
      | (with_reducible exact LeO.refl _)
      | (with_reducible exact LeO.none _)
      | (with_reducible refine LeO.ite ?_ ?_)
      | (with_reducible refine LeO.bind ?_ (fun _ => ?_))
      | exact ih0 _ _ _ _ _ _ _
      | exact ih1 _ _ _ _ _ _ _
      | exact numnahlaw08_awake.mono _
      | exact numnahref08_Size.mono _ _
      | exact numnahref08_Term.mono _ _
      | exact LeO.none _
      | refine LeO.ite ?_ ?_
      | refine LeO.bind ?_ (fun _ => ?_)
    · intro y0 y1 y2 y3 y4 y5 y6
      unfold numnahlaw08_RulesTerms.j1
      repeat' first
      | (with_reducible exact ih0 _ _ _ _ _ _ _)
      | (with_reducible exact ih1 _ _ _ _ _ _ _)
      | (with_reducible exact numnahlaw08_awake.mono _)
      | (with_reducible exact numnahref08_Size.mono _ _)
      | (with_reducible exact numnahref08_Term.mono _ _)
      | (with_reducible exact LeO.refl _)
      | (with_reducible exact LeO.none _)
      | (with_reducible refine LeO.ite ?_ ?_)
      | (with_reducible refine LeO.bind ?_ (fun _ => ?_))
      | exact ih0 _ _ _ _ _ _ _
      | exact ih1 _ _ _ _ _ _ _
      | exact numnahlaw08_awake.mono _
      | exact numnahref08_Size.mono _ _
      | exact numnahref08_Term.mono _ _
      | exact LeO.none _
      | refine LeO.ite ?_ ?_
      | refine LeO.bind ?_ (fun _ => ?_)
theorem numnahlaw08_RulesTerms.mono : ∀ a0 a1 k, LeO (numnahlaw08_RulesTerms.f k a0 a1) (numnahlaw08_RulesTerms.f (k + 1) a0 a1) := by
  intro a0 a1 k
  obtain ⟨ih0, ih1⟩ := numnahlaw08_RulesTerms.mono_l k
  unfold numnahlaw08_RulesTerms.f
  repeat' first
      | (with_reducible exact ih0 _ _ _ _ _ _ _)
      | (with_reducible exact ih1 _ _ _ _ _ _ _)
      | (with_reducible exact numnahlaw08_awake.mono _)
      | (with_reducible exact numnahref08_Size.mono _ _)
      | (with_reducible exact numnahref08_Term.mono _ _)
      | (with_reducible exact LeO.refl _)
      | (with_reducible exact LeO.none _)
      | (with_reducible refine LeO.ite ?_ ?_)
      | (with_reducible refine LeO.bind ?_ (fun _ => ?_))
      | exact ih0 _ _ _ _ _ _ _
      | exact ih1 _ _ _ _ _ _ _
      | exact numnahlaw08_awake.mono _
      | exact numnahref08_Size.mono _ _
      | exact numnahref08_Term.mono _ _
      | exact LeO.none _
      | refine LeO.ite ?_ ?_
      | refine LeO.bind ?_ (fun _ => ?_)
set_option maxHeartbeats 8000000 in
set_option maxRecDepth 100000 in
theorem numnahlaw08_RulesTerms.calls (k : Nat) (a0 : ByteArray) (a1 : ByteArray) (r : Bool) (w : World) (h : numnahlaw08_RulesTerms.f k a0 a1 = some r) :
    Calls Tryz.prog 11 #[.string a0, .string a1] w fun e w' => e = .returned (.bool r) ∧ Below w.heap.size w w' := by
  have hu61 := Tryz.underlying61
  have HB := Aside0.mk (Below.refl w.heap.size w)
  have H : ((numnahlaw08_short.f a0).bind fun t491 => ((numnahlaw08_short.f a1).bind fun t492 => ((rules_Size.f t492).bind fun bt493 => ((rules_Match.f t491 t492).bind fun bt495 => ((numnahref08_Term.f k t492).bind fun t500 => (if t500 = true then ((numnahref08_Term.f k t492).bind fun t501 => (if t501 = true then ((numnahref08_Size.f k t492).bind fun t502 => (if bt493.1 = t502 then (numnahlaw08_RulesTerms.j0 k t491 t492 bt495.2.2.2 (bt493.2 != 0) bt495.1 bt495.2.1 bt495.2.2.1) else (numnahlaw08_RulesTerms.j0 k t491 t492 bt495.2.2.2 true bt495.1 bt495.2.1 bt495.2.2.1))) else (numnahlaw08_RulesTerms.j0 k t491 t492 bt495.2.2.2 false bt495.1 bt495.2.1 bt495.2.2.1))) else (if bt493.1 = 0 then (if bt493.2 = 4 then ((numnahref08_Term.f k t492).bind fun t503 => (if t503 = true then ((numnahref08_Size.f k t492).bind fun t504 => (if bt493.1 = t504 then (numnahlaw08_RulesTerms.j0 k t491 t492 bt495.2.2.2 (bt493.2 != 0) bt495.1 bt495.2.1 bt495.2.2.1) else (numnahlaw08_RulesTerms.j0 k t491 t492 bt495.2.2.2 true bt495.1 bt495.2.1 bt495.2.2.1))) else (numnahlaw08_RulesTerms.j0 k t491 t492 bt495.2.2.2 false bt495.1 bt495.2.1 bt495.2.2.1))) else (numnahlaw08_RulesTerms.j0 k t491 t492 bt495.2.2.2 true bt495.1 bt495.2.1 bt495.2.2.1)) else (numnahlaw08_RulesTerms.j0 k t491 t492 bt495.2.2.2 true bt495.1 bt495.2.1 bt495.2.2.1)))))))) = some r := h
  clear h
  replace H := Option.bind_eq_some_iff.mp H
  obtain ⟨t491, A30, H⟩ := H
  replace H : ((numnahlaw08_short.f a1).bind fun t492 => ((rules_Size.f t492).bind fun bt493 => ((rules_Match.f t491 t492).bind fun bt495 => ((numnahref08_Term.f k t492).bind fun t500 => (if t500 = true then ((numnahref08_Term.f k t492).bind fun t501 => (if t501 = true then ((numnahref08_Size.f k t492).bind fun t502 => (if bt493.1 = t502 then (numnahlaw08_RulesTerms.j0 k t491 t492 bt495.2.2.2 (bt493.2 != 0) bt495.1 bt495.2.1 bt495.2.2.1) else (numnahlaw08_RulesTerms.j0 k t491 t492 bt495.2.2.2 true bt495.1 bt495.2.1 bt495.2.2.1))) else (numnahlaw08_RulesTerms.j0 k t491 t492 bt495.2.2.2 false bt495.1 bt495.2.1 bt495.2.2.1))) else (if bt493.1 = 0 then (if bt493.2 = 4 then ((numnahref08_Term.f k t492).bind fun t503 => (if t503 = true then ((numnahref08_Size.f k t492).bind fun t504 => (if bt493.1 = t504 then (numnahlaw08_RulesTerms.j0 k t491 t492 bt495.2.2.2 (bt493.2 != 0) bt495.1 bt495.2.1 bt495.2.2.1) else (numnahlaw08_RulesTerms.j0 k t491 t492 bt495.2.2.2 true bt495.1 bt495.2.1 bt495.2.2.1))) else (numnahlaw08_RulesTerms.j0 k t491 t492 bt495.2.2.2 false bt495.1 bt495.2.1 bt495.2.2.1))) else (numnahlaw08_RulesTerms.j0 k t491 t492 bt495.2.2.2 true bt495.1 bt495.2.1 bt495.2.2.1)) else (numnahlaw08_RulesTerms.j0 k t491 t492 bt495.2.2.2 true bt495.1 bt495.2.1 bt495.2.2.1))))))) = some r := H
  have A3 := Aside0.mk A30
  clear A30
  replace H := Option.bind_eq_some_iff.mp H
  obtain ⟨t492, A40, H⟩ := H
  replace H : ((rules_Size.f t492).bind fun bt493 => ((rules_Match.f t491 t492).bind fun bt495 => ((numnahref08_Term.f k t492).bind fun t500 => (if t500 = true then ((numnahref08_Term.f k t492).bind fun t501 => (if t501 = true then ((numnahref08_Size.f k t492).bind fun t502 => (if bt493.1 = t502 then (numnahlaw08_RulesTerms.j0 k t491 t492 bt495.2.2.2 (bt493.2 != 0) bt495.1 bt495.2.1 bt495.2.2.1) else (numnahlaw08_RulesTerms.j0 k t491 t492 bt495.2.2.2 true bt495.1 bt495.2.1 bt495.2.2.1))) else (numnahlaw08_RulesTerms.j0 k t491 t492 bt495.2.2.2 false bt495.1 bt495.2.1 bt495.2.2.1))) else (if bt493.1 = 0 then (if bt493.2 = 4 then ((numnahref08_Term.f k t492).bind fun t503 => (if t503 = true then ((numnahref08_Size.f k t492).bind fun t504 => (if bt493.1 = t504 then (numnahlaw08_RulesTerms.j0 k t491 t492 bt495.2.2.2 (bt493.2 != 0) bt495.1 bt495.2.1 bt495.2.2.1) else (numnahlaw08_RulesTerms.j0 k t491 t492 bt495.2.2.2 true bt495.1 bt495.2.1 bt495.2.2.1))) else (numnahlaw08_RulesTerms.j0 k t491 t492 bt495.2.2.2 false bt495.1 bt495.2.1 bt495.2.2.1))) else (numnahlaw08_RulesTerms.j0 k t491 t492 bt495.2.2.2 true bt495.1 bt495.2.1 bt495.2.2.1)) else (numnahlaw08_RulesTerms.j0 k t491 t492 bt495.2.2.2 true bt495.1 bt495.2.1 bt495.2.2.1)))))) = some r := H
  have A4 := Aside0.mk A40
  clear A40
  replace H := Option.bind_eq_some_iff.mp H
  obtain ⟨⟨t493, t494⟩, A50, H⟩ := H
  replace H : ((rules_Match.f t491 t492).bind fun bt495 => ((numnahref08_Term.f k t492).bind fun t500 => (if t500 = true then ((numnahref08_Term.f k t492).bind fun t501 => (if t501 = true then ((numnahref08_Size.f k t492).bind fun t502 => (if t493 = t502 then (numnahlaw08_RulesTerms.j0 k t491 t492 bt495.2.2.2 (t494 != 0) bt495.1 bt495.2.1 bt495.2.2.1) else (numnahlaw08_RulesTerms.j0 k t491 t492 bt495.2.2.2 true bt495.1 bt495.2.1 bt495.2.2.1))) else (numnahlaw08_RulesTerms.j0 k t491 t492 bt495.2.2.2 false bt495.1 bt495.2.1 bt495.2.2.1))) else (if t493 = 0 then (if t494 = 4 then ((numnahref08_Term.f k t492).bind fun t503 => (if t503 = true then ((numnahref08_Size.f k t492).bind fun t504 => (if t493 = t504 then (numnahlaw08_RulesTerms.j0 k t491 t492 bt495.2.2.2 (t494 != 0) bt495.1 bt495.2.1 bt495.2.2.1) else (numnahlaw08_RulesTerms.j0 k t491 t492 bt495.2.2.2 true bt495.1 bt495.2.1 bt495.2.2.1))) else (numnahlaw08_RulesTerms.j0 k t491 t492 bt495.2.2.2 false bt495.1 bt495.2.1 bt495.2.2.1))) else (numnahlaw08_RulesTerms.j0 k t491 t492 bt495.2.2.2 true bt495.1 bt495.2.1 bt495.2.2.1)) else (numnahlaw08_RulesTerms.j0 k t491 t492 bt495.2.2.2 true bt495.1 bt495.2.1 bt495.2.2.1))))) = some r := H
  have A5 := Aside0.mk A50
  clear A50
  replace H := Option.bind_eq_some_iff.mp H
  obtain ⟨⟨t495, t496, t497, t498⟩, A60, H⟩ := H
  replace H : ((numnahref08_Term.f k t492).bind fun t500 => (if t500 = true then ((numnahref08_Term.f k t492).bind fun t501 => (if t501 = true then ((numnahref08_Size.f k t492).bind fun t502 => (if t493 = t502 then (numnahlaw08_RulesTerms.j0 k t491 t492 t498 (t494 != 0) t495 t496 t497) else (numnahlaw08_RulesTerms.j0 k t491 t492 t498 true t495 t496 t497))) else (numnahlaw08_RulesTerms.j0 k t491 t492 t498 false t495 t496 t497))) else (if t493 = 0 then (if t494 = 4 then ((numnahref08_Term.f k t492).bind fun t503 => (if t503 = true then ((numnahref08_Size.f k t492).bind fun t504 => (if t493 = t504 then (numnahlaw08_RulesTerms.j0 k t491 t492 t498 (t494 != 0) t495 t496 t497) else (numnahlaw08_RulesTerms.j0 k t491 t492 t498 true t495 t496 t497))) else (numnahlaw08_RulesTerms.j0 k t491 t492 t498 false t495 t496 t497))) else (numnahlaw08_RulesTerms.j0 k t491 t492 t498 true t495 t496 t497)) else (numnahlaw08_RulesTerms.j0 k t491 t492 t498 true t495 t496 t497)))) = some r := H
  have A6 := Aside0.mk A60
  clear A60
  have HC7 := Aside0.mk H
  clear H
  go_enter Tryz.func11, Tryz.ntmps11
  go_upto_region 4 with (first | ((with_reducible refine gate_callee (f := 21) rfl ?_); refine goesL_ (some 14) rfl rfl Tryz.func21 (by kernel_rfl) rfl #[.string a0] rfl (by (try simp only [List.map_toArray, List.map_cons, List.map_nil]); first | done | rfl | (simp only [List.length_drop, List.length_take]; rfl)) ?_; (with_reducible refine (numnahlaw08_short.calls a0 t491 _ A3.out).mono ?_); rintro e w8 ⟨rfl, hb⟩; refine ⟨_, rfl, ?_⟩; have n0_ := Aside0.mk (below_step (by repeat (first | (with_reducible first | exact HB.out | apply below_alloc | apply pw_below_drewN | apply below_drew1) | exact HB.out)) hb); clear HB; have HB := n0_; clear n0_; (try clear hb); (try clear hb2); (try clear hk); (try clear hi)) | ((with_reducible refine gate_callee (f := 21) rfl ?_); refine goesL_ (some 16) rfl rfl Tryz.func21 (by kernel_rfl) rfl #[.string a1] rfl (by (try simp only [List.map_toArray, List.map_cons, List.map_nil]); first | done | rfl | (simp only [List.length_drop, List.length_take]; rfl)) ?_; (with_reducible refine (numnahlaw08_short.calls a1 t492 _ A4.out).mono ?_); rintro e w9 ⟨rfl, hb⟩; refine ⟨_, rfl, ?_⟩; have n0_ := Aside0.mk (below_step (by repeat (first | (with_reducible first | exact HB.out | apply below_alloc | apply pw_below_drewN | apply below_drew1) | exact HB.out)) hb); clear HB; have HB := n0_; clear n0_; (try clear hb); (try clear hb2); (try clear hk); (try clear hi)) | ((with_reducible refine gate_callee (f := 35) rfl ?_); refine goesL_ (some 19) rfl rfl Tryz.func35 (by kernel_rfl) rfl #[.string t492] rfl (by (try simp only [List.map_toArray, List.map_cons, List.map_nil]); first | done | rfl | (simp only [List.length_drop, List.length_take]; rfl)) ?_; (with_reducible refine (rules_Size.calls t492 t493 t494 _ A5.out).mono ?_); rintro e w10 ⟨rfl, hb⟩; refine ⟨_, rfl, ?_⟩; have n0_ := Aside0.mk (below_step (by repeat (first | (with_reducible first | exact HB.out | apply below_alloc | apply pw_below_drewN | apply below_drew1) | exact HB.out)) hb); clear HB; have HB := n0_; clear n0_; (try clear hb); (try clear hb2); (try clear hk); (try clear hi)) | ((with_reducible refine gate_callee (f := 47) rfl ?_); refine goesL_ (some 25) rfl rfl Tryz.func47 (by kernel_rfl) rfl #[.string t491, .string t492] rfl (by (try simp only [List.map_toArray, List.map_cons, List.map_nil]); first | done | rfl | (simp only [List.length_drop, List.length_take]; rfl)) ?_; (with_reducible refine (rules_Match.calls t491 t492 t495 t496 t497 t498 _ A6.out).mono ?_); rintro e w11 ⟨rfl, hb⟩; refine ⟨_, rfl, ?_⟩; have n0_ := Aside0.mk (below_step (by repeat (first | (with_reducible first | exact HB.out | apply below_alloc | apply pw_below_drewN | apply below_drew1) | exact HB.out)) hb); clear HB; have HB := n0_; clear n0_; (try clear hb); (try clear hb2); (try clear hk); (try clear hi)) | ((with_reducible refine gate_dst (N := 9) rfl ?_); refine box_event ?hg (N := 9) ?hd (cs := #[.string (⟨#[]⟩ : ByteArray), .string (⟨#[]⟩ : ByteArray), .string (⟨#[]⟩ : ByteArray)]) (t := 61) ?hr ?_; (case hd => rfl); (case hg => rfl); (case hr => first | (go_simp; done) | (go_simp; rfl)); intro gb499 hg w12 hbox hb; have n0_ := Aside0.mk (below_step (by repeat (first | (with_reducible first | exact HB.out | apply below_alloc | apply pw_below_drewN | apply below_drew1) | exact HB.out)) hb); have n1_ := Aside0.mk (hbox); have n2_ := Aside0.mk ((by rw [hg]; exact (below_size (by repeat (first | (with_reducible first | exact HB.out | apply below_alloc | apply pw_below_drewN | apply below_drew1) | exact HB.out))) : w.heap.size ≤ gb499)); have n3_ := Aside0.mk ((by rw [hg]; exact (below_size (by repeat (first | (with_reducible first | exact HB.out | apply below_alloc | apply pw_below_drewN | apply below_drew1) | exact HB.out))) : w.heap.size ≤ gb499)); clear HB; have HB := n0_; have BK499 := n1_; have GW499 := n2_; have GE499 := n3_; clear n0_ n1_ n2_ n3_; clear hb hbox hg; have hcz13_0 : w12.cell? ⟨gb499, 0, none⟩ = some (.string (⟨#[]⟩ : ByteArray)) := (blk_cell BK499.out 0).trans rfl; have hcz13_1 : w12.cell? ⟨gb499, 1, none⟩ = some (.string (⟨#[]⟩ : ByteArray)) := (blk_cell BK499.out 1).trans rfl; have hcz13_2 : w12.cell? ⟨gb499, 2, none⟩ = some (.string (⟨#[]⟩ : ByteArray)) := (blk_cell BK499.out 2).trans rfl; have hfz13_0 := blk_frozen BK499.out 0; have hfz13_1 := blk_frozen BK499.out 1; have hfz13_2 := blk_frozen BK499.out 2))
  (try simp only [Act.put, List.setIfInBounds_toArray, List.set_cons_zero, List.set_cons_succ])
  go_cut [52] (fun v52 wc => ∃ (kq : Nat) (x52_6 : Bool), v52 = .bool x52_6 ∧ Aside0 (numnahlaw08_RulesTerms.j0 kq t491 t492 t498 x52_6 t495 t496 t497 = some r) ∧ Aside0 (kq ≤ k) ∧ Aside0 (wc.heap[gb499]? = some (.cells #[.string t495, .string t496, .string t497] 61 (0, 0))) ∧ Aside0 (Below w.heap.size w wc))
  case first =>
    have H := HC7.out
    clear HC7
    replace H := Option.bind_eq_some_iff.mp H
    obtain ⟨t500, A140, H⟩ := H
    replace H : (if t500 = true then ((numnahref08_Term.f k t492).bind fun t501 => (if t501 = true then ((numnahref08_Size.f k t492).bind fun t502 => (if t493 = t502 then (numnahlaw08_RulesTerms.j0 k t491 t492 t498 (t494 != 0) t495 t496 t497) else (numnahlaw08_RulesTerms.j0 k t491 t492 t498 true t495 t496 t497))) else (numnahlaw08_RulesTerms.j0 k t491 t492 t498 false t495 t496 t497))) else (if t493 = 0 then (if t494 = 4 then ((numnahref08_Term.f k t492).bind fun t503 => (if t503 = true then ((numnahref08_Size.f k t492).bind fun t504 => (if t493 = t504 then (numnahlaw08_RulesTerms.j0 k t491 t492 t498 (t494 != 0) t495 t496 t497) else (numnahlaw08_RulesTerms.j0 k t491 t492 t498 true t495 t496 t497))) else (numnahlaw08_RulesTerms.j0 k t491 t492 t498 false t495 t496 t497))) else (numnahlaw08_RulesTerms.j0 k t491 t492 t498 true t495 t496 t497)) else (numnahlaw08_RulesTerms.j0 k t491 t492 t498 true t495 t496 t497))) = some r := H
    have A14 := Aside0.mk A140
    clear A140
    by_cases c15 : t500 = true
    · subst c15
      have H1 : ((numnahref08_Term.f k t492).bind fun t501 => (if t501 = true then ((numnahref08_Size.f k t492).bind fun t502 => (if t493 = t502 then (numnahlaw08_RulesTerms.j0 k t491 t492 t498 (t494 != 0) t495 t496 t497) else (numnahlaw08_RulesTerms.j0 k t491 t492 t498 true t495 t496 t497))) else (numnahlaw08_RulesTerms.j0 k t491 t492 t498 false t495 t496 t497))) = some r := by rw [if_pos rfl] at H; exact H
      clear H
      have H := H1
      clear H1
      replace H := Option.bind_eq_some_iff.mp H
      obtain ⟨t501, A160, H⟩ := H
      replace H : (if t501 = true then ((numnahref08_Size.f k t492).bind fun t502 => (if t493 = t502 then (numnahlaw08_RulesTerms.j0 k t491 t492 t498 (t494 != 0) t495 t496 t497) else (numnahlaw08_RulesTerms.j0 k t491 t492 t498 true t495 t496 t497))) else (numnahlaw08_RulesTerms.j0 k t491 t492 t498 false t495 t496 t497)) = some r := H
      have A16 := Aside0.mk A160
      clear A160
      by_cases c17 : t501 = true
      · subst c17
        have H1 : ((numnahref08_Size.f k t492).bind fun t502 => (if t493 = t502 then (numnahlaw08_RulesTerms.j0 k t491 t492 t498 (t494 != 0) t495 t496 t497) else (numnahlaw08_RulesTerms.j0 k t491 t492 t498 true t495 t496 t497))) = some r := by rw [if_pos rfl] at H; exact H
        clear H
        have H := H1
        clear H1
        replace H := Option.bind_eq_some_iff.mp H
        obtain ⟨t502, A180, H⟩ := H
        replace H : (if t493 = t502 then (numnahlaw08_RulesTerms.j0 k t491 t492 t498 (t494 != 0) t495 t496 t497) else (numnahlaw08_RulesTerms.j0 k t491 t492 t498 true t495 t496 t497)) = some r := H
        have A18 := Aside0.mk A180
        clear A180
        by_cases c19 : t493 = t502
        · rw [if_pos c19] at H
          have c19b0 : (t493 == t502) = true := beq_iff_eq.mpr c19
          have c19b1 : (t493 != t502) = false := bne_eq_false_iff_eq.mpr c19
          clear c19
          (first | rw [c19b0] | (simp only [i64_w, i32_w]; rw [c19b0]) | skip)
          have H' := Aside0.mk H
          clear H
          go_wp2_with (first | ((with_reducible refine gate_callee (f := 25) rfl ?_); refine goesL_ (some 29) rfl rfl Tryz.func25 (by kernel_rfl) rfl #[.string t492] rfl (by (try simp only [List.map_toArray, List.map_cons, List.map_nil]); first | done | rfl | (simp only [List.length_drop, List.length_take]; rfl)) ?_; (with_reducible refine (numnahref08_Term.calls k t492 true _ A14.out).mono ?_); rintro e w' ⟨rfl, ⟨nd, rfl⟩⟩; refine ⟨_, rfl, ?_⟩) | (go_at_call 25; (with_reducible refine (numnahref08_Term.calls k t492 true _ A16.out).mono ?_); rintro e w' ⟨rfl, ⟨nd, rfl⟩⟩) | (go_at_call 26; (with_reducible refine (numnahref08_Size.calls k t492 t502 _ A18.out).mono ?_); rintro e w' ⟨rfl, ⟨nd, rfl⟩⟩))
          go_meet
          case rel => exact ⟨_, ((t494 != 0)), (by first | rfl | (simp; done) | (simp [*]; done)), H', ⟨by first | omega | exact Nat.le_refl _⟩, ⟨by (with_reducible repeat (first | refine blk_drewN ?_ _ | refine blk_drew ?_ | refine blk_alloc ?_ _)); refine blk_put (cs := #[.string t495, .string t496, .string (⟨#[]⟩ : ByteArray)]) ?_ 2 _ rfl; (with_reducible repeat (first | refine blk_drewN ?_ _ | refine blk_drew ?_ | refine blk_alloc ?_ _)); refine blk_put (cs := #[.string t495, .string (⟨#[]⟩ : ByteArray), .string (⟨#[]⟩ : ByteArray)]) ?_ 1 _ rfl; (with_reducible repeat (first | refine blk_drewN ?_ _ | refine blk_drew ?_ | refine blk_alloc ?_ _)); refine blk_put (cs := #[.string (⟨#[]⟩ : ByteArray), .string (⟨#[]⟩ : ByteArray), .string (⟨#[]⟩ : ByteArray)]) ?_ 0 _ rfl; (with_reducible repeat (first | refine blk_drewN ?_ _ | refine blk_drew ?_ | refine blk_alloc ?_ _)); exact BK499.out⟩, ⟨by repeat (first | (with_reducible first | exact HB.out | apply below_alloc | apply pw_below_drewN | apply below_drew1 | refine below_set ?_ GE499.out) | exact HB.out)⟩⟩
        · rw [if_neg c19] at H
          have c19b0 : (t493 == t502) = false := beq_eq_false_iff_ne.mpr c19
          have c19b1 : (t493 != t502) = true := bne_iff_ne.mpr c19
          (first | rw [c19b0] | (simp only [i64_w, i32_w]; rw [c19b0]) | skip)
          have H' := Aside0.mk H
          clear H
          go_wp2_with (first | ((with_reducible refine gate_callee (f := 25) rfl ?_); refine goesL_ (some 29) rfl rfl Tryz.func25 (by kernel_rfl) rfl #[.string t492] rfl (by (try simp only [List.map_toArray, List.map_cons, List.map_nil]); first | done | rfl | (simp only [List.length_drop, List.length_take]; rfl)) ?_; (with_reducible refine (numnahref08_Term.calls k t492 true _ A14.out).mono ?_); rintro e w' ⟨rfl, ⟨nd, rfl⟩⟩; refine ⟨_, rfl, ?_⟩) | (go_at_call 25; (with_reducible refine (numnahref08_Term.calls k t492 true _ A16.out).mono ?_); rintro e w' ⟨rfl, ⟨nd, rfl⟩⟩) | (go_at_call 26; (with_reducible refine (numnahref08_Size.calls k t492 t502 _ A18.out).mono ?_); rintro e w' ⟨rfl, ⟨nd, rfl⟩⟩))
          go_meet
          case rel => exact ⟨_, (true), (by first | rfl | (simp; done) | (simp [*]; done)), H', ⟨by first | omega | exact Nat.le_refl _⟩, ⟨by (with_reducible repeat (first | refine blk_drewN ?_ _ | refine blk_drew ?_ | refine blk_alloc ?_ _)); refine blk_put (cs := #[.string t495, .string t496, .string (⟨#[]⟩ : ByteArray)]) ?_ 2 _ rfl; (with_reducible repeat (first | refine blk_drewN ?_ _ | refine blk_drew ?_ | refine blk_alloc ?_ _)); refine blk_put (cs := #[.string t495, .string (⟨#[]⟩ : ByteArray), .string (⟨#[]⟩ : ByteArray)]) ?_ 1 _ rfl; (with_reducible repeat (first | refine blk_drewN ?_ _ | refine blk_drew ?_ | refine blk_alloc ?_ _)); refine blk_put (cs := #[.string (⟨#[]⟩ : ByteArray), .string (⟨#[]⟩ : ByteArray), .string (⟨#[]⟩ : ByteArray)]) ?_ 0 _ rfl; (with_reducible repeat (first | refine blk_drewN ?_ _ | refine blk_drew ?_ | refine blk_alloc ?_ _)); exact BK499.out⟩, ⟨by repeat (first | (with_reducible first | exact HB.out | apply below_alloc | apply pw_below_drewN | apply below_drew1 | refine below_set ?_ GE499.out) | exact HB.out)⟩⟩
      · replace c17 := Bool.eq_false_iff.mpr c17
        subst c17
        have H1 : (numnahlaw08_RulesTerms.j0 k t491 t492 t498 false t495 t496 t497) = some r := by rw [if_neg (show ¬ (false = true) by decide)] at H; exact H
        clear H
        have H := H1
        clear H1
        have H' := Aside0.mk H
        clear H
        go_wp2_with (first | ((with_reducible refine gate_callee (f := 25) rfl ?_); refine goesL_ (some 29) rfl rfl Tryz.func25 (by kernel_rfl) rfl #[.string t492] rfl (by (try simp only [List.map_toArray, List.map_cons, List.map_nil]); first | done | rfl | (simp only [List.length_drop, List.length_take]; rfl)) ?_; (with_reducible refine (numnahref08_Term.calls k t492 true _ A14.out).mono ?_); rintro e w' ⟨rfl, ⟨nd, rfl⟩⟩; refine ⟨_, rfl, ?_⟩) | (go_at_call 25; (with_reducible refine (numnahref08_Term.calls k t492 false _ A16.out).mono ?_); rintro e w' ⟨rfl, ⟨nd, rfl⟩⟩))
        go_meet
        case rel => exact ⟨_, (false), (by first | rfl | (simp; done) | (simp [*]; done)), H', ⟨by first | omega | exact Nat.le_refl _⟩, ⟨by (with_reducible repeat (first | refine blk_drewN ?_ _ | refine blk_drew ?_ | refine blk_alloc ?_ _)); refine blk_put (cs := #[.string t495, .string t496, .string (⟨#[]⟩ : ByteArray)]) ?_ 2 _ rfl; (with_reducible repeat (first | refine blk_drewN ?_ _ | refine blk_drew ?_ | refine blk_alloc ?_ _)); refine blk_put (cs := #[.string t495, .string (⟨#[]⟩ : ByteArray), .string (⟨#[]⟩ : ByteArray)]) ?_ 1 _ rfl; (with_reducible repeat (first | refine blk_drewN ?_ _ | refine blk_drew ?_ | refine blk_alloc ?_ _)); refine blk_put (cs := #[.string (⟨#[]⟩ : ByteArray), .string (⟨#[]⟩ : ByteArray), .string (⟨#[]⟩ : ByteArray)]) ?_ 0 _ rfl; (with_reducible repeat (first | refine blk_drewN ?_ _ | refine blk_drew ?_ | refine blk_alloc ?_ _)); exact BK499.out⟩, ⟨by repeat (first | (with_reducible first | exact HB.out | apply below_alloc | apply pw_below_drewN | apply below_drew1 | refine below_set ?_ GE499.out) | exact HB.out)⟩⟩
    · replace c15 := Bool.eq_false_iff.mpr c15
      subst c15
      have H1 : (if t493 = 0 then (if t494 = 4 then ((numnahref08_Term.f k t492).bind fun t503 => (if t503 = true then ((numnahref08_Size.f k t492).bind fun t504 => (if t493 = t504 then (numnahlaw08_RulesTerms.j0 k t491 t492 t498 (t494 != 0) t495 t496 t497) else (numnahlaw08_RulesTerms.j0 k t491 t492 t498 true t495 t496 t497))) else (numnahlaw08_RulesTerms.j0 k t491 t492 t498 false t495 t496 t497))) else (numnahlaw08_RulesTerms.j0 k t491 t492 t498 true t495 t496 t497)) else (numnahlaw08_RulesTerms.j0 k t491 t492 t498 true t495 t496 t497)) = some r := by rw [if_neg (show ¬ (false = true) by decide)] at H; exact H
      clear H
      have H := H1
      clear H1
      by_cases c20 : t493 = 0
      · rw [if_pos c20] at H
        have c20b0 : (t493 == 0) = true := beq_iff_eq.mpr c20
        have c20b1 : (t493 != 0) = false := bne_eq_false_iff_eq.mpr c20
        clear c20
        by_cases c21 : t494 = 4
        · rw [if_pos c21] at H
          have c21b0 : (t494 == 4) = true := beq_iff_eq.mpr c21
          have c21b1 : (t494 != 4) = false := bne_eq_false_iff_eq.mpr c21
          clear c21
          replace H := Option.bind_eq_some_iff.mp H
          obtain ⟨t503, A220, H⟩ := H
          replace H : (if t503 = true then ((numnahref08_Size.f k t492).bind fun t504 => (if t493 = t504 then (numnahlaw08_RulesTerms.j0 k t491 t492 t498 (t494 != 0) t495 t496 t497) else (numnahlaw08_RulesTerms.j0 k t491 t492 t498 true t495 t496 t497))) else (numnahlaw08_RulesTerms.j0 k t491 t492 t498 false t495 t496 t497)) = some r := H
          have A22 := Aside0.mk A220
          clear A220
          by_cases c23 : t503 = true
          · subst c23
            have H1 : ((numnahref08_Size.f k t492).bind fun t504 => (if t493 = t504 then (numnahlaw08_RulesTerms.j0 k t491 t492 t498 (t494 != 0) t495 t496 t497) else (numnahlaw08_RulesTerms.j0 k t491 t492 t498 true t495 t496 t497))) = some r := by rw [if_pos rfl] at H; exact H
            clear H
            have H := H1
            clear H1
            replace H := Option.bind_eq_some_iff.mp H
            obtain ⟨t504, A240, H⟩ := H
            replace H : (if t493 = t504 then (numnahlaw08_RulesTerms.j0 k t491 t492 t498 (t494 != 0) t495 t496 t497) else (numnahlaw08_RulesTerms.j0 k t491 t492 t498 true t495 t496 t497)) = some r := H
            have A24 := Aside0.mk A240
            clear A240
            by_cases c25 : t493 = t504
            · rw [if_pos c25] at H
              have c25b0 : (t493 == t504) = true := beq_iff_eq.mpr c25
              have c25b1 : (t493 != t504) = false := bne_eq_false_iff_eq.mpr c25
              clear c25
              have H' := Aside0.mk H
              clear H
              go_wp2_with (first | ((with_reducible refine gate_callee (f := 25) rfl ?_); refine goesL_ (some 29) rfl rfl Tryz.func25 (by kernel_rfl) rfl #[.string t492] rfl (by (try simp only [List.map_toArray, List.map_cons, List.map_nil]); first | done | rfl | (simp only [List.length_drop, List.length_take]; rfl)) ?_; (with_reducible refine (numnahref08_Term.calls k t492 false _ A14.out).mono ?_); rintro e w' ⟨rfl, ⟨nd, rfl⟩⟩; refine ⟨_, rfl, ?_⟩) | (go_at_call 25; (with_reducible refine (numnahref08_Term.calls k t492 true _ A22.out).mono ?_); rintro e w' ⟨rfl, ⟨nd, rfl⟩⟩) | (go_at_call 26; (with_reducible refine (numnahref08_Size.calls k t492 t504 _ A24.out).mono ?_); rintro e w' ⟨rfl, ⟨nd, rfl⟩⟩))
              go_meet
              case rel => exact ⟨_, ((t494 != 0)), (by first | rfl | (simp; done) | (simp [*]; done)), H', ⟨by first | omega | exact Nat.le_refl _⟩, ⟨by (with_reducible repeat (first | refine blk_drewN ?_ _ | refine blk_drew ?_ | refine blk_alloc ?_ _)); refine blk_put (cs := #[.string t495, .string t496, .string (⟨#[]⟩ : ByteArray)]) ?_ 2 _ rfl; (with_reducible repeat (first | refine blk_drewN ?_ _ | refine blk_drew ?_ | refine blk_alloc ?_ _)); refine blk_put (cs := #[.string t495, .string (⟨#[]⟩ : ByteArray), .string (⟨#[]⟩ : ByteArray)]) ?_ 1 _ rfl; (with_reducible repeat (first | refine blk_drewN ?_ _ | refine blk_drew ?_ | refine blk_alloc ?_ _)); refine blk_put (cs := #[.string (⟨#[]⟩ : ByteArray), .string (⟨#[]⟩ : ByteArray), .string (⟨#[]⟩ : ByteArray)]) ?_ 0 _ rfl; (with_reducible repeat (first | refine blk_drewN ?_ _ | refine blk_drew ?_ | refine blk_alloc ?_ _)); exact BK499.out⟩, ⟨by repeat (first | (with_reducible first | exact HB.out | apply below_alloc | apply pw_below_drewN | apply below_drew1 | refine below_set ?_ GE499.out) | exact HB.out)⟩⟩
            · rw [if_neg c25] at H
              have c25b0 : (t493 == t504) = false := beq_eq_false_iff_ne.mpr c25
              have c25b1 : (t493 != t504) = true := bne_iff_ne.mpr c25
              have H' := Aside0.mk H
              clear H
              go_wp2_with (first | ((with_reducible refine gate_callee (f := 25) rfl ?_); refine goesL_ (some 29) rfl rfl Tryz.func25 (by kernel_rfl) rfl #[.string t492] rfl (by (try simp only [List.map_toArray, List.map_cons, List.map_nil]); first | done | rfl | (simp only [List.length_drop, List.length_take]; rfl)) ?_; (with_reducible refine (numnahref08_Term.calls k t492 false _ A14.out).mono ?_); rintro e w' ⟨rfl, ⟨nd, rfl⟩⟩; refine ⟨_, rfl, ?_⟩) | (go_at_call 25; (with_reducible refine (numnahref08_Term.calls k t492 true _ A22.out).mono ?_); rintro e w' ⟨rfl, ⟨nd, rfl⟩⟩) | (go_at_call 26; (with_reducible refine (numnahref08_Size.calls k t492 t504 _ A24.out).mono ?_); rintro e w' ⟨rfl, ⟨nd, rfl⟩⟩))
              go_meet
              case rel => exact ⟨_, (true), (by first | rfl | (simp; done) | (simp [*]; done)), H', ⟨by first | omega | exact Nat.le_refl _⟩, ⟨by (with_reducible repeat (first | refine blk_drewN ?_ _ | refine blk_drew ?_ | refine blk_alloc ?_ _)); refine blk_put (cs := #[.string t495, .string t496, .string (⟨#[]⟩ : ByteArray)]) ?_ 2 _ rfl; (with_reducible repeat (first | refine blk_drewN ?_ _ | refine blk_drew ?_ | refine blk_alloc ?_ _)); refine blk_put (cs := #[.string t495, .string (⟨#[]⟩ : ByteArray), .string (⟨#[]⟩ : ByteArray)]) ?_ 1 _ rfl; (with_reducible repeat (first | refine blk_drewN ?_ _ | refine blk_drew ?_ | refine blk_alloc ?_ _)); refine blk_put (cs := #[.string (⟨#[]⟩ : ByteArray), .string (⟨#[]⟩ : ByteArray), .string (⟨#[]⟩ : ByteArray)]) ?_ 0 _ rfl; (with_reducible repeat (first | refine blk_drewN ?_ _ | refine blk_drew ?_ | refine blk_alloc ?_ _)); exact BK499.out⟩, ⟨by repeat (first | (with_reducible first | exact HB.out | apply below_alloc | apply pw_below_drewN | apply below_drew1 | refine below_set ?_ GE499.out) | exact HB.out)⟩⟩
          · replace c23 := Bool.eq_false_iff.mpr c23
            subst c23
            have H1 : (numnahlaw08_RulesTerms.j0 k t491 t492 t498 false t495 t496 t497) = some r := by rw [if_neg (show ¬ (false = true) by decide)] at H; exact H
            clear H
            have H := H1
            clear H1
            have H' := Aside0.mk H
            clear H
            go_wp2_with (first | ((with_reducible refine gate_callee (f := 25) rfl ?_); refine goesL_ (some 29) rfl rfl Tryz.func25 (by kernel_rfl) rfl #[.string t492] rfl (by (try simp only [List.map_toArray, List.map_cons, List.map_nil]); first | done | rfl | (simp only [List.length_drop, List.length_take]; rfl)) ?_; (with_reducible refine (numnahref08_Term.calls k t492 false _ A14.out).mono ?_); rintro e w' ⟨rfl, ⟨nd, rfl⟩⟩; refine ⟨_, rfl, ?_⟩) | (go_at_call 25; (with_reducible refine (numnahref08_Term.calls k t492 false _ A22.out).mono ?_); rintro e w' ⟨rfl, ⟨nd, rfl⟩⟩))
            go_meet
            case rel => exact ⟨_, (false), (by first | rfl | (simp; done) | (simp [*]; done)), H', ⟨by first | omega | exact Nat.le_refl _⟩, ⟨by (with_reducible repeat (first | refine blk_drewN ?_ _ | refine blk_drew ?_ | refine blk_alloc ?_ _)); refine blk_put (cs := #[.string t495, .string t496, .string (⟨#[]⟩ : ByteArray)]) ?_ 2 _ rfl; (with_reducible repeat (first | refine blk_drewN ?_ _ | refine blk_drew ?_ | refine blk_alloc ?_ _)); refine blk_put (cs := #[.string t495, .string (⟨#[]⟩ : ByteArray), .string (⟨#[]⟩ : ByteArray)]) ?_ 1 _ rfl; (with_reducible repeat (first | refine blk_drewN ?_ _ | refine blk_drew ?_ | refine blk_alloc ?_ _)); refine blk_put (cs := #[.string (⟨#[]⟩ : ByteArray), .string (⟨#[]⟩ : ByteArray), .string (⟨#[]⟩ : ByteArray)]) ?_ 0 _ rfl; (with_reducible repeat (first | refine blk_drewN ?_ _ | refine blk_drew ?_ | refine blk_alloc ?_ _)); exact BK499.out⟩, ⟨by repeat (first | (with_reducible first | exact HB.out | apply below_alloc | apply pw_below_drewN | apply below_drew1 | refine below_set ?_ GE499.out) | exact HB.out)⟩⟩
        · rw [if_neg c21] at H
          have c21b0 : (t494 == 4) = false := beq_eq_false_iff_ne.mpr c21
          have c21b1 : (t494 != 4) = true := bne_iff_ne.mpr c21
          have H' := Aside0.mk H
          clear H
          go_wp2_with (first | ((with_reducible refine gate_callee (f := 25) rfl ?_); refine goesL_ (some 29) rfl rfl Tryz.func25 (by kernel_rfl) rfl #[.string t492] rfl (by (try simp only [List.map_toArray, List.map_cons, List.map_nil]); first | done | rfl | (simp only [List.length_drop, List.length_take]; rfl)) ?_; (with_reducible refine (numnahref08_Term.calls k t492 false _ A14.out).mono ?_); rintro e w' ⟨rfl, ⟨nd, rfl⟩⟩; refine ⟨_, rfl, ?_⟩))
          go_meet
          case rel => exact ⟨_, (true), (by first | rfl | (simp; done) | (simp [*]; done)), H', ⟨by first | omega | exact Nat.le_refl _⟩, ⟨by (with_reducible repeat (first | refine blk_drewN ?_ _ | refine blk_drew ?_ | refine blk_alloc ?_ _)); refine blk_put (cs := #[.string t495, .string t496, .string (⟨#[]⟩ : ByteArray)]) ?_ 2 _ rfl; (with_reducible repeat (first | refine blk_drewN ?_ _ | refine blk_drew ?_ | refine blk_alloc ?_ _)); refine blk_put (cs := #[.string t495, .string (⟨#[]⟩ : ByteArray), .string (⟨#[]⟩ : ByteArray)]) ?_ 1 _ rfl; (with_reducible repeat (first | refine blk_drewN ?_ _ | refine blk_drew ?_ | refine blk_alloc ?_ _)); refine blk_put (cs := #[.string (⟨#[]⟩ : ByteArray), .string (⟨#[]⟩ : ByteArray), .string (⟨#[]⟩ : ByteArray)]) ?_ 0 _ rfl; (with_reducible repeat (first | refine blk_drewN ?_ _ | refine blk_drew ?_ | refine blk_alloc ?_ _)); exact BK499.out⟩, ⟨by repeat (first | (with_reducible first | exact HB.out | apply below_alloc | apply pw_below_drewN | apply below_drew1 | refine below_set ?_ GE499.out) | exact HB.out)⟩⟩
      · rw [if_neg c20] at H
        have c20b0 : (t493 == 0) = false := beq_eq_false_iff_ne.mpr c20
        have c20b1 : (t493 != 0) = true := bne_iff_ne.mpr c20
        have H' := Aside0.mk H
        clear H
        go_wp2_with (first | ((with_reducible refine gate_callee (f := 25) rfl ?_); refine goesL_ (some 29) rfl rfl Tryz.func25 (by kernel_rfl) rfl #[.string t492] rfl (by (try simp only [List.map_toArray, List.map_cons, List.map_nil]); first | done | rfl | (simp only [List.length_drop, List.length_take]; rfl)) ?_; (with_reducible refine (numnahref08_Term.calls k t492 false _ A14.out).mono ?_); rintro e w' ⟨rfl, ⟨nd, rfl⟩⟩; refine ⟨_, rfl, ?_⟩))
        go_meet
        case rel => exact ⟨_, (true), (by first | rfl | (simp; done) | (simp [*]; done)), H', ⟨by first | omega | exact Nat.le_refl _⟩, ⟨by (with_reducible repeat (first | refine blk_drewN ?_ _ | refine blk_drew ?_ | refine blk_alloc ?_ _)); refine blk_put (cs := #[.string t495, .string t496, .string (⟨#[]⟩ : ByteArray)]) ?_ 2 _ rfl; (with_reducible repeat (first | refine blk_drewN ?_ _ | refine blk_drew ?_ | refine blk_alloc ?_ _)); refine blk_put (cs := #[.string t495, .string (⟨#[]⟩ : ByteArray), .string (⟨#[]⟩ : ByteArray)]) ?_ 1 _ rfl; (with_reducible repeat (first | refine blk_drewN ?_ _ | refine blk_drew ?_ | refine blk_alloc ?_ _)); refine blk_put (cs := #[.string (⟨#[]⟩ : ByteArray), .string (⟨#[]⟩ : ByteArray), .string (⟨#[]⟩ : ByteArray)]) ?_ 0 _ rfl; (with_reducible repeat (first | refine blk_drewN ?_ _ | refine blk_drew ?_ | refine blk_alloc ?_ _)); exact BK499.out⟩, ⟨by repeat (first | (with_reducible first | exact HB.out | apply below_alloc | apply pw_below_drewN | apply below_drew1 | refine below_set ?_ GE499.out) | exact HB.out)⟩⟩
  case rest =>
    clear HC7
    try clear c1
    try clear c2
    try clear p2
    try clear c3
    try clear c4
    try clear c11
    try clear c15
    try clear c17
    try clear c19
    try clear c19b0
    try clear c19b1
    try clear c20
    try clear c20b0
    try clear c20b1
    try clear c21
    try clear c21b0
    try clear c21b1
    try clear c23
    try clear c25
    try clear c25b0
    try clear c25b1
    try clear hcz13_0
    try clear hcz13_1
    try clear hcz13_2
    try clear hfz13_0
    try clear hfz13_1
    try clear hfz13_2
    obtain ⟨kq, x52_6, rfl, HA, HJ6, BK499, HB⟩ := hcut
    cases kq with
    | zero => exact absurd HA.out (by simp [numnahlaw08_RulesTerms.j0])
    | succ kj6 =>
      have H := HA.out
      clear HA
      simp only [numnahlaw08_RulesTerms.j0] at H
      by_cases c26 : x52_6 = true
      · subst c26
        have H1 : (some false) = some r := by rw [if_pos rfl] at H; exact H
        clear H
        have H := H1
        clear H1
        obtain rfl := Option.some.inj H
        go_wp2
        go_ret
        exact ⟨by first | rfl | (simp [errW_none, errW_some] <;> rfl) | (simp [*, errW_none, errW_some] <;> rfl), by repeat (first | (with_reducible first | exact HB.out | apply below_alloc | apply pw_below_drewN | apply below_drew1 | refine below_set ?_ GE499.out) | exact HB.out)⟩
      · replace c26 := Bool.eq_false_iff.mpr c26
        subst c26
        have H1 : ((numnahref08_Term.f kj6 t491).bind fun t505 => (if t505 = true then ((numnahref08_Term.f kj6 t492).bind fun t506 => (numnahlaw08_RulesTerms.j1 kj6 t491 t492 t498 (!t506) t495 t496 t497)) else (numnahlaw08_RulesTerms.j1 kj6 t491 t492 t498 true t495 t496 t497))) = some r := by rw [if_neg (show ¬ (false = true) by decide)] at H; exact H
        clear H
        have H := H1
        clear H1
        have HC27 := Aside0.mk H
        clear H
        go_upto_region 6 with (fail)
        go_cut [60] (fun v60 wc => ∃ (kq : Nat) (x60_26 : Bool), v60 = .bool x60_26 ∧ Aside0 (numnahlaw08_RulesTerms.j1 kq t491 t492 t498 x60_26 t495 t496 t497 = some r) ∧ Aside0 (kq ≤ kj6) ∧ Aside0 (wc.heap[gb499]? = some (.cells #[.string t495, .string t496, .string t497] 61 (0, 0))) ∧ Aside0 (Below w.heap.size w wc))
        case first =>
          have H := HC27.out
          clear HC27
          replace H := Option.bind_eq_some_iff.mp H
          obtain ⟨t505, A280, H⟩ := H
          replace H : (if t505 = true then ((numnahref08_Term.f kj6 t492).bind fun t506 => (numnahlaw08_RulesTerms.j1 kj6 t491 t492 t498 (!t506) t495 t496 t497)) else (numnahlaw08_RulesTerms.j1 kj6 t491 t492 t498 true t495 t496 t497)) = some r := H
          have A28 := Aside0.mk A280
          clear A280
          by_cases c29 : t505 = true
          · subst c29
            have H1 : ((numnahref08_Term.f kj6 t492).bind fun t506 => (numnahlaw08_RulesTerms.j1 kj6 t491 t492 t498 (!t506) t495 t496 t497)) = some r := by rw [if_pos rfl] at H; exact H
            clear H
            have H := H1
            clear H1
            replace H := Option.bind_eq_some_iff.mp H
            obtain ⟨t506, A300, H⟩ := H
            replace H : (numnahlaw08_RulesTerms.j1 kj6 t491 t492 t498 (!t506) t495 t496 t497) = some r := H
            have A30 := Aside0.mk A300
            clear A300
            have H' := Aside0.mk H
            clear H
            go_wp2_with (first | ((with_reducible refine gate_callee (f := 25) rfl ?_); refine goesL_ (some 54) rfl rfl Tryz.func25 (by kernel_rfl) rfl #[.string t491] rfl (by (try simp only [List.map_toArray, List.map_cons, List.map_nil]); first | done | rfl | (simp only [List.length_drop, List.length_take]; rfl)) ?_; (with_reducible refine (numnahref08_Term.calls kj6 t491 true _ A28.out).mono ?_); rintro e w' ⟨rfl, ⟨nd, rfl⟩⟩; refine ⟨_, rfl, ?_⟩) | (go_at_call 25; (with_reducible refine (numnahref08_Term.calls kj6 t492 t506 _ A30.out).mono ?_); rintro e w' ⟨rfl, ⟨nd, rfl⟩⟩))
            go_meet
            case rel => exact ⟨_, (!t506), (by first | rfl | (simp; done) | (simp [*]; done)), H', ⟨by have := HJ6.out; first | omega | exact Nat.le_refl _⟩, ⟨by (with_reducible repeat (first | refine blk_drewN ?_ _ | refine blk_drew ?_ | refine blk_alloc ?_ _)); exact BK499.out⟩, ⟨by repeat (first | (with_reducible first | exact HB.out | apply below_alloc | apply pw_below_drewN | apply below_drew1 | refine below_set ?_ GE499.out) | exact HB.out)⟩⟩
          · replace c29 := Bool.eq_false_iff.mpr c29
            subst c29
            have H1 : (numnahlaw08_RulesTerms.j1 kj6 t491 t492 t498 true t495 t496 t497) = some r := by rw [if_neg (show ¬ (false = true) by decide)] at H; exact H
            clear H
            have H := H1
            clear H1
            have H' := Aside0.mk H
            clear H
            go_wp2_with (first | ((with_reducible refine gate_callee (f := 25) rfl ?_); refine goesL_ (some 54) rfl rfl Tryz.func25 (by kernel_rfl) rfl #[.string t491] rfl (by (try simp only [List.map_toArray, List.map_cons, List.map_nil]); first | done | rfl | (simp only [List.length_drop, List.length_take]; rfl)) ?_; (with_reducible refine (numnahref08_Term.calls kj6 t491 false _ A28.out).mono ?_); rintro e w' ⟨rfl, ⟨nd, rfl⟩⟩; refine ⟨_, rfl, ?_⟩))
            go_meet
            case rel => exact ⟨_, (true), (by first | rfl | (simp; done) | (simp [*]; done)), H', ⟨by have := HJ6.out; first | omega | exact Nat.le_refl _⟩, ⟨by (with_reducible repeat (first | refine blk_drewN ?_ _ | refine blk_drew ?_ | refine blk_alloc ?_ _)); exact BK499.out⟩, ⟨by repeat (first | (with_reducible first | exact HB.out | apply below_alloc | apply pw_below_drewN | apply below_drew1 | refine below_set ?_ GE499.out) | exact HB.out)⟩⟩
        case rest =>
          clear HC27
          try clear c1
          try clear c2
          try clear p2
          try clear c3
          try clear c4
          try clear c11
          try clear c15
          try clear c17
          try clear c19
          try clear c19b0
          try clear c19b1
          try clear c20
          try clear c20b0
          try clear c20b1
          try clear c21
          try clear c21b0
          try clear c21b1
          try clear c23
          try clear c25
          try clear c25b0
          try clear c25b1
          try clear c26
          try clear c29
          try clear hcz13_0
          try clear hcz13_1
          try clear hcz13_2
          try clear hfz13_0
          try clear hfz13_1
          try clear hfz13_2
          try clear p2
          obtain ⟨kq, x60_26, rfl, HA, HJ26, BK499, HB⟩ := hcut
          cases kq with
          | zero => exact absurd HA.out (by simp [numnahlaw08_RulesTerms.j1])
          | succ kj26 =>
            have H := HA.out
            clear HA
            simp only [numnahlaw08_RulesTerms.j1] at H
            by_cases c31 : x60_26 = true
            · subst c31
              have H1 : (if (t495.toList == ([] : List UInt8) && (t496.toList == ([] : List UInt8) && (t497.toList == ([] : List UInt8)))) = true then (if t498 = 4 then ((numnahlaw08_awake.f kj26).bind fun t507 => (some t507)) else (some false)) else (some false)) = some r := by rw [if_pos rfl] at H; exact H
              clear H
              have H := H1
              clear H1
              by_cases c32 : (t495.toList == ([] : List UInt8) && (t496.toList == ([] : List UInt8) && (t497.toList == ([] : List UInt8)))) = true
              · rw [if_pos c32] at H
                have c32b0 : (t495.toList == ([] : List UInt8) && (t496.toList == ([] : List UInt8) && (t497.toList == ([] : List UInt8)))) = true := c32
                (try (have c32b1 : decide (t495.toList = ([] : List UInt8) && (t496.toList == ([] : List UInt8) && (t497.toList == ([] : List UInt8)))) = true := by simpa using c32))
                (try (have c32b2 : (t495.toList == ([] : List UInt8) && (t496.toList == ([] : List UInt8) && (t497.toList == ([] : List UInt8)))) = true := by simpa using c32))
                have c32e : (t495.toList = [] ∧ t496.toList = [] ∧ t497.toList = []) = True := eq_true (by simpa using c32)
                clear c32
                by_cases c33 : t498 = 4
                · rw [if_pos c33] at H
                  have c33b0 : (t498 == 4) = true := beq_iff_eq.mpr c33
                  have c33b1 : (t498 != 4) = false := bne_eq_false_iff_eq.mpr c33
                  clear c33
                  replace H := Option.bind_eq_some_iff.mp H
                  obtain ⟨t507, A340, H⟩ := H
                  replace H : (some t507) = some r := H
                  have A34 := Aside0.mk A340
                  clear A340
                  obtain rfl := Option.some.inj H
                  have hcz35_0 : wc.cell? ⟨gb499, 0, none⟩ = some (.string t495) := (blk_cell BK499.out 0).trans rfl
                  have hcz35_1 : wc.cell? ⟨gb499, 1, none⟩ = some (.string t496) := (blk_cell BK499.out 1).trans rfl
                  have hcz35_2 : wc.cell? ⟨gb499, 2, none⟩ = some (.string t497) := (blk_cell BK499.out 2).trans rfl
                  have hfz35_0 := blk_frozen BK499.out 0
                  have hfz35_1 := blk_frozen BK499.out 1
                  have hfz35_2 := blk_frozen BK499.out 2
                  go_wp2_with (first | (go_at_call 24; (with_reducible refine (numnahlaw08_awake.calls kj26  t507 _ A34.out).mono ?_); rintro e w36 ⟨rfl, hb⟩; have n0_ := Aside0.mk (blk_below (g := gb499) (o := .cells #[.string t495, .string t496, .string t497] 61 (0, 0)) (by (with_reducible repeat (first | refine blk_drewN ?_ _ | refine blk_drew ?_ | refine blk_alloc ?_ _)); exact BK499.out) hb); have n1_ := Aside0.mk (below_step (by repeat (first | (with_reducible first | exact HB.out | apply below_alloc | apply pw_below_drewN | apply below_drew1 | refine below_set ?_ GE499.out) | exact HB.out)) hb); clear BK499; clear HB; have BK499 := n0_; have HB := n1_; clear n0_ n1_; (try clear hb); (try clear hb2); (try clear hk); (try clear hi)))
                  go_ret
                  exact ⟨by first | rfl | (simp [errW_none, errW_some] <;> rfl) | (simp [*, errW_none, errW_some] <;> rfl), by repeat (first | (with_reducible first | exact HB.out | apply below_alloc | apply pw_below_drewN | apply below_drew1 | refine below_set ?_ GE499.out) | exact HB.out)⟩
                · rw [if_neg c33] at H
                  have c33b0 : (t498 == 4) = false := beq_eq_false_iff_ne.mpr c33
                  have c33b1 : (t498 != 4) = true := bne_iff_ne.mpr c33
                  obtain rfl := Option.some.inj H
                  have hcz37_0 : wc.cell? ⟨gb499, 0, none⟩ = some (.string t495) := (blk_cell BK499.out 0).trans rfl
                  have hcz37_1 : wc.cell? ⟨gb499, 1, none⟩ = some (.string t496) := (blk_cell BK499.out 1).trans rfl
                  have hcz37_2 : wc.cell? ⟨gb499, 2, none⟩ = some (.string t497) := (blk_cell BK499.out 2).trans rfl
                  have hfz37_0 := blk_frozen BK499.out 0
                  have hfz37_1 := blk_frozen BK499.out 1
                  have hfz37_2 := blk_frozen BK499.out 2
                  go_wp2
                  go_ret
                  exact ⟨by first | rfl | (simp [errW_none, errW_some] <;> rfl) | (simp [*, errW_none, errW_some] <;> rfl), by repeat (first | (with_reducible first | exact HB.out | apply below_alloc | apply pw_below_drewN | apply below_drew1 | refine below_set ?_ GE499.out) | exact HB.out)⟩
              · rw [if_neg c32] at H
                have c32b0 : (t495.toList == ([] : List UInt8) && (t496.toList == ([] : List UInt8) && (t497.toList == ([] : List UInt8)))) = false := by simpa using c32
                (try (have c32b1 : decide (t495.toList = ([] : List UInt8) && (t496.toList == ([] : List UInt8) && (t497.toList == ([] : List UInt8)))) = false := by simpa using c32))
                (try (have c32b2 : (t495.toList == ([] : List UInt8) && (t496.toList == ([] : List UInt8) && (t497.toList == ([] : List UInt8)))) = false := by simpa using c32))
                have c32e : (t495.toList = [] ∧ t496.toList = [] ∧ t497.toList = []) = False := eq_false (by simpa using c32)
                (try (have c32b3 : ¬ (t495.toList = ([] : List UInt8) && (t496.toList == ([] : List UInt8) && (t497.toList == ([] : List UInt8)))) := by simpa using c32))
                clear c32
                obtain rfl := Option.some.inj H
                have hcz38_0 : wc.cell? ⟨gb499, 0, none⟩ = some (.string t495) := (blk_cell BK499.out 0).trans rfl
                have hcz38_1 : wc.cell? ⟨gb499, 1, none⟩ = some (.string t496) := (blk_cell BK499.out 1).trans rfl
                have hcz38_2 : wc.cell? ⟨gb499, 2, none⟩ = some (.string t497) := (blk_cell BK499.out 2).trans rfl
                have hfz38_0 := blk_frozen BK499.out 0
                have hfz38_1 := blk_frozen BK499.out 1
                have hfz38_2 := blk_frozen BK499.out 2
                go_wp2
                go_ret
                exact ⟨by first | rfl | (simp [errW_none, errW_some] <;> rfl) | (simp [*, errW_none, errW_some] <;> rfl), by repeat (first | (with_reducible first | exact HB.out | apply below_alloc | apply pw_below_drewN | apply below_drew1 | refine below_set ?_ GE499.out) | exact HB.out)⟩
            · replace c31 := Bool.eq_false_iff.mpr c31
              subst c31
              have H1 : ((numnahref08_Match.f t491 t492).bind fun bt508 => (if bt508.2.2.2 = true then (if (t495.toList == bt508.1.toList && (t496.toList == bt508.2.1.toList && (t497.toList == bt508.2.2.1.toList))) = true then (if t498 = 0 then ((numnahlaw08_awake.f kj26).bind fun t513 => (some t513)) else (some false)) else (some false)) else (if (t495.toList == ([] : List UInt8) && (t496.toList == ([] : List UInt8) && (t497.toList == ([] : List UInt8)))) = true then (if t498 = 6 then ((numnahlaw08_awake.f kj26).bind fun t514 => (some t514)) else (some false)) else (some false)))) = some r := by rw [if_neg (show ¬ (false = true) by decide)] at H; exact H
              clear H
              have H := H1
              clear H1
              replace H := Option.bind_eq_some_iff.mp H
              obtain ⟨⟨t508, t509, t510, t511⟩, A390, H⟩ := H
              replace H : (if t511 = true then (if (t495.toList == t508.toList && (t496.toList == t509.toList && (t497.toList == t510.toList))) = true then (if t498 = 0 then ((numnahlaw08_awake.f kj26).bind fun t513 => (some t513)) else (some false)) else (some false)) else (if (t495.toList == ([] : List UInt8) && (t496.toList == ([] : List UInt8) && (t497.toList == ([] : List UInt8)))) = true then (if t498 = 6 then ((numnahlaw08_awake.f kj26).bind fun t514 => (some t514)) else (some false)) else (some false))) = some r := H
              have A39 := Aside0.mk A390
              clear A390
              by_cases c40 : t511 = true
              · subst c40
                have H1 : (if (t495.toList == t508.toList && (t496.toList == t509.toList && (t497.toList == t510.toList))) = true then (if t498 = 0 then ((numnahlaw08_awake.f kj26).bind fun t513 => (some t513)) else (some false)) else (some false)) = some r := by rw [if_pos rfl] at H; exact H
                clear H
                have H := H1
                clear H1
                by_cases c41 : (t495.toList == t508.toList && (t496.toList == t509.toList && (t497.toList == t510.toList))) = true
                · rw [if_pos c41] at H
                  have c41b0 : (t495.toList == t508.toList && (t496.toList == t509.toList && (t497.toList == t510.toList))) = true := c41
                  (try (have c41b1 : decide (t495.toList = t508.toList && (t496.toList == t509.toList && (t497.toList == t510.toList))) = true := by simpa using c41))
                  (try (have c41b2 : (t495.toList == t508.toList && (t496.toList == t509.toList && (t497.toList == t510.toList))) = true := by simpa using c41))
                  clear c41
                  by_cases c42 : t498 = 0
                  · rw [if_pos c42] at H
                    have c42b0 : (t498 == 0) = true := beq_iff_eq.mpr c42
                    have c42b1 : (t498 != 0) = false := bne_eq_false_iff_eq.mpr c42
                    clear c42
                    replace H := Option.bind_eq_some_iff.mp H
                    obtain ⟨t513, A430, H⟩ := H
                    replace H : (some t513) = some r := H
                    have A43 := Aside0.mk A430
                    clear A430
                    obtain rfl := Option.some.inj H
                    go_wp2_with (first | ((with_reducible refine gate_callee (f := 48) rfl ?_); refine goesL_ (some 74) rfl rfl Tryz.func48 (by kernel_rfl) rfl #[.string t491, .string t492] rfl (by (try simp only [List.map_toArray, List.map_cons, List.map_nil]); first | done | rfl | (simp only [List.length_drop, List.length_take]; rfl)) ?_; (with_reducible refine (numnahref08_Match.calls t491 t492 t508 t509 t510 true _ A39.out).mono ?_); rintro e w44 ⟨rfl, hb⟩; refine ⟨_, rfl, ?_⟩; have n0_ := Aside0.mk (blk_below (g := gb499) (o := .cells #[.string t495, .string t496, .string t497] 61 (0, 0)) (by (with_reducible repeat (first | refine blk_drewN ?_ _ | refine blk_drew ?_ | refine blk_alloc ?_ _)); exact BK499.out) hb); have n1_ := Aside0.mk (below_step (by repeat (first | (with_reducible first | exact HB.out | apply below_alloc | apply pw_below_drewN | apply below_drew1 | refine below_set ?_ GE499.out) | exact HB.out)) hb); clear BK499; clear HB; have BK499 := n0_; have HB := n1_; clear n0_ n1_; (try clear hb); (try clear hb2); (try clear hk); (try clear hi)) | ((with_reducible refine gate_dst (N := 11) rfl ?_); refine box_event ?hg (N := 11) ?hd (cs := #[.string (⟨#[]⟩ : ByteArray), .string (⟨#[]⟩ : ByteArray), .string (⟨#[]⟩ : ByteArray)]) (t := 61) ?hr ?_; (case hd => rfl); (case hg => rfl); (case hr => first | (go_simp; done) | (go_simp; rfl)); intro gb512 hg w45 hbox hb; have n0_ := Aside0.mk (blk_below (g := gb499) (o := .cells #[.string t495, .string t496, .string t497] 61 (0, 0)) (by (with_reducible repeat (first | refine blk_drewN ?_ _ | refine blk_drew ?_ | refine blk_alloc ?_ _)); exact BK499.out) hb); have n1_ := Aside0.mk (below_step (by repeat (first | (with_reducible first | exact HB.out | apply below_alloc | apply pw_below_drewN | apply below_drew1 | refine below_set ?_ GE499.out) | exact HB.out)) hb); have n2_ := Aside0.mk (hbox); have n3_ := Aside0.mk ((by rw [hg]; exact (below_size (by repeat (first | (with_reducible first | exact HB.out | apply below_alloc | apply pw_below_drewN | apply below_drew1 | refine below_set ?_ GE499.out) | exact HB.out))) : w.heap.size ≤ gb512)); have n4_ := Aside0.mk ((by rw [hg]; exact (below_size (by repeat (first | (with_reducible first | exact HB.out | apply below_alloc | apply pw_below_drewN | apply below_drew1 | refine below_set ?_ GE499.out) | exact HB.out))) : w.heap.size ≤ gb512)); have n5_ := Aside0.mk ((by rw [hg]; exact Nat.ne_of_lt (blk_lt (g := gb499) (o := .cells #[.string t495, .string t496, .string t497] 61 (0, 0)) (by (with_reducible repeat (first | refine blk_drewN ?_ _ | refine blk_drew ?_ | refine blk_alloc ?_ _)); exact BK499.out)) : gb499 ≠ gb512)); have n6_ := Aside0.mk ((by rw [hg]; exact Nat.ne_of_gt (blk_lt (g := gb499) (o := .cells #[.string t495, .string t496, .string t497] 61 (0, 0)) (by (with_reducible repeat (first | refine blk_drewN ?_ _ | refine blk_drew ?_ | refine blk_alloc ?_ _)); exact BK499.out)) : gb512 ≠ gb499)); clear BK499; clear HB; have BK499 := n0_; have HB := n1_; have BK512 := n2_; have GW512 := n3_; have GE512 := n4_; have NB499_512 := n5_; have NB512_499 := n6_; clear n0_ n1_ n2_ n3_ n4_ n5_ n6_; clear hb hbox hg; have hnb46 := NB512_499.out; have hnc46 := NB499_512.out; have hcz47_0 : w45.cell? ⟨gb512, 0, none⟩ = some (.string (⟨#[]⟩ : ByteArray)) := (blk_cell BK512.out 0).trans rfl; have hcz47_1 : w45.cell? ⟨gb512, 1, none⟩ = some (.string (⟨#[]⟩ : ByteArray)) := (blk_cell BK512.out 1).trans rfl; have hcz47_2 : w45.cell? ⟨gb512, 2, none⟩ = some (.string (⟨#[]⟩ : ByteArray)) := (blk_cell BK512.out 2).trans rfl; have hfz47_0 := blk_frozen BK512.out 0; have hfz47_1 := blk_frozen BK512.out 1; have hfz47_2 := blk_frozen BK512.out 2; have hcz48_0 : w45.cell? ⟨gb499, 0, none⟩ = some (.string t495) := (blk_cell BK499.out 0).trans rfl; have hcz48_1 : w45.cell? ⟨gb499, 1, none⟩ = some (.string t496) := (blk_cell BK499.out 1).trans rfl; have hcz48_2 : w45.cell? ⟨gb499, 2, none⟩ = some (.string t497) := (blk_cell BK499.out 2).trans rfl; have hfz48_0 := blk_frozen BK499.out 0; have hfz48_1 := blk_frozen BK499.out 1; have hfz48_2 := blk_frozen BK499.out 2) | (go_at_call 24; (with_reducible refine (numnahlaw08_awake.calls kj26  t513 _ A43.out).mono ?_); rintro e w49 ⟨rfl, hb⟩; have n0_ := Aside0.mk (blk_below (g := gb499) (o := .cells #[.string t495, .string t496, .string t497] 61 (0, 0)) (by (with_reducible repeat (first | refine blk_drewN ?_ _ | refine blk_drew ?_ | refine blk_alloc ?_ _)); refine blk_far ?_ NB499_512.out _; (with_reducible repeat (first | refine blk_drewN ?_ _ | refine blk_drew ?_ | refine blk_alloc ?_ _)); refine blk_far ?_ NB499_512.out _; (with_reducible repeat (first | refine blk_drewN ?_ _ | refine blk_drew ?_ | refine blk_alloc ?_ _)); refine blk_far ?_ NB499_512.out _; (with_reducible repeat (first | refine blk_drewN ?_ _ | refine blk_drew ?_ | refine blk_alloc ?_ _)); exact BK499.out) hb); have n1_ := Aside0.mk (blk_below (g := gb512) (o := .cells #[.string t508, .string t509, .string t510] 61 (0, 0)) (by (with_reducible repeat (first | refine blk_drewN ?_ _ | refine blk_drew ?_ | refine blk_alloc ?_ _)); refine blk_put (cs := #[.string t508, .string t509, .string (⟨#[]⟩ : ByteArray)]) ?_ 2 _ rfl; (with_reducible repeat (first | refine blk_drewN ?_ _ | refine blk_drew ?_ | refine blk_alloc ?_ _)); refine blk_put (cs := #[.string t508, .string (⟨#[]⟩ : ByteArray), .string (⟨#[]⟩ : ByteArray)]) ?_ 1 _ rfl; (with_reducible repeat (first | refine blk_drewN ?_ _ | refine blk_drew ?_ | refine blk_alloc ?_ _)); refine blk_put (cs := #[.string (⟨#[]⟩ : ByteArray), .string (⟨#[]⟩ : ByteArray), .string (⟨#[]⟩ : ByteArray)]) ?_ 0 _ rfl; (with_reducible repeat (first | refine blk_drewN ?_ _ | refine blk_drew ?_ | refine blk_alloc ?_ _)); exact BK512.out) hb); have n2_ := Aside0.mk (below_step (by repeat (first | (with_reducible first | exact HB.out | apply below_alloc | apply pw_below_drewN | apply below_drew1 | refine below_set ?_ GE499.out | refine below_set ?_ GE512.out) | exact HB.out)) hb); clear BK499; clear BK512; clear HB; have BK499 := n0_; have BK512 := n1_; have HB := n2_; clear n0_ n1_ n2_; (try clear hb); (try clear hb2); (try clear hk); (try clear hi)))
                    go_ret
                    exact ⟨by first | rfl | (simp [errW_none, errW_some] <;> rfl) | (simp [*, errW_none, errW_some] <;> rfl), by repeat (first | (with_reducible first | exact HB.out | apply below_alloc | apply pw_below_drewN | apply below_drew1 | refine below_set ?_ GE499.out | refine below_set ?_ GE512.out) | exact HB.out)⟩
                  · rw [if_neg c42] at H
                    have c42b0 : (t498 == 0) = false := beq_eq_false_iff_ne.mpr c42
                    have c42b1 : (t498 != 0) = true := bne_iff_ne.mpr c42
                    obtain rfl := Option.some.inj H
                    go_wp2_with (first | ((with_reducible refine gate_callee (f := 48) rfl ?_); refine goesL_ (some 74) rfl rfl Tryz.func48 (by kernel_rfl) rfl #[.string t491, .string t492] rfl (by (try simp only [List.map_toArray, List.map_cons, List.map_nil]); first | done | rfl | (simp only [List.length_drop, List.length_take]; rfl)) ?_; (with_reducible refine (numnahref08_Match.calls t491 t492 t508 t509 t510 true _ A39.out).mono ?_); rintro e w50 ⟨rfl, hb⟩; refine ⟨_, rfl, ?_⟩; have n0_ := Aside0.mk (blk_below (g := gb499) (o := .cells #[.string t495, .string t496, .string t497] 61 (0, 0)) (by (with_reducible repeat (first | refine blk_drewN ?_ _ | refine blk_drew ?_ | refine blk_alloc ?_ _)); exact BK499.out) hb); have n1_ := Aside0.mk (below_step (by repeat (first | (with_reducible first | exact HB.out | apply below_alloc | apply pw_below_drewN | apply below_drew1 | refine below_set ?_ GE499.out) | exact HB.out)) hb); clear BK499; clear HB; have BK499 := n0_; have HB := n1_; clear n0_ n1_; (try clear hb); (try clear hb2); (try clear hk); (try clear hi)) | ((with_reducible refine gate_dst (N := 11) rfl ?_); refine box_event ?hg (N := 11) ?hd (cs := #[.string (⟨#[]⟩ : ByteArray), .string (⟨#[]⟩ : ByteArray), .string (⟨#[]⟩ : ByteArray)]) (t := 61) ?hr ?_; (case hd => rfl); (case hg => rfl); (case hr => first | (go_simp; done) | (go_simp; rfl)); intro gb512 hg w51 hbox hb; have n0_ := Aside0.mk (blk_below (g := gb499) (o := .cells #[.string t495, .string t496, .string t497] 61 (0, 0)) (by (with_reducible repeat (first | refine blk_drewN ?_ _ | refine blk_drew ?_ | refine blk_alloc ?_ _)); exact BK499.out) hb); have n1_ := Aside0.mk (below_step (by repeat (first | (with_reducible first | exact HB.out | apply below_alloc | apply pw_below_drewN | apply below_drew1 | refine below_set ?_ GE499.out) | exact HB.out)) hb); have n2_ := Aside0.mk (hbox); have n3_ := Aside0.mk ((by rw [hg]; exact (below_size (by repeat (first | (with_reducible first | exact HB.out | apply below_alloc | apply pw_below_drewN | apply below_drew1 | refine below_set ?_ GE499.out) | exact HB.out))) : w.heap.size ≤ gb512)); have n4_ := Aside0.mk ((by rw [hg]; exact (below_size (by repeat (first | (with_reducible first | exact HB.out | apply below_alloc | apply pw_below_drewN | apply below_drew1 | refine below_set ?_ GE499.out) | exact HB.out))) : w.heap.size ≤ gb512)); have n5_ := Aside0.mk ((by rw [hg]; exact Nat.ne_of_lt (blk_lt (g := gb499) (o := .cells #[.string t495, .string t496, .string t497] 61 (0, 0)) (by (with_reducible repeat (first | refine blk_drewN ?_ _ | refine blk_drew ?_ | refine blk_alloc ?_ _)); exact BK499.out)) : gb499 ≠ gb512)); have n6_ := Aside0.mk ((by rw [hg]; exact Nat.ne_of_gt (blk_lt (g := gb499) (o := .cells #[.string t495, .string t496, .string t497] 61 (0, 0)) (by (with_reducible repeat (first | refine blk_drewN ?_ _ | refine blk_drew ?_ | refine blk_alloc ?_ _)); exact BK499.out)) : gb512 ≠ gb499)); clear BK499; clear HB; have BK499 := n0_; have HB := n1_; have BK512 := n2_; have GW512 := n3_; have GE512 := n4_; have NB499_512 := n5_; have NB512_499 := n6_; clear n0_ n1_ n2_ n3_ n4_ n5_ n6_; clear hb hbox hg; have hnb52 := NB512_499.out; have hnc52 := NB499_512.out; have hcz53_0 : w51.cell? ⟨gb512, 0, none⟩ = some (.string (⟨#[]⟩ : ByteArray)) := (blk_cell BK512.out 0).trans rfl; have hcz53_1 : w51.cell? ⟨gb512, 1, none⟩ = some (.string (⟨#[]⟩ : ByteArray)) := (blk_cell BK512.out 1).trans rfl; have hcz53_2 : w51.cell? ⟨gb512, 2, none⟩ = some (.string (⟨#[]⟩ : ByteArray)) := (blk_cell BK512.out 2).trans rfl; have hfz53_0 := blk_frozen BK512.out 0; have hfz53_1 := blk_frozen BK512.out 1; have hfz53_2 := blk_frozen BK512.out 2; have hcz54_0 : w51.cell? ⟨gb499, 0, none⟩ = some (.string t495) := (blk_cell BK499.out 0).trans rfl; have hcz54_1 : w51.cell? ⟨gb499, 1, none⟩ = some (.string t496) := (blk_cell BK499.out 1).trans rfl; have hcz54_2 : w51.cell? ⟨gb499, 2, none⟩ = some (.string t497) := (blk_cell BK499.out 2).trans rfl; have hfz54_0 := blk_frozen BK499.out 0; have hfz54_1 := blk_frozen BK499.out 1; have hfz54_2 := blk_frozen BK499.out 2))
                    go_ret
                    exact ⟨by first | rfl | (simp [errW_none, errW_some] <;> rfl) | (simp [*, errW_none, errW_some] <;> rfl), by repeat (first | (with_reducible first | exact HB.out | apply below_alloc | apply pw_below_drewN | apply below_drew1 | refine below_set ?_ GE499.out | refine below_set ?_ GE512.out) | exact HB.out)⟩
                · rw [if_neg c41] at H
                  have c41b0 : (t495.toList == t508.toList && (t496.toList == t509.toList && (t497.toList == t510.toList))) = false := by simpa using c41
                  (try (have c41b1 : decide (t495.toList = t508.toList && (t496.toList == t509.toList && (t497.toList == t510.toList))) = false := by simpa using c41))
                  (try (have c41b2 : (t495.toList == t508.toList && (t496.toList == t509.toList && (t497.toList == t510.toList))) = false := by simpa using c41))
                  (try (have c41b3 : ¬ (t495.toList = t508.toList && (t496.toList == t509.toList && (t497.toList == t510.toList))) := by simpa using c41))
                  clear c41
                  obtain rfl := Option.some.inj H
                  go_wp2_with (first | ((with_reducible refine gate_callee (f := 48) rfl ?_); refine goesL_ (some 74) rfl rfl Tryz.func48 (by kernel_rfl) rfl #[.string t491, .string t492] rfl (by (try simp only [List.map_toArray, List.map_cons, List.map_nil]); first | done | rfl | (simp only [List.length_drop, List.length_take]; rfl)) ?_; (with_reducible refine (numnahref08_Match.calls t491 t492 t508 t509 t510 true _ A39.out).mono ?_); rintro e w55 ⟨rfl, hb⟩; refine ⟨_, rfl, ?_⟩; have n0_ := Aside0.mk (blk_below (g := gb499) (o := .cells #[.string t495, .string t496, .string t497] 61 (0, 0)) (by (with_reducible repeat (first | refine blk_drewN ?_ _ | refine blk_drew ?_ | refine blk_alloc ?_ _)); exact BK499.out) hb); have n1_ := Aside0.mk (below_step (by repeat (first | (with_reducible first | exact HB.out | apply below_alloc | apply pw_below_drewN | apply below_drew1 | refine below_set ?_ GE499.out) | exact HB.out)) hb); clear BK499; clear HB; have BK499 := n0_; have HB := n1_; clear n0_ n1_; (try clear hb); (try clear hb2); (try clear hk); (try clear hi)) | ((with_reducible refine gate_dst (N := 11) rfl ?_); refine box_event ?hg (N := 11) ?hd (cs := #[.string (⟨#[]⟩ : ByteArray), .string (⟨#[]⟩ : ByteArray), .string (⟨#[]⟩ : ByteArray)]) (t := 61) ?hr ?_; (case hd => rfl); (case hg => rfl); (case hr => first | (go_simp; done) | (go_simp; rfl)); intro gb512 hg w56 hbox hb; have n0_ := Aside0.mk (blk_below (g := gb499) (o := .cells #[.string t495, .string t496, .string t497] 61 (0, 0)) (by (with_reducible repeat (first | refine blk_drewN ?_ _ | refine blk_drew ?_ | refine blk_alloc ?_ _)); exact BK499.out) hb); have n1_ := Aside0.mk (below_step (by repeat (first | (with_reducible first | exact HB.out | apply below_alloc | apply pw_below_drewN | apply below_drew1 | refine below_set ?_ GE499.out) | exact HB.out)) hb); have n2_ := Aside0.mk (hbox); have n3_ := Aside0.mk ((by rw [hg]; exact (below_size (by repeat (first | (with_reducible first | exact HB.out | apply below_alloc | apply pw_below_drewN | apply below_drew1 | refine below_set ?_ GE499.out) | exact HB.out))) : w.heap.size ≤ gb512)); have n4_ := Aside0.mk ((by rw [hg]; exact (below_size (by repeat (first | (with_reducible first | exact HB.out | apply below_alloc | apply pw_below_drewN | apply below_drew1 | refine below_set ?_ GE499.out) | exact HB.out))) : w.heap.size ≤ gb512)); have n5_ := Aside0.mk ((by rw [hg]; exact Nat.ne_of_lt (blk_lt (g := gb499) (o := .cells #[.string t495, .string t496, .string t497] 61 (0, 0)) (by (with_reducible repeat (first | refine blk_drewN ?_ _ | refine blk_drew ?_ | refine blk_alloc ?_ _)); exact BK499.out)) : gb499 ≠ gb512)); have n6_ := Aside0.mk ((by rw [hg]; exact Nat.ne_of_gt (blk_lt (g := gb499) (o := .cells #[.string t495, .string t496, .string t497] 61 (0, 0)) (by (with_reducible repeat (first | refine blk_drewN ?_ _ | refine blk_drew ?_ | refine blk_alloc ?_ _)); exact BK499.out)) : gb512 ≠ gb499)); clear BK499; clear HB; have BK499 := n0_; have HB := n1_; have BK512 := n2_; have GW512 := n3_; have GE512 := n4_; have NB499_512 := n5_; have NB512_499 := n6_; clear n0_ n1_ n2_ n3_ n4_ n5_ n6_; clear hb hbox hg; have hnb57 := NB512_499.out; have hnc57 := NB499_512.out; have hcz58_0 : w56.cell? ⟨gb512, 0, none⟩ = some (.string (⟨#[]⟩ : ByteArray)) := (blk_cell BK512.out 0).trans rfl; have hcz58_1 : w56.cell? ⟨gb512, 1, none⟩ = some (.string (⟨#[]⟩ : ByteArray)) := (blk_cell BK512.out 1).trans rfl; have hcz58_2 : w56.cell? ⟨gb512, 2, none⟩ = some (.string (⟨#[]⟩ : ByteArray)) := (blk_cell BK512.out 2).trans rfl; have hfz58_0 := blk_frozen BK512.out 0; have hfz58_1 := blk_frozen BK512.out 1; have hfz58_2 := blk_frozen BK512.out 2; have hcz59_0 : w56.cell? ⟨gb499, 0, none⟩ = some (.string t495) := (blk_cell BK499.out 0).trans rfl; have hcz59_1 : w56.cell? ⟨gb499, 1, none⟩ = some (.string t496) := (blk_cell BK499.out 1).trans rfl; have hcz59_2 : w56.cell? ⟨gb499, 2, none⟩ = some (.string t497) := (blk_cell BK499.out 2).trans rfl; have hfz59_0 := blk_frozen BK499.out 0; have hfz59_1 := blk_frozen BK499.out 1; have hfz59_2 := blk_frozen BK499.out 2))
                  go_ret
                  exact ⟨by first | rfl | (simp [errW_none, errW_some] <;> rfl) | (simp [*, errW_none, errW_some] <;> rfl), by repeat (first | (with_reducible first | exact HB.out | apply below_alloc | apply pw_below_drewN | apply below_drew1 | refine below_set ?_ GE499.out | refine below_set ?_ GE512.out) | exact HB.out)⟩
              · replace c40 := Bool.eq_false_iff.mpr c40
                subst c40
                have H1 : (if (t495.toList == ([] : List UInt8) && (t496.toList == ([] : List UInt8) && (t497.toList == ([] : List UInt8)))) = true then (if t498 = 6 then ((numnahlaw08_awake.f kj26).bind fun t514 => (some t514)) else (some false)) else (some false)) = some r := by rw [if_neg (show ¬ (false = true) by decide)] at H; exact H
                clear H
                have H := H1
                clear H1
                by_cases c60 : (t495.toList == ([] : List UInt8) && (t496.toList == ([] : List UInt8) && (t497.toList == ([] : List UInt8)))) = true
                · rw [if_pos c60] at H
                  have c60b0 : (t495.toList == ([] : List UInt8) && (t496.toList == ([] : List UInt8) && (t497.toList == ([] : List UInt8)))) = true := c60
                  (try (have c60b1 : decide (t495.toList = ([] : List UInt8) && (t496.toList == ([] : List UInt8) && (t497.toList == ([] : List UInt8)))) = true := by simpa using c60))
                  (try (have c60b2 : (t495.toList == ([] : List UInt8) && (t496.toList == ([] : List UInt8) && (t497.toList == ([] : List UInt8)))) = true := by simpa using c60))
                  have c60e : (t495.toList = [] ∧ t496.toList = [] ∧ t497.toList = []) = True := eq_true (by simpa using c60)
                  clear c60
                  by_cases c61 : t498 = 6
                  · rw [if_pos c61] at H
                    have c61b0 : (t498 == 6) = true := beq_iff_eq.mpr c61
                    have c61b1 : (t498 != 6) = false := bne_eq_false_iff_eq.mpr c61
                    clear c61
                    replace H := Option.bind_eq_some_iff.mp H
                    obtain ⟨t514, A620, H⟩ := H
                    replace H : (some t514) = some r := H
                    have A62 := Aside0.mk A620
                    clear A620
                    obtain rfl := Option.some.inj H
                    go_wp2_with (first | ((with_reducible refine gate_callee (f := 48) rfl ?_); refine goesL_ (some 74) rfl rfl Tryz.func48 (by kernel_rfl) rfl #[.string t491, .string t492] rfl (by (try simp only [List.map_toArray, List.map_cons, List.map_nil]); first | done | rfl | (simp only [List.length_drop, List.length_take]; rfl)) ?_; (with_reducible refine (numnahref08_Match.calls t491 t492 t508 t509 t510 false _ A39.out).mono ?_); rintro e w63 ⟨rfl, hb⟩; refine ⟨_, rfl, ?_⟩; have n0_ := Aside0.mk (blk_below (g := gb499) (o := .cells #[.string t495, .string t496, .string t497] 61 (0, 0)) (by (with_reducible repeat (first | refine blk_drewN ?_ _ | refine blk_drew ?_ | refine blk_alloc ?_ _)); exact BK499.out) hb); have n1_ := Aside0.mk (below_step (by repeat (first | (with_reducible first | exact HB.out | apply below_alloc | apply pw_below_drewN | apply below_drew1 | refine below_set ?_ GE499.out) | exact HB.out)) hb); clear BK499; clear HB; have BK499 := n0_; have HB := n1_; clear n0_ n1_; (try clear hb); (try clear hb2); (try clear hk); (try clear hi)) | ((with_reducible refine gate_dst (N := 11) rfl ?_); refine box_event ?hg (N := 11) ?hd (cs := #[.string (⟨#[]⟩ : ByteArray), .string (⟨#[]⟩ : ByteArray), .string (⟨#[]⟩ : ByteArray)]) (t := 61) ?hr ?_; (case hd => rfl); (case hg => rfl); (case hr => first | (go_simp; done) | (go_simp; rfl)); intro gb512 hg w64 hbox hb; have n0_ := Aside0.mk (blk_below (g := gb499) (o := .cells #[.string t495, .string t496, .string t497] 61 (0, 0)) (by (with_reducible repeat (first | refine blk_drewN ?_ _ | refine blk_drew ?_ | refine blk_alloc ?_ _)); exact BK499.out) hb); have n1_ := Aside0.mk (below_step (by repeat (first | (with_reducible first | exact HB.out | apply below_alloc | apply pw_below_drewN | apply below_drew1 | refine below_set ?_ GE499.out) | exact HB.out)) hb); have n2_ := Aside0.mk (hbox); have n3_ := Aside0.mk ((by rw [hg]; exact (below_size (by repeat (first | (with_reducible first | exact HB.out | apply below_alloc | apply pw_below_drewN | apply below_drew1 | refine below_set ?_ GE499.out) | exact HB.out))) : w.heap.size ≤ gb512)); have n4_ := Aside0.mk ((by rw [hg]; exact (below_size (by repeat (first | (with_reducible first | exact HB.out | apply below_alloc | apply pw_below_drewN | apply below_drew1 | refine below_set ?_ GE499.out) | exact HB.out))) : w.heap.size ≤ gb512)); have n5_ := Aside0.mk ((by rw [hg]; exact Nat.ne_of_lt (blk_lt (g := gb499) (o := .cells #[.string t495, .string t496, .string t497] 61 (0, 0)) (by (with_reducible repeat (first | refine blk_drewN ?_ _ | refine blk_drew ?_ | refine blk_alloc ?_ _)); exact BK499.out)) : gb499 ≠ gb512)); have n6_ := Aside0.mk ((by rw [hg]; exact Nat.ne_of_gt (blk_lt (g := gb499) (o := .cells #[.string t495, .string t496, .string t497] 61 (0, 0)) (by (with_reducible repeat (first | refine blk_drewN ?_ _ | refine blk_drew ?_ | refine blk_alloc ?_ _)); exact BK499.out)) : gb512 ≠ gb499)); clear BK499; clear HB; have BK499 := n0_; have HB := n1_; have BK512 := n2_; have GW512 := n3_; have GE512 := n4_; have NB499_512 := n5_; have NB512_499 := n6_; clear n0_ n1_ n2_ n3_ n4_ n5_ n6_; clear hb hbox hg; have hnb65 := NB512_499.out; have hnc65 := NB499_512.out; have hcz66_0 : w64.cell? ⟨gb512, 0, none⟩ = some (.string (⟨#[]⟩ : ByteArray)) := (blk_cell BK512.out 0).trans rfl; have hcz66_1 : w64.cell? ⟨gb512, 1, none⟩ = some (.string (⟨#[]⟩ : ByteArray)) := (blk_cell BK512.out 1).trans rfl; have hcz66_2 : w64.cell? ⟨gb512, 2, none⟩ = some (.string (⟨#[]⟩ : ByteArray)) := (blk_cell BK512.out 2).trans rfl; have hfz66_0 := blk_frozen BK512.out 0; have hfz66_1 := blk_frozen BK512.out 1; have hfz66_2 := blk_frozen BK512.out 2; have hcz67_0 : w64.cell? ⟨gb499, 0, none⟩ = some (.string t495) := (blk_cell BK499.out 0).trans rfl; have hcz67_1 : w64.cell? ⟨gb499, 1, none⟩ = some (.string t496) := (blk_cell BK499.out 1).trans rfl; have hcz67_2 : w64.cell? ⟨gb499, 2, none⟩ = some (.string t497) := (blk_cell BK499.out 2).trans rfl; have hfz67_0 := blk_frozen BK499.out 0; have hfz67_1 := blk_frozen BK499.out 1; have hfz67_2 := blk_frozen BK499.out 2) | (go_at_call 24; (with_reducible refine (numnahlaw08_awake.calls kj26  t514 _ A62.out).mono ?_); rintro e w68 ⟨rfl, hb⟩; have n0_ := Aside0.mk (blk_below (g := gb499) (o := .cells #[.string t495, .string t496, .string t497] 61 (0, 0)) (by (with_reducible repeat (first | refine blk_drewN ?_ _ | refine blk_drew ?_ | refine blk_alloc ?_ _)); refine blk_far ?_ NB499_512.out _; (with_reducible repeat (first | refine blk_drewN ?_ _ | refine blk_drew ?_ | refine blk_alloc ?_ _)); refine blk_far ?_ NB499_512.out _; (with_reducible repeat (first | refine blk_drewN ?_ _ | refine blk_drew ?_ | refine blk_alloc ?_ _)); refine blk_far ?_ NB499_512.out _; (with_reducible repeat (first | refine blk_drewN ?_ _ | refine blk_drew ?_ | refine blk_alloc ?_ _)); exact BK499.out) hb); have n1_ := Aside0.mk (blk_below (g := gb512) (o := .cells #[.string t508, .string t509, .string t510] 61 (0, 0)) (by (with_reducible repeat (first | refine blk_drewN ?_ _ | refine blk_drew ?_ | refine blk_alloc ?_ _)); refine blk_put (cs := #[.string t508, .string t509, .string (⟨#[]⟩ : ByteArray)]) ?_ 2 _ rfl; (with_reducible repeat (first | refine blk_drewN ?_ _ | refine blk_drew ?_ | refine blk_alloc ?_ _)); refine blk_put (cs := #[.string t508, .string (⟨#[]⟩ : ByteArray), .string (⟨#[]⟩ : ByteArray)]) ?_ 1 _ rfl; (with_reducible repeat (first | refine blk_drewN ?_ _ | refine blk_drew ?_ | refine blk_alloc ?_ _)); refine blk_put (cs := #[.string (⟨#[]⟩ : ByteArray), .string (⟨#[]⟩ : ByteArray), .string (⟨#[]⟩ : ByteArray)]) ?_ 0 _ rfl; (with_reducible repeat (first | refine blk_drewN ?_ _ | refine blk_drew ?_ | refine blk_alloc ?_ _)); exact BK512.out) hb); have n2_ := Aside0.mk (below_step (by repeat (first | (with_reducible first | exact HB.out | apply below_alloc | apply pw_below_drewN | apply below_drew1 | refine below_set ?_ GE499.out | refine below_set ?_ GE512.out) | exact HB.out)) hb); clear BK499; clear BK512; clear HB; have BK499 := n0_; have BK512 := n1_; have HB := n2_; clear n0_ n1_ n2_; (try clear hb); (try clear hb2); (try clear hk); (try clear hi)))
                    go_ret
                    exact ⟨by first | rfl | (simp [errW_none, errW_some] <;> rfl) | (simp [*, errW_none, errW_some] <;> rfl), by repeat (first | (with_reducible first | exact HB.out | apply below_alloc | apply pw_below_drewN | apply below_drew1 | refine below_set ?_ GE499.out | refine below_set ?_ GE512.out) | exact HB.out)⟩
                  · rw [if_neg c61] at H
                    have c61b0 : (t498 == 6) = false := beq_eq_false_iff_ne.mpr c61
                    have c61b1 : (t498 != 6) = true := bne_iff_ne.mpr c61
                    obtain rfl := Option.some.inj H
                    go_wp2_with (first | ((with_reducible refine gate_callee (f := 48) rfl ?_); refine goesL_ (some 74) rfl rfl Tryz.func48 (by kernel_rfl) rfl #[.string t491, .string t492] rfl (by (try simp only [List.map_toArray, List.map_cons, List.map_nil]); first | done | rfl | (simp only [List.length_drop, List.length_take]; rfl)) ?_; (with_reducible refine (numnahref08_Match.calls t491 t492 t508 t509 t510 false _ A39.out).mono ?_); rintro e w69 ⟨rfl, hb⟩; refine ⟨_, rfl, ?_⟩; have n0_ := Aside0.mk (blk_below (g := gb499) (o := .cells #[.string t495, .string t496, .string t497] 61 (0, 0)) (by (with_reducible repeat (first | refine blk_drewN ?_ _ | refine blk_drew ?_ | refine blk_alloc ?_ _)); exact BK499.out) hb); have n1_ := Aside0.mk (below_step (by repeat (first | (with_reducible first | exact HB.out | apply below_alloc | apply pw_below_drewN | apply below_drew1 | refine below_set ?_ GE499.out) | exact HB.out)) hb); clear BK499; clear HB; have BK499 := n0_; have HB := n1_; clear n0_ n1_; (try clear hb); (try clear hb2); (try clear hk); (try clear hi)) | ((with_reducible refine gate_dst (N := 11) rfl ?_); refine box_event ?hg (N := 11) ?hd (cs := #[.string (⟨#[]⟩ : ByteArray), .string (⟨#[]⟩ : ByteArray), .string (⟨#[]⟩ : ByteArray)]) (t := 61) ?hr ?_; (case hd => rfl); (case hg => rfl); (case hr => first | (go_simp; done) | (go_simp; rfl)); intro gb512 hg w70 hbox hb; have n0_ := Aside0.mk (blk_below (g := gb499) (o := .cells #[.string t495, .string t496, .string t497] 61 (0, 0)) (by (with_reducible repeat (first | refine blk_drewN ?_ _ | refine blk_drew ?_ | refine blk_alloc ?_ _)); exact BK499.out) hb); have n1_ := Aside0.mk (below_step (by repeat (first | (with_reducible first | exact HB.out | apply below_alloc | apply pw_below_drewN | apply below_drew1 | refine below_set ?_ GE499.out) | exact HB.out)) hb); have n2_ := Aside0.mk (hbox); have n3_ := Aside0.mk ((by rw [hg]; exact (below_size (by repeat (first | (with_reducible first | exact HB.out | apply below_alloc | apply pw_below_drewN | apply below_drew1 | refine below_set ?_ GE499.out) | exact HB.out))) : w.heap.size ≤ gb512)); have n4_ := Aside0.mk ((by rw [hg]; exact (below_size (by repeat (first | (with_reducible first | exact HB.out | apply below_alloc | apply pw_below_drewN | apply below_drew1 | refine below_set ?_ GE499.out) | exact HB.out))) : w.heap.size ≤ gb512)); have n5_ := Aside0.mk ((by rw [hg]; exact Nat.ne_of_lt (blk_lt (g := gb499) (o := .cells #[.string t495, .string t496, .string t497] 61 (0, 0)) (by (with_reducible repeat (first | refine blk_drewN ?_ _ | refine blk_drew ?_ | refine blk_alloc ?_ _)); exact BK499.out)) : gb499 ≠ gb512)); have n6_ := Aside0.mk ((by rw [hg]; exact Nat.ne_of_gt (blk_lt (g := gb499) (o := .cells #[.string t495, .string t496, .string t497] 61 (0, 0)) (by (with_reducible repeat (first | refine blk_drewN ?_ _ | refine blk_drew ?_ | refine blk_alloc ?_ _)); exact BK499.out)) : gb512 ≠ gb499)); clear BK499; clear HB; have BK499 := n0_; have HB := n1_; have BK512 := n2_; have GW512 := n3_; have GE512 := n4_; have NB499_512 := n5_; have NB512_499 := n6_; clear n0_ n1_ n2_ n3_ n4_ n5_ n6_; clear hb hbox hg; have hnb71 := NB512_499.out; have hnc71 := NB499_512.out; have hcz72_0 : w70.cell? ⟨gb512, 0, none⟩ = some (.string (⟨#[]⟩ : ByteArray)) := (blk_cell BK512.out 0).trans rfl; have hcz72_1 : w70.cell? ⟨gb512, 1, none⟩ = some (.string (⟨#[]⟩ : ByteArray)) := (blk_cell BK512.out 1).trans rfl; have hcz72_2 : w70.cell? ⟨gb512, 2, none⟩ = some (.string (⟨#[]⟩ : ByteArray)) := (blk_cell BK512.out 2).trans rfl; have hfz72_0 := blk_frozen BK512.out 0; have hfz72_1 := blk_frozen BK512.out 1; have hfz72_2 := blk_frozen BK512.out 2; have hcz73_0 : w70.cell? ⟨gb499, 0, none⟩ = some (.string t495) := (blk_cell BK499.out 0).trans rfl; have hcz73_1 : w70.cell? ⟨gb499, 1, none⟩ = some (.string t496) := (blk_cell BK499.out 1).trans rfl; have hcz73_2 : w70.cell? ⟨gb499, 2, none⟩ = some (.string t497) := (blk_cell BK499.out 2).trans rfl; have hfz73_0 := blk_frozen BK499.out 0; have hfz73_1 := blk_frozen BK499.out 1; have hfz73_2 := blk_frozen BK499.out 2))
                    go_ret
                    exact ⟨by first | rfl | (simp [errW_none, errW_some] <;> rfl) | (simp [*, errW_none, errW_some] <;> rfl), by repeat (first | (with_reducible first | exact HB.out | apply below_alloc | apply pw_below_drewN | apply below_drew1 | refine below_set ?_ GE499.out | refine below_set ?_ GE512.out) | exact HB.out)⟩
                · rw [if_neg c60] at H
                  have c60b0 : (t495.toList == ([] : List UInt8) && (t496.toList == ([] : List UInt8) && (t497.toList == ([] : List UInt8)))) = false := by simpa using c60
                  (try (have c60b1 : decide (t495.toList = ([] : List UInt8) && (t496.toList == ([] : List UInt8) && (t497.toList == ([] : List UInt8)))) = false := by simpa using c60))
                  (try (have c60b2 : (t495.toList == ([] : List UInt8) && (t496.toList == ([] : List UInt8) && (t497.toList == ([] : List UInt8)))) = false := by simpa using c60))
                  have c60e : (t495.toList = [] ∧ t496.toList = [] ∧ t497.toList = []) = False := eq_false (by simpa using c60)
                  (try (have c60b3 : ¬ (t495.toList = ([] : List UInt8) && (t496.toList == ([] : List UInt8) && (t497.toList == ([] : List UInt8)))) := by simpa using c60))
                  clear c60
                  obtain rfl := Option.some.inj H
                  go_wp2_with (first | ((with_reducible refine gate_callee (f := 48) rfl ?_); refine goesL_ (some 74) rfl rfl Tryz.func48 (by kernel_rfl) rfl #[.string t491, .string t492] rfl (by (try simp only [List.map_toArray, List.map_cons, List.map_nil]); first | done | rfl | (simp only [List.length_drop, List.length_take]; rfl)) ?_; (with_reducible refine (numnahref08_Match.calls t491 t492 t508 t509 t510 false _ A39.out).mono ?_); rintro e w74 ⟨rfl, hb⟩; refine ⟨_, rfl, ?_⟩; have n0_ := Aside0.mk (blk_below (g := gb499) (o := .cells #[.string t495, .string t496, .string t497] 61 (0, 0)) (by (with_reducible repeat (first | refine blk_drewN ?_ _ | refine blk_drew ?_ | refine blk_alloc ?_ _)); exact BK499.out) hb); have n1_ := Aside0.mk (below_step (by repeat (first | (with_reducible first | exact HB.out | apply below_alloc | apply pw_below_drewN | apply below_drew1 | refine below_set ?_ GE499.out) | exact HB.out)) hb); clear BK499; clear HB; have BK499 := n0_; have HB := n1_; clear n0_ n1_; (try clear hb); (try clear hb2); (try clear hk); (try clear hi)) | ((with_reducible refine gate_dst (N := 11) rfl ?_); refine box_event ?hg (N := 11) ?hd (cs := #[.string (⟨#[]⟩ : ByteArray), .string (⟨#[]⟩ : ByteArray), .string (⟨#[]⟩ : ByteArray)]) (t := 61) ?hr ?_; (case hd => rfl); (case hg => rfl); (case hr => first | (go_simp; done) | (go_simp; rfl)); intro gb512 hg w75 hbox hb; have n0_ := Aside0.mk (blk_below (g := gb499) (o := .cells #[.string t495, .string t496, .string t497] 61 (0, 0)) (by (with_reducible repeat (first | refine blk_drewN ?_ _ | refine blk_drew ?_ | refine blk_alloc ?_ _)); exact BK499.out) hb); have n1_ := Aside0.mk (below_step (by repeat (first | (with_reducible first | exact HB.out | apply below_alloc | apply pw_below_drewN | apply below_drew1 | refine below_set ?_ GE499.out) | exact HB.out)) hb); have n2_ := Aside0.mk (hbox); have n3_ := Aside0.mk ((by rw [hg]; exact (below_size (by repeat (first | (with_reducible first | exact HB.out | apply below_alloc | apply pw_below_drewN | apply below_drew1 | refine below_set ?_ GE499.out) | exact HB.out))) : w.heap.size ≤ gb512)); have n4_ := Aside0.mk ((by rw [hg]; exact (below_size (by repeat (first | (with_reducible first | exact HB.out | apply below_alloc | apply pw_below_drewN | apply below_drew1 | refine below_set ?_ GE499.out) | exact HB.out))) : w.heap.size ≤ gb512)); have n5_ := Aside0.mk ((by rw [hg]; exact Nat.ne_of_lt (blk_lt (g := gb499) (o := .cells #[.string t495, .string t496, .string t497] 61 (0, 0)) (by (with_reducible repeat (first | refine blk_drewN ?_ _ | refine blk_drew ?_ | refine blk_alloc ?_ _)); exact BK499.out)) : gb499 ≠ gb512)); have n6_ := Aside0.mk ((by rw [hg]; exact Nat.ne_of_gt (blk_lt (g := gb499) (o := .cells #[.string t495, .string t496, .string t497] 61 (0, 0)) (by (with_reducible repeat (first | refine blk_drewN ?_ _ | refine blk_drew ?_ | refine blk_alloc ?_ _)); exact BK499.out)) : gb512 ≠ gb499)); clear BK499; clear HB; have BK499 := n0_; have HB := n1_; have BK512 := n2_; have GW512 := n3_; have GE512 := n4_; have NB499_512 := n5_; have NB512_499 := n6_; clear n0_ n1_ n2_ n3_ n4_ n5_ n6_; clear hb hbox hg; have hnb76 := NB512_499.out; have hnc76 := NB499_512.out; have hcz77_0 : w75.cell? ⟨gb512, 0, none⟩ = some (.string (⟨#[]⟩ : ByteArray)) := (blk_cell BK512.out 0).trans rfl; have hcz77_1 : w75.cell? ⟨gb512, 1, none⟩ = some (.string (⟨#[]⟩ : ByteArray)) := (blk_cell BK512.out 1).trans rfl; have hcz77_2 : w75.cell? ⟨gb512, 2, none⟩ = some (.string (⟨#[]⟩ : ByteArray)) := (blk_cell BK512.out 2).trans rfl; have hfz77_0 := blk_frozen BK512.out 0; have hfz77_1 := blk_frozen BK512.out 1; have hfz77_2 := blk_frozen BK512.out 2; have hcz78_0 : w75.cell? ⟨gb499, 0, none⟩ = some (.string t495) := (blk_cell BK499.out 0).trans rfl; have hcz78_1 : w75.cell? ⟨gb499, 1, none⟩ = some (.string t496) := (blk_cell BK499.out 1).trans rfl; have hcz78_2 : w75.cell? ⟨gb499, 2, none⟩ = some (.string t497) := (blk_cell BK499.out 2).trans rfl; have hfz78_0 := blk_frozen BK499.out 0; have hfz78_1 := blk_frozen BK499.out 1; have hfz78_2 := blk_frozen BK499.out 2))
                  go_ret
                  exact ⟨by first | rfl | (simp [errW_none, errW_some] <;> rfl) | (simp [*, errW_none, errW_some] <;> rfl), by repeat (first | (with_reducible first | exact HB.out | apply below_alloc | apply pw_below_drewN | apply below_drew1 | refine below_set ?_ GE499.out | refine below_set ?_ GE512.out) | exact HB.out)⟩

/-- THE ONE PURE STATEMENT of numnahlaw08_RulesTerms: yours. -/
def numnahlaw08_RulesTerms.Pure : Prop := ∀ (a0 : ByteArray) (a1 : ByteArray), a0.size ≤ 140737488351232 → a1.size ≤ 140737488351232 → ∃ k, numnahlaw08_RulesTerms.f k a0 a1 = some true
theorem numnahlaw08_RulesTerms.walk (P : numnahlaw08_RulesTerms.Pure) (a0 : ByteArray) (a1 : ByteArray) (w : World) (w0 : a0.size ≤ 140737488351232) (w1 : a1.size ≤ 140737488351232) :
    Calls Tryz.prog 11 #[.string a0, .string a1] w fun e w' => e = .returned (.bool true) ∧ Below w.heap.size w w' := by
  obtain ⟨k, h⟩ := P a0 a1 w0 w1
  refine (numnahlaw08_RulesTerms.calls k a0 a1 true w h).mono ?_
  rintro e w' ⟨rfl, hd⟩
  exact ⟨rfl, hd⟩

end Go.Proofs.YtaafeallcaiooaaGreat.Pr
