-- Laid by wip/tools/inj.py of this project, which drives the kit's printer. Lean checks it.
import Derived.Test.YtpeeflkodpnbpaaDoorPr0
import Derived.Test.YtpeeflkodpnbpaaDoorHTame
import Derived.Lib.OthersKept
import Derived.Test.YtpeeflkodpnbpaaDoorHEarl
import Derived.Test.YtpeeflkodpnbpaaDoorHCheP
import Derived.Test.YtpeeflkodpnbpaaDoorHCopy
import Derived.Test.YtpeeflkodpnbpaaDoorPrB16
import Derived.Test.YtpeeflkodpnbpaaDoorPrB19
namespace Go.Proofs.YtpeeflkodpnbpaaDoor.Pr
open Go.RowKit Go.Proofs.YtpeeflkodpnbpaaDoorW.PrintWords Go.Proofs.YtpeeflkodpnbpaaDoorW.PrintLast Go.Proofs.YtpeeflkodpnbpaaDoorW.PrintMore
attribute [local go_sem] max2_int min2_int max_two min_two max_three min_three max_four min_four   -- for this text's walks alone
set_option linter.unusedVariables false
set_option linter.unusedSimpArgs false

/-! ### a string's iterator beside slices -/
theorem R_iter {α : Type} {d : Kd α} {e base : Nat} {ok : Nat → Prop} {w : World} {v : Value} {xs : List α} {g p : Nat} {s : ByteArray} (h : d.R e w base ok v xs) (hk : w.heap[g]? = some (.stringIter s p)) (p' : Nat) : d.R e (w.iterAt g s p') base ok v xs := by
  refine Kd.R_mono (Kd.R_step (Kd.R_bound h) (fun k hh _ => ?_)) (fun _ hh => hh.1)
  obtain ⟨_, _, _, q, _, cells, hc⟩ := hh
  refine Lib.iterAt_other w g k s p' (fun e => ?_)
  rw [e, hk] at hc
  cases hc
theorem iter_grown {α : Type} {d : Kd α} {e base : Nat} {ok : Nat → Prop} {w w1 : World} {v : Value} {xs : List α} {g p : Nat} {s : ByteArray} (h : d.R e w base ok v xs) (hk : w.heap[g]? = some (.stringIter s p)) (hg : w.grownBy w1 v.ownBlock) : w1.heap[g]? = some (.stringIter s p) := by
  rw [hg.block g (Array.getElem?_eq_some_iff.1 hk).1 (fun e => ?_)]
  · exact hk
  · obtain ⟨cells, hc⟩ := Kd.R_typed h g e.symm
    rw [hk] at hc
    cases hc
theorem wr_next (p : Nat) (h : p < 1000) : wrap64 ((p : Int) + 1) = ((p + 1 : Nat) : Int) := (wr (by omega) (by omega)).trans (by omega)
theorem word_ascii (s : ByteArray) (h : isWordP s) (i : Nat) (hi : i < s.size) : (s[i]'hi).toNat < 128 := by
  have h1 := (h.2 i hi).2
  have e : s.get! i = s[i]'hi := by
    simp [ByteArray.get!, getElem!_pos, hi]
    rfl
  rw [e] at h1
  omega
theorem tame_word (k : Nat) (a0 s : ByteArray) (hz : a0.size ≤ 140737488351232) (h : numnahlaw09_tame.f k a0 160 = some s) : isWordC s = true := by
  obtain ⟨s', _, hw, K, hK⟩ := tame_ev a0 hz 160 (by omega)
  have up : ∀ n, numnahlaw09_tame.f (k + n) a0 160 = some s := by
    intro n
    induction n with
    | zero => exact h
    | succ n ih => exact numnahlaw09_tame.mono _ _ _ s ih
  have h1 := up K
  have h2 : numnahlaw09_tame.f (k + K) a0 160 = some s' := hK (k + K) (by omega)
  rw [h1] at h2
  obtain rfl := Option.some.inj h2
  exact hw

/-! ### numnahlaw09_ParseGreedy: function 18 -/
def numnahlaw09_ParseGreedy.l0 : Nat → Int → Int → ByteArray → List (S63) → Int → Int → Int → Int → Int → Int → Int → Int → Int → List (S63) → Int → Option (Bool)
 | 0, _, _, _, _, _, _, _, _, _, _, _, _, _, _, _ => none
 | k + 1, x1, x2, x7, x8, x9, x11, x12, x13, x14, x16, x17, x18, x19, x20, x65 => if x65 < (x7.size : Int) then (if x20.length < 8796093022208 then (numnahlaw09_ParseGreedy.l0 k x1 x2 x7 x8 x9 x11 x12 x13 x14 x16 x17 x18 x19 (x20 ++ [(⟨(-1), 1⟩ : S63)]) (wrap64 (x65 + 1))) else (none)) else ((parse_Cost.f k x7 x20 x1 x2).bind fun bt856 => (if x9 = 0 then (if x12 = 0 then (if x14 = 0 then (if x17 = 0 then (if x19 = 0 then (if bt856.2 = 0 then (if x11 = (x8.length : Int) then (if x13 = (x8.length : Int) then (if x16 ≤ x18 then (if x16 ≤ bt856.1 then (if bt856.1 = (wrap64 (x1 * (x7.size : Int))) then ((numnahlaw09_awake.f k).bind fun t858 => (some t858)) else (some false)) else (some false)) else (some false)) else (some false)) else (some false)) else (some false)) else (some false)) else (some false)) else (some false)) else (some false)) else (some false)))
def numnahlaw09_ParseGreedy.f (k : Nat) (a0 : ByteArray) (a1 : Int) (a2 : Int) : Option (Bool) := (numnahlaw09_tame.f k a0 160).bind fun t832 => ((numnahlaw09_mod.f a1 100).bind fun t833 => ((numnahlaw09_mod.f a2 100).bind fun t834 => ((parse_Copying.f t832).bind fun bt835 => ((parse_Cheapest.f t832 1 1).bind fun bt839 => ((parse_Cost.f k t832 bt835.1 1 1).bind fun bt844 => ((parse_Cheapest.f t832 (wrap64 (1 + t833)) (wrap64 (1 + t834))).bind fun bt846 => ((parse_Cost.f k t832 bt835.1 (wrap64 (1 + t833)) (wrap64 (1 + t834))).bind fun bt851 => (numnahlaw09_ParseGreedy.l0 k (wrap64 (1 + t833)) (wrap64 (1 + t834)) t832 bt835.1 bt835.2 bt839.2.1 bt839.2.2 bt844.1 bt844.2 bt846.2.1 bt846.2.2 bt851.1 bt851.2 ([] : List (S63)) 0))))))))
theorem numnahlaw09_ParseGreedy.mono_l : ∀ k, (∀ y0 y1 y2 y3 y4 y5 y6 y7 y8 y9 y10 y11 y12 y13 y14, LeO (numnahlaw09_ParseGreedy.l0 k y0 y1 y2 y3 y4 y5 y6 y7 y8 y9 y10 y11 y12 y13 y14) (numnahlaw09_ParseGreedy.l0 (k + 1) y0 y1 y2 y3 y4 y5 y6 y7 y8 y9 y10 y11 y12 y13 y14))
 | 0 => fun _ _ _ _ _ _ _ _ _ _ _ _ _ _ _ r h => by simp [numnahlaw09_ParseGreedy.l0] at h
 | k + 1 => by
  have ih0 := numnahlaw09_ParseGreedy.mono_l k
  ·intro y0 y1 y2 y3 y4 y5 y6 y7 y8 y9 y10 y11 y12 y13 y14
   unfold numnahlaw09_ParseGreedy.l0
   repeat' first
   | (with_reducible exact ih0 _ _ _ _ _ _ _ _ _ _ _ _ _ _ _)
   | (with_reducible exact numnahlaw09_awake.mono _)
   | (with_reducible exact numnahlaw09_tame.mono _ _ _)
   | (with_reducible exact parse_Cost.mono _ _ _ _ _)
   | (with_reducible exact LeO.refl _)
   | (with_reducible exact LeO.none _)
   | (with_reducible refine LeO.ite ?_ ?_)
   | (with_reducible refine LeO.bind ?_ (fun _ => ?_))
   | exact ih0 _ _ _ _ _ _ _ _ _ _ _ _ _ _ _
   | exact numnahlaw09_awake.mono _
   | exact numnahlaw09_tame.mono _ _ _
   | exact parse_Cost.mono _ _ _ _ _
   | exact LeO.none _
   | refine LeO.ite ?_ ?_
   | refine LeO.bind ?_ (fun _ => ?_)
theorem numnahlaw09_ParseGreedy.mono : ∀ a0 a1 a2 k, LeO (numnahlaw09_ParseGreedy.f k a0 a1 a2) (numnahlaw09_ParseGreedy.f (k + 1) a0 a1 a2) := by
 intro a0 a1 a2 k
 have ih0 := numnahlaw09_ParseGreedy.mono_l k
 unfold numnahlaw09_ParseGreedy.f
 repeat' first
   | (with_reducible exact ih0 _ _ _ _ _ _ _ _ _ _ _ _ _ _ _)
   | (with_reducible exact numnahlaw09_awake.mono _)
   | (with_reducible exact numnahlaw09_tame.mono _ _ _)
   | (with_reducible exact parse_Cost.mono _ _ _ _ _)
   | (with_reducible exact LeO.refl _)
   | (with_reducible exact LeO.none _)
   | (with_reducible refine LeO.ite ?_ ?_)
   | (with_reducible refine LeO.bind ?_ (fun _ => ?_))
   | exact ih0 _ _ _ _ _ _ _ _ _ _ _ _ _ _ _
   | exact numnahlaw09_awake.mono _
   | exact numnahlaw09_tame.mono _ _ _
   | exact parse_Cost.mono _ _ _ _ _
   | exact LeO.none _
   | refine LeO.ite ?_ ?_
   | refine LeO.bind ?_ (fun _ => ?_)
set_option maxHeartbeats 8000000 in
set_option maxRecDepth 100000 in
theorem numnahlaw09_ParseGreedy.calls (k : Nat) (a0 : ByteArray) (a1 : Int) (a2 : Int) (r : Bool) (w : World) (hG : GW w) (hz : a0.size ≤ 140737488351232) (h : numnahlaw09_ParseGreedy.f k a0 a1 a2 = some r) :
  Calls Tryd.prog 18 #[.string a0, .int .i64 a1, .int .i64 a2] w fun e w' => e = .returned (.bool r) ∧ Below w.heap.size w w' := by
 have hu63 := Tryd.underlying63
 have HB := Aside0.mk (Below.refl w.heap.size w)
 have H : ((numnahlaw09_tame.f k a0 160).bind fun t832 => ((numnahlaw09_mod.f a1 100).bind fun t833 => ((numnahlaw09_mod.f a2 100).bind fun t834 => ((parse_Copying.f t832).bind fun bt835 => ((parse_Cheapest.f t832 1 1).bind fun bt839 => ((parse_Cost.f k t832 bt835.1 1 1).bind fun bt844 => ((parse_Cheapest.f t832 (wrap64 (1 + t833)) (wrap64 (1 + t834))).bind fun bt846 => ((parse_Cost.f k t832 bt835.1 (wrap64 (1 + t833)) (wrap64 (1 + t834))).bind fun bt851 => (numnahlaw09_ParseGreedy.l0 k (wrap64 (1 + t833)) (wrap64 (1 + t834)) t832 bt835.1 bt835.2 bt839.2.1 bt839.2.2 bt844.1 bt844.2 bt846.2.1 bt846.2.2 bt851.1 bt851.2 ([] : List (S63)) 0))))))))) = some r := h
 clear h
 replace H := Option.bind_eq_some_iff.mp H
 obtain ⟨t832, A40, H⟩ := H
 replace H : ((numnahlaw09_mod.f a1 100).bind fun t833 => ((numnahlaw09_mod.f a2 100).bind fun t834 => ((parse_Copying.f t832).bind fun bt835 => ((parse_Cheapest.f t832 1 1).bind fun bt839 => ((parse_Cost.f k t832 bt835.1 1 1).bind fun bt844 => ((parse_Cheapest.f t832 (wrap64 (1 + t833)) (wrap64 (1 + t834))).bind fun bt846 => ((parse_Cost.f k t832 bt835.1 (wrap64 (1 + t833)) (wrap64 (1 + t834))).bind fun bt851 => (numnahlaw09_ParseGreedy.l0 k (wrap64 (1 + t833)) (wrap64 (1 + t834)) t832 bt835.1 bt835.2 bt839.2.1 bt839.2.2 bt844.1 bt844.2 bt846.2.1 bt846.2.2 bt851.1 bt851.2 ([] : List (S63)) 0)))))))) = some r := H
 have A4 := Aside0.mk A40
 clear A40
 replace H := Option.bind_eq_some_iff.mp H
 obtain ⟨t833, A50, H⟩ := H
 replace H : ((numnahlaw09_mod.f a2 100).bind fun t834 => ((parse_Copying.f t832).bind fun bt835 => ((parse_Cheapest.f t832 1 1).bind fun bt839 => ((parse_Cost.f k t832 bt835.1 1 1).bind fun bt844 => ((parse_Cheapest.f t832 (wrap64 (1 + t833)) (wrap64 (1 + t834))).bind fun bt846 => ((parse_Cost.f k t832 bt835.1 (wrap64 (1 + t833)) (wrap64 (1 + t834))).bind fun bt851 => (numnahlaw09_ParseGreedy.l0 k (wrap64 (1 + t833)) (wrap64 (1 + t834)) t832 bt835.1 bt835.2 bt839.2.1 bt839.2.2 bt844.1 bt844.2 bt846.2.1 bt846.2.2 bt851.1 bt851.2 ([] : List (S63)) 0))))))) = some r := H
 have A5 := Aside0.mk A50
 clear A50
 replace H := Option.bind_eq_some_iff.mp H
 obtain ⟨t834, A60, H⟩ := H
 replace H : ((parse_Copying.f t832).bind fun bt835 => ((parse_Cheapest.f t832 1 1).bind fun bt839 => ((parse_Cost.f k t832 bt835.1 1 1).bind fun bt844 => ((parse_Cheapest.f t832 (wrap64 (1 + t833)) (wrap64 (1 + t834))).bind fun bt846 => ((parse_Cost.f k t832 bt835.1 (wrap64 (1 + t833)) (wrap64 (1 + t834))).bind fun bt851 => (numnahlaw09_ParseGreedy.l0 k (wrap64 (1 + t833)) (wrap64 (1 + t834)) t832 bt835.1 bt835.2 bt839.2.1 bt839.2.2 bt844.1 bt844.2 bt846.2.1 bt846.2.2 bt851.1 bt851.2 ([] : List (S63)) 0)))))) = some r := H
 have A6 := Aside0.mk A60
 clear A60
 replace H := Option.bind_eq_some_iff.mp H
 obtain ⟨⟨t835, t836⟩, A70, H⟩ := H
 replace H : ((parse_Cheapest.f t832 1 1).bind fun bt839 => ((parse_Cost.f k t832 t835 1 1).bind fun bt844 => ((parse_Cheapest.f t832 (wrap64 (1 + t833)) (wrap64 (1 + t834))).bind fun bt846 => ((parse_Cost.f k t832 t835 (wrap64 (1 + t833)) (wrap64 (1 + t834))).bind fun bt851 => (numnahlaw09_ParseGreedy.l0 k (wrap64 (1 + t833)) (wrap64 (1 + t834)) t832 t835 t836 bt839.2.1 bt839.2.2 bt844.1 bt844.2 bt846.2.1 bt846.2.2 bt851.1 bt851.2 ([] : List (S63)) 0))))) = some r := H
 have A7 := Aside0.mk A70
 clear A70
 replace H := Option.bind_eq_some_iff.mp H
 obtain ⟨⟨t839, t840, t841⟩, A80, H⟩ := H
 replace H : ((parse_Cost.f k t832 t835 1 1).bind fun bt844 => ((parse_Cheapest.f t832 (wrap64 (1 + t833)) (wrap64 (1 + t834))).bind fun bt846 => ((parse_Cost.f k t832 t835 (wrap64 (1 + t833)) (wrap64 (1 + t834))).bind fun bt851 => (numnahlaw09_ParseGreedy.l0 k (wrap64 (1 + t833)) (wrap64 (1 + t834)) t832 t835 t836 t840 t841 bt844.1 bt844.2 bt846.2.1 bt846.2.2 bt851.1 bt851.2 ([] : List (S63)) 0)))) = some r := H
 have A8 := Aside0.mk A80
 clear A80
 replace H := Option.bind_eq_some_iff.mp H
 obtain ⟨⟨t844, t845⟩, A90, H⟩ := H
 replace H : ((parse_Cheapest.f t832 (wrap64 (1 + t833)) (wrap64 (1 + t834))).bind fun bt846 => ((parse_Cost.f k t832 t835 (wrap64 (1 + t833)) (wrap64 (1 + t834))).bind fun bt851 => (numnahlaw09_ParseGreedy.l0 k (wrap64 (1 + t833)) (wrap64 (1 + t834)) t832 t835 t836 t840 t841 t844 t845 bt846.2.1 bt846.2.2 bt851.1 bt851.2 ([] : List (S63)) 0))) = some r := H
 have A9 := Aside0.mk A90
 clear A90
 replace H := Option.bind_eq_some_iff.mp H
 obtain ⟨⟨t846, t847, t848⟩, A100, H⟩ := H
 replace H : ((parse_Cost.f k t832 t835 (wrap64 (1 + t833)) (wrap64 (1 + t834))).bind fun bt851 => (numnahlaw09_ParseGreedy.l0 k (wrap64 (1 + t833)) (wrap64 (1 + t834)) t832 t835 t836 t840 t841 t844 t845 t847 t848 bt851.1 bt851.2 ([] : List (S63)) 0)) = some r := H
 have A10 := Aside0.mk A100
 clear A100
 replace H := Option.bind_eq_some_iff.mp H
 obtain ⟨⟨t851, t852⟩, A110, H⟩ := H
 replace H : (numnahlaw09_ParseGreedy.l0 k (wrap64 (1 + t833)) (wrap64 (1 + t834)) t832 t835 t836 t840 t841 t844 t845 t847 t848 t851 t852 ([] : List (S63)) 0) = some r := H
 have A11 := Aside0.mk A110
 clear A110
 have H' := Aside0.mk H
 clear H
 have hT := Aside0.mk ((isWordC_iff t832).1 (tame_word k a0 t832 hz A4.out))
 go_enter Tryd.func18, Tryd.ntmps18
 go_wp2_with (first | ((with_reducible refine gate_callee (f := 29) rfl ?_); refine goesL_ (some 24) rfl rfl Tryd.func29 (by kernel_rfl) rfl #[.string a0, .int .i64 160] rfl (by (try simp only [List.map_toArray, List.map_cons, List.map_nil]); first | done | rfl | (simp only [List.length_drop, List.length_take]; rfl)) ?_; (with_reducible refine (numnahlaw09_tame.calls k a0 160 t832 _ A4.out).mono ?_); rintro e w12 ⟨rfl, hb⟩; refine ⟨_, rfl, ?_⟩; have n0_ := Aside0.mk (below_step (by repeat (first | (with_reducible first | exact HB.out | apply below_alloc | apply pw_below_drewN | apply below_drew1) | exact HB.out)) hb); clear HB; have HB := n0_; clear n0_; (try clear hb); (try clear hb2); (try clear hk); (try clear hi)) | ((with_reducible refine gate_callee (f := 31) rfl ?_); refine goesL_ (some 26) rfl rfl Tryd.func31 (by kernel_rfl) rfl #[.int .i64 a1, .int .i64 100] rfl (by (try simp only [List.map_toArray, List.map_cons, List.map_nil]); first | done | rfl | (simp only [List.length_drop, List.length_take]; rfl)) ?_; (with_reducible refine (numnahlaw09_mod.calls a1 100 t833 _ A5.out).mono ?_); rintro e w' ⟨rfl, ⟨nd, rfl⟩⟩; refine ⟨_, rfl, ?_⟩) | ((with_reducible refine gate_callee (f := 31) rfl ?_); refine goesL_ (some 29) rfl rfl Tryd.func31 (by kernel_rfl) rfl #[.int .i64 a2, .int .i64 100] rfl (by (try simp only [List.map_toArray, List.map_cons, List.map_nil]); first | done | rfl | (simp only [List.length_drop, List.length_take]; rfl)) ?_; (with_reducible refine (numnahlaw09_mod.calls a2 100 t834 _ A6.out).mono ?_); rintro e w' ⟨rfl, ⟨nd, rfl⟩⟩; refine ⟨_, rfl, ?_⟩) | ((with_reducible refine gate_callee (f := 22) rfl ?_); refine goesL_ (some 33) rfl rfl Tryd.func22 (by kernel_rfl) rfl #[.string t832] rfl (by (try simp only [List.map_toArray, List.map_cons, List.map_nil]); first | done | rfl | (simp only [List.length_drop, List.length_take]; rfl)) ?_; (with_reducible refine (parse_Copying.calls (hG := ?hg) t832 t835 t836 _ A7.out).mono ?_); (case hg => exact gw_now hG (by repeat (first | (with_reducible first | exact HB.out | apply below_alloc | apply pw_below_drewN | apply below_drew1) | exact HB.out))); rintro e w13 ⟨v837, rfl, ho0, hb⟩; refine ⟨_, rfl, ?_⟩; have n0_ := Aside0.mk (Kd.R_lower ho0 (below_size (by repeat (first | (with_reducible first | exact HB.out | apply below_alloc | apply pw_below_drewN | apply below_drew1) | exact HB.out)))); have n1_ := Aside0.mk (below_step (by repeat (first | (with_reducible first | exact HB.out | apply below_alloc | apply pw_below_drewN | apply below_drew1) | exact HB.out)) hb); clear HB; have HO838 := n0_; have HB := n1_; clear n0_ n1_; (try clear hb); (try clear hb2); (try clear hk); (try clear hi); (try clear ho0)) | ((with_reducible refine gate_callee (f := 52) rfl ?_); refine goesL_ (some 38) rfl rfl Tryd.func52 (by kernel_rfl) rfl #[.string t832, .int .i64 1, .int .i64 1] rfl (by (try simp only [List.map_toArray, List.map_cons, List.map_nil]); first | done | rfl | (simp only [List.length_drop, List.length_take]; rfl)) ?_; (with_reducible refine (parse_Cheapest.calls (hG := ?hg) t832 1 1 t839 t840 t841 _ A8.out).mono ?_); (case hg => exact gw_now hG (by repeat (first | (with_reducible first | exact HB.out | apply below_alloc | apply pw_below_drewN | apply below_drew1) | exact HB.out))); rintro e w14 ⟨v842, rfl, ho0, hb⟩; refine ⟨_, rfl, ?_⟩; have n0_ := Aside0.mk (Kd.R_elder' (by (with_reducible repeat (first | apply Kd.R_alloc | apply Kd.R_drewN | apply Kd.R_drew)); exact HO838.out) (Kd.R_base ho0) hb); have n1_ := Aside0.mk (Kd.R_lower (Kd.R_new' ho0 (Kd.R_lt (by (with_reducible repeat (first | apply Kd.R_alloc | apply Kd.R_drewN | apply Kd.R_drew)); exact HO838.out))) (below_size (by repeat (first | (with_reducible first | exact HB.out | apply below_alloc | apply pw_below_drewN | apply below_drew1) | exact HB.out)))); have n2_ := Aside0.mk (below_step (by repeat (first | (with_reducible first | exact HB.out | apply below_alloc | apply pw_below_drewN | apply below_drew1) | exact HB.out)) hb); clear HO838; clear HB; have HO838 := n0_; have HO843 := n1_; have HB := n2_; clear n0_ n1_ n2_; (try clear hb); (try clear hb2); (try clear hk); (try clear hi); (try clear ho0); obtain ⟨Ao15, co15, eo15⟩ := Kd.R_slice HO838.out; subst eo15) | ((with_reducible refine gate_callee (f := 56) rfl ?_); refine goesL_ (some 45) rfl rfl Tryd.func56 (by kernel_rfl) rfl #[.string t832, .slice Ao15 t835.length co15, .int .i64 1, .int .i64 1] rfl (by (try simp only [List.map_toArray, List.map_cons, List.map_nil]); first | done | rfl | (simp only [List.length_drop, List.length_take]; rfl)) ?_; (with_reducible refine (parse_Cost.calls (hG := ?hg) k t832 _ _ t835 1 1 t844 t845 _ ?side1 ?side2 A9.out).mono ?_); (case hg => exact gw_now hG (by repeat (first | (with_reducible first | exact HB.out | apply below_alloc | apply pw_below_drewN | apply below_drew1) | exact HB.out))); (case side1 => repeat (first | exact (Kd.R_reads' HO838.out).2.2 | (with_reducible refine Kd.C_alloc ?_ _) | (with_reducible refine Kd.C_drewN ?_ _) | (with_reducible refine Kd.C_drew ?_))); (case side2 => exact (Kd.R_reads' HO838.out).2.1); rintro e w16 ⟨rfl, hb⟩; refine ⟨_, rfl, ?_⟩; have n0_ := Aside0.mk (Kd.R_below (by (with_reducible repeat (first | apply Kd.R_alloc | apply Kd.R_drewN | apply Kd.R_drew)); exact HO838.out) hb); have n1_ := Aside0.mk (Kd.R_below (by (with_reducible repeat (first | apply Kd.R_alloc | apply Kd.R_drewN | apply Kd.R_drew)); exact HO843.out) hb); have n2_ := Aside0.mk (below_step (by repeat (first | (with_reducible first | exact HB.out | apply below_alloc | apply pw_below_drewN | apply below_drew1) | exact HB.out)) hb); clear HO838; clear HO843; clear HB; have HO838 := n0_; have HO843 := n1_; have HB := n2_; clear n0_ n1_ n2_; (try clear hb); (try clear hb2); (try clear hk); (try clear hi)) | ((with_reducible refine gate_callee (f := 52) rfl ?_); refine goesL_ (some 52) rfl rfl Tryd.func52 (by kernel_rfl) rfl #[.string t832, .int .i64 (wrap64 (1 + t833)), .int .i64 (wrap64 (1 + t834))] rfl (by (try simp only [List.map_toArray, List.map_cons, List.map_nil]); first | done | rfl | (simp only [List.length_drop, List.length_take]; rfl)) ?_; (with_reducible refine (parse_Cheapest.calls (hG := ?hg) t832 (wrap64 (1 + t833)) (wrap64 (1 + t834)) t846 t847 t848 _ A10.out).mono ?_); (case hg => exact gw_now hG (by repeat (first | (with_reducible first | exact HB.out | apply below_alloc | apply pw_below_drewN | apply below_drew1) | exact HB.out))); rintro e w17 ⟨v849, rfl, ho0, hb⟩; refine ⟨_, rfl, ?_⟩; have n0_ := Aside0.mk (Kd.R_elder' (by (with_reducible repeat (first | apply Kd.R_alloc | apply Kd.R_drewN | apply Kd.R_drew)); exact HO838.out) (Kd.R_base ho0) hb); have n1_ := Aside0.mk (Kd.R_elder' (by (with_reducible repeat (first | apply Kd.R_alloc | apply Kd.R_drewN | apply Kd.R_drew)); exact HO843.out) (Kd.R_base ho0) hb); have n2_ := Aside0.mk (Kd.R_lower (Kd.R_new' (Kd.R_new' ho0 (Kd.R_lt (by (with_reducible repeat (first | apply Kd.R_alloc | apply Kd.R_drewN | apply Kd.R_drew)); exact HO838.out))) (Kd.R_lt (by (with_reducible repeat (first | apply Kd.R_alloc | apply Kd.R_drewN | apply Kd.R_drew)); exact HO843.out))) (below_size (by repeat (first | (with_reducible first | exact HB.out | apply below_alloc | apply pw_below_drewN | apply below_drew1) | exact HB.out)))); have n3_ := Aside0.mk (below_step (by repeat (first | (with_reducible first | exact HB.out | apply below_alloc | apply pw_below_drewN | apply below_drew1) | exact HB.out)) hb); clear HO838; clear HO843; clear HB; have HO838 := n0_; have HO843 := n1_; have HO850 := n2_; have HB := n3_; clear n0_ n1_ n2_ n3_; (try clear hb); (try clear hb2); (try clear hk); (try clear hi); (try clear ho0)) | ((with_reducible refine gate_callee (f := 56) rfl ?_); refine goesL_ (some 61) rfl rfl Tryd.func56 (by kernel_rfl) rfl #[.string t832, .slice Ao15 t835.length co15, .int .i64 (wrap64 (1 + t833)), .int .i64 (wrap64 (1 + t834))] rfl (by (try simp only [List.map_toArray, List.map_cons, List.map_nil]); first | done | rfl | (simp only [List.length_drop, List.length_take]; rfl)) ?_; (with_reducible refine (parse_Cost.calls (hG := ?hg) k t832 _ _ t835 (wrap64 (1 + t833)) (wrap64 (1 + t834)) t851 t852 _ ?side1 ?side2 A11.out).mono ?_); (case hg => exact gw_now hG (by repeat (first | (with_reducible first | exact HB.out | apply below_alloc | apply pw_below_drewN | apply below_drew1) | exact HB.out))); (case side1 => repeat (first | exact (Kd.R_reads' HO838.out).2.2 | (with_reducible refine Kd.C_alloc ?_ _) | (with_reducible refine Kd.C_drewN ?_ _) | (with_reducible refine Kd.C_drew ?_))); (case side2 => exact (Kd.R_reads' HO838.out).2.1); rintro e w18 ⟨rfl, hb⟩; refine ⟨_, rfl, ?_⟩; have n0_ := Aside0.mk (Kd.R_below (by (with_reducible repeat (first | apply Kd.R_alloc | apply Kd.R_drewN | apply Kd.R_drew)); exact HO838.out) hb); have n1_ := Aside0.mk (Kd.R_below (by (with_reducible repeat (first | apply Kd.R_alloc | apply Kd.R_drewN | apply Kd.R_drew)); exact HO843.out) hb); have n2_ := Aside0.mk (Kd.R_below (by (with_reducible repeat (first | apply Kd.R_alloc | apply Kd.R_drewN | apply Kd.R_drew)); exact HO850.out) hb); have n3_ := Aside0.mk (below_step (by repeat (first | (with_reducible first | exact HB.out | apply below_alloc | apply pw_below_drewN | apply below_drew1) | exact HB.out)) hb); clear HO838; clear HO843; clear HO850; clear HB; have HO838 := n0_; have HO843 := n1_; have HO850 := n2_; have HB := n3_; clear n0_ n1_ n2_ n3_; (try clear hb); (try clear hb2); (try clear hk); (try clear hi)))
 go_loopg [20] k (fun kq v20 w' => ∃ (x20_1 : List (S63)) (x65_1 : Int) (pos : Nat), Aside0 (x65_1 = (pos : Int)) ∧ Aside0 (pos ≤ t832.size) ∧ Aside0 (w'.heap[w18.heap.size]? = some (.stringIter t832 pos)) ∧ Aside0 (numnahlaw09_ParseGreedy.l0 kq (wrap64 (1 + t833)) (wrap64 (1 + t834)) t832 t835 t836 t840 t841 t844 t845 t847 t848 t851 t852 x20_1 x65_1 = some r) ∧ Aside0 (kq ≤ k) ∧ Aside0 (Kd.R k63 63 w' w.heap.size (fun k_ => some k_ ≠ (v20 : Value).ownBlock) (.slice Ao15 t835.length co15) t835) ∧ Aside0 (Kd.R k63 63 w' w.heap.size (fun k_ => some k_ ≠ ((.slice Ao15 t835.length co15) : Value).ownBlock) v20 x20_1) ∧ Aside0 (Below w.heap.size w w'))
 case atStart => exact ⟨[], 0, 0, ⟨rfl⟩, ⟨Nat.zero_le _⟩, ⟨World.iter_heap w18 t832 0⟩, H', ⟨Nat.le_refl _⟩, ⟨Kd.R_mono (Kd.R_alloc HO838.out _) (fun _ hk => (by simp [Value.ownBlock]))⟩, ⟨Kd.R_nil _ _ _ _ _⟩, ⟨below_alloc HB.out _⟩⟩
 case round =>
  clear H'
  have hge := Aside0.mk HB.out.size
  try clear c1
  try clear c2
  try clear p2
  try clear c3
  try clear c5
  try clear p6
  try clear c18
  clear HB
  obtain ⟨x20_1, x65_1, pos, hpos, hps, HI, HA, HK1, HO_8, HO_20, HB⟩ := hrel
  cases gk with
  | zero => exact absurd HA.out (by simp [numnahlaw09_ParseGreedy.l0])
  | succ k1 =>
   have H := HA.out
   clear HA
   simp only [numnahlaw09_ParseGreedy.l0] at H
   by_cases c19 : x65_1 < (t832.size : Int)
   ·rw [if_pos c19] at H
    have hp : pos < t832.size := by have := hpos.out; omega
    have hx : Aside0 (wrap64 (x65_1 + 1) = ((pos + 1 : Nat) : Int)) := ⟨by have := hpos.out; have := hT.out.1; rw [hpos.out]; exact wr_next pos (by omega)⟩
    have h128 : (t832[pos]'hp).toNat < 128 := word_ascii t832 hT.out pos hp
    clear c19
    by_cases c20 : x20_1.length < 8796093022208
    ·rw [if_pos c20] at H
     have LMc20 := Aside0.mk c20
     clear c20
     obtain ⟨y853, hy853⟩ : ∃ y_ : List (S63), y_ = (x20_1 ++ [(⟨(-1), 1⟩ : S63)]) := ⟨_, rfl⟩
     replace H : (numnahlaw09_ParseGreedy.l0 k1 (wrap64 (1 + t833)) (wrap64 (1 + t834)) t832 t835 t836 t840 t841 t844 t845 t847 t848 t851 t852 y853 (wrap64 (x65_1 + 1))) = some r := by first | (rw [hy853]; with_reducible exact H) | (have H2_ := (Option.bind_some _ _).symm.trans H; rw [hy853]; with_reducible exact H2_) | (have H2_ := (Option.bind_some _ _).symm.trans H; with_reducible exact H2_) | with_reducible exact H | (rw [hy853]; exact H) | exact H
     have Ny853 := Aside0.mk hy853
     clear hy853
     have H' := Aside0.mk H
     clear H
     have hnext : ∀ ty, (Instr.next (.pointer (some ⟨w18.heap.size, 0, none⟩)) true ty).run Tryd.prog wr = _ := fun ty => Lib.run_next_ascii_at wr w18.heap.size t832 pos ty HI.out hp h128
     have n0_ := Aside0.mk (R_iter HO_8.out HI.out (pos + 1))
     have n1_ := Aside0.mk (R_iter HO_20.out HI.out (pos + 1))
     have n2_ := Aside0.mk (Lib.below_iterAt HB.out hge.out t832 (pos + 1))
     have n3_ := Aside0.mk (Lib.iterAt_heap wr w18.heap.size t832 pos (pos + 1) HI.out)
     clear HO_8 HO_20 HB HI
     have HO_8 := n0_
     have HO_20 := n1_
     have HB := n2_
     have HI := n3_
     clear n0_ n1_ n2_ n3_
     generalize World.iterAt wr w18.heap.size t832 (pos + 1) = W1 at hnext HO_8 HO_20 HB HI
     go_wp2_with (first | ((with_reducible refine gate_builtin (b := .append) (xs := #[.tmp 68, .tmp 70]) rfl ?_); (try (refine gate_guard (by rfl) ?_; dsimp only)); at_builtin; refine Kd.R_append k63 (w0 := w) w.heap.size rfl (.tmp 68) (.tmp 70) 23 63 (.agg #[(.int .i64 0), (.int .i64 0)]) 16 rfl Tryd.underlying23 info63 rfl (by decide) (by omega) u20 x20_1 (⟨(-1), 1⟩ : S63) [.int .i64 (-1), .int .i64 1] (fun k_ => some k_ ≠ (.slice Ao15 t835.length co15 : Value).ownBlock) (fun _ => False) rfl rfl ?aP (fun _ hk => hk.elim) ?aF ?aO ?aB ?aS ?aL ?_; (case aP => exact k63_mkM _ _ _ (⟨(-1), 1⟩ : S63)); (case aB => exact (by repeat (first | (with_reducible first | exact HB.out | apply below_alloc | apply pw_below_drewN | apply below_drew1) | exact HB.out))); (case aF => exact (fun k_ hk => Kd.fresh' (Kd.R_lt (by (with_reducible repeat (first | apply Kd.R_alloc | apply Kd.R_drewN | apply Kd.R_drew)); exact HO_8.out)) k_ hk)); (case aO => exact (by (with_reducible repeat (first | apply Kd.R_alloc | apply Kd.R_drewN | apply Kd.R_drew)); exact HO_20.out)); (case aS => exact (below_size (by repeat (first | (with_reducible first | exact HB.out | apply below_alloc | apply pw_below_drewN | apply below_drew1) | exact HB.out)))); (case aL => have := LMc20.out; omega); intro v854 w21 ho hb hg hat; rw [← Ny853.out] at ho; have n0_ := Aside0.mk (Kd.R_after (ok := (fun _ => True)) (by (with_reducible repeat (first | apply Kd.R_alloc | apply Kd.R_drewN | apply Kd.R_drew)); exact Kd.R_mono HO_8.out (fun _ hk => ⟨trivial, hk⟩)) hg hat); have n1_ := Aside0.mk (hb); have n2_ := Aside0.mk (ho); have n3_ := Aside0.mk (iter_grown (g := w18.heap.size) (s := t832) (p := pos + 1) (by (with_reducible repeat (first | apply Kd.R_alloc | apply Kd.R_drewN | apply Kd.R_drew)); exact HO_20.out) (by exact HI.out) hg); clear HI; have HI := n3_; clear HO_8; clear HB; clear HO_20; have HO_8 := n0_; have HB := n1_; have HO855 := n2_; clear n0_ n1_ n2_ n3_; clear ho hb hg hat))
     go_roundg k1
     case measure => have := HK1.out; omega
     case rel => exact ⟨(y853), (wrap64 (x65_1 + 1)), pos + 1, hx, ⟨by omega⟩, ⟨by exact HI.out⟩, H', ⟨by have := HK1.out; omega⟩, ⟨by (with_reducible repeat (first | apply Kd.R_alloc | apply Kd.R_drewN | apply Kd.R_drew)); exact Kd.R_mono HO_8.out (fun _ hk => hk.2)⟩, ⟨by (with_reducible repeat (first | apply Kd.R_alloc | apply Kd.R_drewN | apply Kd.R_drew)); exact HO855.out⟩, ⟨by repeat (first | (with_reducible first | exact HB.out | apply below_alloc | apply pw_below_drewN | apply below_drew1) | exact HB.out)⟩⟩
    ·rw [if_neg c20] at H
     exact absurd H (by simp)
   ·rw [if_neg c19] at H
    have hp : ¬ pos < t832.size := by have := hpos.out; omega
    have hnext : ∀ ty, (Instr.next (.pointer (some ⟨w18.heap.size, 0, none⟩)) true ty).run Tryd.prog wr = _ := fun ty => Lib.run_next_end_at wr w18.heap.size t832 pos ty HI.out hp
    clear c19
    replace H := Option.bind_eq_some_iff.mp H
    obtain ⟨⟨t856, t857⟩, A220, H⟩ := H
    replace H : (if t836 = 0 then (if t841 = 0 then (if t845 = 0 then (if t848 = 0 then (if t852 = 0 then (if t857 = 0 then (if t840 = (t835.length : Int) then (if t844 = (t835.length : Int) then (if t847 ≤ t851 then (if t847 ≤ t856 then (if t856 = (wrap64 ((wrap64 (1 + t833)) * (t832.size : Int))) then ((numnahlaw09_awake.f k1).bind fun t858 => (some t858)) else (some false)) else (some false)) else (some false)) else (some false)) else (some false)) else (some false)) else (some false)) else (some false)) else (some false)) else (some false)) else (some false)) = some r := H
    have A22 := Aside0.mk A220
    clear A220
    by_cases c23 : t836 = 0
    ·rw [if_pos c23] at H
     have c23b0 : (t836 == 0) = true := beq_iff_eq.mpr c23
     have c23b1 : (t836 != 0) = false := bne_eq_false_iff_eq.mpr c23
     clear c23
     by_cases c24 : t841 = 0
     ·rw [if_pos c24] at H
      have c24b0 : (t841 == 0) = true := beq_iff_eq.mpr c24
      have c24b1 : (t841 != 0) = false := bne_eq_false_iff_eq.mpr c24
      clear c24
      by_cases c25 : t845 = 0
      ·rw [if_pos c25] at H
       have c25b0 : (t845 == 0) = true := beq_iff_eq.mpr c25
       have c25b1 : (t845 != 0) = false := bne_eq_false_iff_eq.mpr c25
       clear c25
       by_cases c26 : t848 = 0
       ·rw [if_pos c26] at H
        have c26b0 : (t848 == 0) = true := beq_iff_eq.mpr c26
        have c26b1 : (t848 != 0) = false := bne_eq_false_iff_eq.mpr c26
        clear c26
        by_cases c27 : t852 = 0
        ·rw [if_pos c27] at H
         have c27b0 : (t852 == 0) = true := beq_iff_eq.mpr c27
         have c27b1 : (t852 != 0) = false := bne_eq_false_iff_eq.mpr c27
         clear c27
         by_cases c28 : t857 = 0
         ·rw [if_pos c28] at H
          have c28b0 : (t857 == 0) = true := beq_iff_eq.mpr c28
          have c28b1 : (t857 != 0) = false := bne_eq_false_iff_eq.mpr c28
          clear c28
          by_cases c29 : t840 = (t835.length : Int)
          ·rw [if_pos c29] at H
           have c29b0 : (t840 == (t835.length : Int)) = true := beq_iff_eq.mpr c29
           have c29b1 : (t840 != (t835.length : Int)) = false := bne_eq_false_iff_eq.mpr c29
           clear c29
           by_cases c30 : t844 = (t835.length : Int)
           ·rw [if_pos c30] at H
            have c30b0 : (t844 == (t835.length : Int)) = true := beq_iff_eq.mpr c30
            have c30b1 : (t844 != (t835.length : Int)) = false := bne_eq_false_iff_eq.mpr c30
            clear c30
            by_cases c31 : t847 ≤ t851
            ·rw [if_pos c31] at H
             have c31b0 : decide (t847 ≤ t851) = true := decide_eq_true c31
             clear c31
             by_cases c32 : t847 ≤ t856
             ·rw [if_pos c32] at H
              have c32b0 : decide (t847 ≤ t856) = true := decide_eq_true c32
              clear c32
              by_cases c33 : t856 = (wrap64 ((wrap64 (1 + t833)) * (t832.size : Int)))
              ·rw [if_pos c33] at H
               have c33b0 : (t856 == (wrap64 ((wrap64 (1 + t833)) * (t832.size : Int)))) = true := beq_iff_eq.mpr c33
               have c33b1 : (t856 != (wrap64 ((wrap64 (1 + t833)) * (t832.size : Int)))) = false := bne_eq_false_iff_eq.mpr c33
               clear c33
               replace H := Option.bind_eq_some_iff.mp H
               obtain ⟨t858, A340, H⟩ := H
               replace H : (some t858) = some r := H
               have A34 := Aside0.mk A340
               clear A340
               obtain rfl := Option.some.inj H
               obtain ⟨Ao35, co35, eo35⟩ := Kd.R_slice HO_20.out
               subst eo35
               go_wp2_with (first | ((with_reducible refine gate_callee (f := 56) rfl ?_); refine goesL_ (some 77) rfl rfl Tryd.func56 (by kernel_rfl) rfl #[.string t832, .slice Ao35 x20_1.length co35, .int .i64 (wrap64 (1 + t833)), .int .i64 (wrap64 (1 + t834))] rfl (by (try simp only [List.map_toArray, List.map_cons, List.map_nil]); first | done | rfl | (simp only [List.length_drop, List.length_take]; rfl)) ?_; (with_reducible refine (parse_Cost.calls (hG := ?hg) k1 t832 _ _ x20_1 (wrap64 (1 + t833)) (wrap64 (1 + t834)) t856 t857 _ ?side1 ?side2 A22.out).mono ?_); (case hg => exact gw_now hG (by repeat (first | (with_reducible first | exact HB.out | apply below_alloc | apply pw_below_drewN | apply below_drew1) | exact HB.out))); (case side1 => repeat (first | exact (Kd.R_reads' HO_20.out).2.2 | (with_reducible refine Kd.C_alloc ?_ _) | (with_reducible refine Kd.C_drewN ?_ _) | (with_reducible refine Kd.C_drew ?_))); (case side2 => exact (Kd.R_reads' HO_20.out).2.1); rintro e w36 ⟨rfl, hb⟩; refine ⟨_, rfl, ?_⟩; have n0_ := Aside0.mk (Kd.R_below (by (with_reducible repeat (first | apply Kd.R_alloc | apply Kd.R_drewN | apply Kd.R_drew)); exact HO_8.out) hb); have n1_ := Aside0.mk (Kd.R_below (by (with_reducible repeat (first | apply Kd.R_alloc | apply Kd.R_drewN | apply Kd.R_drew)); exact HO_20.out) hb); have n2_ := Aside0.mk (below_step (by repeat (first | (with_reducible first | exact HB.out | apply below_alloc | apply pw_below_drewN | apply below_drew1) | exact HB.out)) hb); clear HO_8; clear HO_20; clear HB; have HO_8 := n0_; have HO_20 := n1_; have HB := n2_; clear n0_ n1_ n2_; (try clear hb); (try clear hb2); (try clear hk); (try clear hi)) | (go_at_call 25; (with_reducible refine (numnahlaw09_awake.calls (hG := ?hg) k1  t858 _ A34.out).mono ?_); (case hg => exact gw_now hG (by repeat (first | (with_reducible first | exact HB.out | apply below_alloc | apply pw_below_drewN | apply below_drew1) | exact HB.out))); rintro e w37 ⟨rfl, hb⟩; have n0_ := Aside0.mk (Kd.R_below (by (with_reducible repeat (first | apply Kd.R_alloc | apply Kd.R_drewN | apply Kd.R_drew)); exact HO_8.out) hb); have n1_ := Aside0.mk (Kd.R_below (by (with_reducible repeat (first | apply Kd.R_alloc | apply Kd.R_drewN | apply Kd.R_drew)); exact HO_20.out) hb); have n2_ := Aside0.mk (below_step (by repeat (first | (with_reducible first | exact HB.out | apply below_alloc | apply pw_below_drewN | apply below_drew1) | exact HB.out)) hb); clear HO_8; clear HO_20; clear HB; have HO_8 := n0_; have HO_20 := n1_; have HB := n2_; clear n0_ n1_ n2_; (try clear hb); (try clear hb2); (try clear hk); (try clear hi)))
               go_ret
               exact ⟨by first | rfl | (simp [errW_none, errW_some] <;> rfl) | (simp [*, errW_none, errW_some] <;> rfl), by repeat (first | (with_reducible first | exact HB.out | apply below_alloc | apply pw_below_drewN | apply below_drew1) | exact HB.out)⟩
              ·rw [if_neg c33] at H
               have c33b0 : (t856 == (wrap64 ((wrap64 (1 + t833)) * (t832.size : Int)))) = false := beq_eq_false_iff_ne.mpr c33
               have c33b1 : (t856 != (wrap64 ((wrap64 (1 + t833)) * (t832.size : Int)))) = true := bne_iff_ne.mpr c33
               obtain rfl := Option.some.inj H
               obtain ⟨Ao38, co38, eo38⟩ := Kd.R_slice HO_20.out
               subst eo38
               go_wp2_with (first | ((with_reducible refine gate_callee (f := 56) rfl ?_); refine goesL_ (some 77) rfl rfl Tryd.func56 (by kernel_rfl) rfl #[.string t832, .slice Ao38 x20_1.length co38, .int .i64 (wrap64 (1 + t833)), .int .i64 (wrap64 (1 + t834))] rfl (by (try simp only [List.map_toArray, List.map_cons, List.map_nil]); first | done | rfl | (simp only [List.length_drop, List.length_take]; rfl)) ?_; (with_reducible refine (parse_Cost.calls (hG := ?hg) k1 t832 _ _ x20_1 (wrap64 (1 + t833)) (wrap64 (1 + t834)) t856 t857 _ ?side1 ?side2 A22.out).mono ?_); (case hg => exact gw_now hG (by repeat (first | (with_reducible first | exact HB.out | apply below_alloc | apply pw_below_drewN | apply below_drew1) | exact HB.out))); (case side1 => repeat (first | exact (Kd.R_reads' HO_20.out).2.2 | (with_reducible refine Kd.C_alloc ?_ _) | (with_reducible refine Kd.C_drewN ?_ _) | (with_reducible refine Kd.C_drew ?_))); (case side2 => exact (Kd.R_reads' HO_20.out).2.1); rintro e w39 ⟨rfl, hb⟩; refine ⟨_, rfl, ?_⟩; have n0_ := Aside0.mk (Kd.R_below (by (with_reducible repeat (first | apply Kd.R_alloc | apply Kd.R_drewN | apply Kd.R_drew)); exact HO_8.out) hb); have n1_ := Aside0.mk (Kd.R_below (by (with_reducible repeat (first | apply Kd.R_alloc | apply Kd.R_drewN | apply Kd.R_drew)); exact HO_20.out) hb); have n2_ := Aside0.mk (below_step (by repeat (first | (with_reducible first | exact HB.out | apply below_alloc | apply pw_below_drewN | apply below_drew1) | exact HB.out)) hb); clear HO_8; clear HO_20; clear HB; have HO_8 := n0_; have HO_20 := n1_; have HB := n2_; clear n0_ n1_ n2_; (try clear hb); (try clear hb2); (try clear hk); (try clear hi)))
               go_ret
               exact ⟨by first | rfl | (simp [errW_none, errW_some] <;> rfl) | (simp [*, errW_none, errW_some] <;> rfl), by repeat (first | (with_reducible first | exact HB.out | apply below_alloc | apply pw_below_drewN | apply below_drew1) | exact HB.out)⟩
             ·rw [if_neg c32] at H
              have c32b0 : decide (t847 ≤ t856) = false := decide_eq_false c32
              clear c32
              obtain rfl := Option.some.inj H
              obtain ⟨Ao40, co40, eo40⟩ := Kd.R_slice HO_20.out
              subst eo40
              go_wp2_with (first | ((with_reducible refine gate_callee (f := 56) rfl ?_); refine goesL_ (some 77) rfl rfl Tryd.func56 (by kernel_rfl) rfl #[.string t832, .slice Ao40 x20_1.length co40, .int .i64 (wrap64 (1 + t833)), .int .i64 (wrap64 (1 + t834))] rfl (by (try simp only [List.map_toArray, List.map_cons, List.map_nil]); first | done | rfl | (simp only [List.length_drop, List.length_take]; rfl)) ?_; (with_reducible refine (parse_Cost.calls (hG := ?hg) k1 t832 _ _ x20_1 (wrap64 (1 + t833)) (wrap64 (1 + t834)) t856 t857 _ ?side1 ?side2 A22.out).mono ?_); (case hg => exact gw_now hG (by repeat (first | (with_reducible first | exact HB.out | apply below_alloc | apply pw_below_drewN | apply below_drew1) | exact HB.out))); (case side1 => repeat (first | exact (Kd.R_reads' HO_20.out).2.2 | (with_reducible refine Kd.C_alloc ?_ _) | (with_reducible refine Kd.C_drewN ?_ _) | (with_reducible refine Kd.C_drew ?_))); (case side2 => exact (Kd.R_reads' HO_20.out).2.1); rintro e w41 ⟨rfl, hb⟩; refine ⟨_, rfl, ?_⟩; have n0_ := Aside0.mk (Kd.R_below (by (with_reducible repeat (first | apply Kd.R_alloc | apply Kd.R_drewN | apply Kd.R_drew)); exact HO_8.out) hb); have n1_ := Aside0.mk (Kd.R_below (by (with_reducible repeat (first | apply Kd.R_alloc | apply Kd.R_drewN | apply Kd.R_drew)); exact HO_20.out) hb); have n2_ := Aside0.mk (below_step (by repeat (first | (with_reducible first | exact HB.out | apply below_alloc | apply pw_below_drewN | apply below_drew1) | exact HB.out)) hb); clear HO_8; clear HO_20; clear HB; have HO_8 := n0_; have HO_20 := n1_; have HB := n2_; clear n0_ n1_ n2_; (try clear hb); (try clear hb2); (try clear hk); (try clear hi)))
              go_ret
              exact ⟨by first | rfl | (simp [errW_none, errW_some] <;> rfl) | (simp [*, errW_none, errW_some] <;> rfl), by repeat (first | (with_reducible first | exact HB.out | apply below_alloc | apply pw_below_drewN | apply below_drew1) | exact HB.out)⟩
            ·rw [if_neg c31] at H
             have c31b0 : decide (t847 ≤ t851) = false := decide_eq_false c31
             clear c31
             obtain rfl := Option.some.inj H
             obtain ⟨Ao42, co42, eo42⟩ := Kd.R_slice HO_20.out
             subst eo42
             go_wp2_with (first | ((with_reducible refine gate_callee (f := 56) rfl ?_); refine goesL_ (some 77) rfl rfl Tryd.func56 (by kernel_rfl) rfl #[.string t832, .slice Ao42 x20_1.length co42, .int .i64 (wrap64 (1 + t833)), .int .i64 (wrap64 (1 + t834))] rfl (by (try simp only [List.map_toArray, List.map_cons, List.map_nil]); first | done | rfl | (simp only [List.length_drop, List.length_take]; rfl)) ?_; (with_reducible refine (parse_Cost.calls (hG := ?hg) k1 t832 _ _ x20_1 (wrap64 (1 + t833)) (wrap64 (1 + t834)) t856 t857 _ ?side1 ?side2 A22.out).mono ?_); (case hg => exact gw_now hG (by repeat (first | (with_reducible first | exact HB.out | apply below_alloc | apply pw_below_drewN | apply below_drew1) | exact HB.out))); (case side1 => repeat (first | exact (Kd.R_reads' HO_20.out).2.2 | (with_reducible refine Kd.C_alloc ?_ _) | (with_reducible refine Kd.C_drewN ?_ _) | (with_reducible refine Kd.C_drew ?_))); (case side2 => exact (Kd.R_reads' HO_20.out).2.1); rintro e w43 ⟨rfl, hb⟩; refine ⟨_, rfl, ?_⟩; have n0_ := Aside0.mk (Kd.R_below (by (with_reducible repeat (first | apply Kd.R_alloc | apply Kd.R_drewN | apply Kd.R_drew)); exact HO_8.out) hb); have n1_ := Aside0.mk (Kd.R_below (by (with_reducible repeat (first | apply Kd.R_alloc | apply Kd.R_drewN | apply Kd.R_drew)); exact HO_20.out) hb); have n2_ := Aside0.mk (below_step (by repeat (first | (with_reducible first | exact HB.out | apply below_alloc | apply pw_below_drewN | apply below_drew1) | exact HB.out)) hb); clear HO_8; clear HO_20; clear HB; have HO_8 := n0_; have HO_20 := n1_; have HB := n2_; clear n0_ n1_ n2_; (try clear hb); (try clear hb2); (try clear hk); (try clear hi)))
             go_ret
             exact ⟨by first | rfl | (simp [errW_none, errW_some] <;> rfl) | (simp [*, errW_none, errW_some] <;> rfl), by repeat (first | (with_reducible first | exact HB.out | apply below_alloc | apply pw_below_drewN | apply below_drew1) | exact HB.out)⟩
           ·rw [if_neg c30] at H
            have c30b0 : (t844 == (t835.length : Int)) = false := beq_eq_false_iff_ne.mpr c30
            have c30b1 : (t844 != (t835.length : Int)) = true := bne_iff_ne.mpr c30
            obtain rfl := Option.some.inj H
            obtain ⟨Ao44, co44, eo44⟩ := Kd.R_slice HO_20.out
            subst eo44
            go_wp2_with (first | ((with_reducible refine gate_callee (f := 56) rfl ?_); refine goesL_ (some 77) rfl rfl Tryd.func56 (by kernel_rfl) rfl #[.string t832, .slice Ao44 x20_1.length co44, .int .i64 (wrap64 (1 + t833)), .int .i64 (wrap64 (1 + t834))] rfl (by (try simp only [List.map_toArray, List.map_cons, List.map_nil]); first | done | rfl | (simp only [List.length_drop, List.length_take]; rfl)) ?_; (with_reducible refine (parse_Cost.calls (hG := ?hg) k1 t832 _ _ x20_1 (wrap64 (1 + t833)) (wrap64 (1 + t834)) t856 t857 _ ?side1 ?side2 A22.out).mono ?_); (case hg => exact gw_now hG (by repeat (first | (with_reducible first | exact HB.out | apply below_alloc | apply pw_below_drewN | apply below_drew1) | exact HB.out))); (case side1 => repeat (first | exact (Kd.R_reads' HO_20.out).2.2 | (with_reducible refine Kd.C_alloc ?_ _) | (with_reducible refine Kd.C_drewN ?_ _) | (with_reducible refine Kd.C_drew ?_))); (case side2 => exact (Kd.R_reads' HO_20.out).2.1); rintro e w45 ⟨rfl, hb⟩; refine ⟨_, rfl, ?_⟩; have n0_ := Aside0.mk (Kd.R_below (by (with_reducible repeat (first | apply Kd.R_alloc | apply Kd.R_drewN | apply Kd.R_drew)); exact HO_8.out) hb); have n1_ := Aside0.mk (Kd.R_below (by (with_reducible repeat (first | apply Kd.R_alloc | apply Kd.R_drewN | apply Kd.R_drew)); exact HO_20.out) hb); have n2_ := Aside0.mk (below_step (by repeat (first | (with_reducible first | exact HB.out | apply below_alloc | apply pw_below_drewN | apply below_drew1) | exact HB.out)) hb); clear HO_8; clear HO_20; clear HB; have HO_8 := n0_; have HO_20 := n1_; have HB := n2_; clear n0_ n1_ n2_; (try clear hb); (try clear hb2); (try clear hk); (try clear hi)))
            go_ret
            exact ⟨by first | rfl | (simp [errW_none, errW_some] <;> rfl) | (simp [*, errW_none, errW_some] <;> rfl), by repeat (first | (with_reducible first | exact HB.out | apply below_alloc | apply pw_below_drewN | apply below_drew1) | exact HB.out)⟩
          ·rw [if_neg c29] at H
           have c29b0 : (t840 == (t835.length : Int)) = false := beq_eq_false_iff_ne.mpr c29
           have c29b1 : (t840 != (t835.length : Int)) = true := bne_iff_ne.mpr c29
           obtain rfl := Option.some.inj H
           obtain ⟨Ao46, co46, eo46⟩ := Kd.R_slice HO_20.out
           subst eo46
           go_wp2_with (first | ((with_reducible refine gate_callee (f := 56) rfl ?_); refine goesL_ (some 77) rfl rfl Tryd.func56 (by kernel_rfl) rfl #[.string t832, .slice Ao46 x20_1.length co46, .int .i64 (wrap64 (1 + t833)), .int .i64 (wrap64 (1 + t834))] rfl (by (try simp only [List.map_toArray, List.map_cons, List.map_nil]); first | done | rfl | (simp only [List.length_drop, List.length_take]; rfl)) ?_; (with_reducible refine (parse_Cost.calls (hG := ?hg) k1 t832 _ _ x20_1 (wrap64 (1 + t833)) (wrap64 (1 + t834)) t856 t857 _ ?side1 ?side2 A22.out).mono ?_); (case hg => exact gw_now hG (by repeat (first | (with_reducible first | exact HB.out | apply below_alloc | apply pw_below_drewN | apply below_drew1) | exact HB.out))); (case side1 => repeat (first | exact (Kd.R_reads' HO_20.out).2.2 | (with_reducible refine Kd.C_alloc ?_ _) | (with_reducible refine Kd.C_drewN ?_ _) | (with_reducible refine Kd.C_drew ?_))); (case side2 => exact (Kd.R_reads' HO_20.out).2.1); rintro e w47 ⟨rfl, hb⟩; refine ⟨_, rfl, ?_⟩; have n0_ := Aside0.mk (Kd.R_below (by (with_reducible repeat (first | apply Kd.R_alloc | apply Kd.R_drewN | apply Kd.R_drew)); exact HO_8.out) hb); have n1_ := Aside0.mk (Kd.R_below (by (with_reducible repeat (first | apply Kd.R_alloc | apply Kd.R_drewN | apply Kd.R_drew)); exact HO_20.out) hb); have n2_ := Aside0.mk (below_step (by repeat (first | (with_reducible first | exact HB.out | apply below_alloc | apply pw_below_drewN | apply below_drew1) | exact HB.out)) hb); clear HO_8; clear HO_20; clear HB; have HO_8 := n0_; have HO_20 := n1_; have HB := n2_; clear n0_ n1_ n2_; (try clear hb); (try clear hb2); (try clear hk); (try clear hi)))
           go_ret
           exact ⟨by first | rfl | (simp [errW_none, errW_some] <;> rfl) | (simp [*, errW_none, errW_some] <;> rfl), by repeat (first | (with_reducible first | exact HB.out | apply below_alloc | apply pw_below_drewN | apply below_drew1) | exact HB.out)⟩
         ·rw [if_neg c28] at H
          have c28b0 : (t857 == 0) = false := beq_eq_false_iff_ne.mpr c28
          have c28b1 : (t857 != 0) = true := bne_iff_ne.mpr c28
          obtain rfl := Option.some.inj H
          obtain ⟨Ao48, co48, eo48⟩ := Kd.R_slice HO_20.out
          subst eo48
          go_wp2_with (first | ((with_reducible refine gate_callee (f := 56) rfl ?_); refine goesL_ (some 77) rfl rfl Tryd.func56 (by kernel_rfl) rfl #[.string t832, .slice Ao48 x20_1.length co48, .int .i64 (wrap64 (1 + t833)), .int .i64 (wrap64 (1 + t834))] rfl (by (try simp only [List.map_toArray, List.map_cons, List.map_nil]); first | done | rfl | (simp only [List.length_drop, List.length_take]; rfl)) ?_; (with_reducible refine (parse_Cost.calls (hG := ?hg) k1 t832 _ _ x20_1 (wrap64 (1 + t833)) (wrap64 (1 + t834)) t856 t857 _ ?side1 ?side2 A22.out).mono ?_); (case hg => exact gw_now hG (by repeat (first | (with_reducible first | exact HB.out | apply below_alloc | apply pw_below_drewN | apply below_drew1) | exact HB.out))); (case side1 => repeat (first | exact (Kd.R_reads' HO_20.out).2.2 | (with_reducible refine Kd.C_alloc ?_ _) | (with_reducible refine Kd.C_drewN ?_ _) | (with_reducible refine Kd.C_drew ?_))); (case side2 => exact (Kd.R_reads' HO_20.out).2.1); rintro e w49 ⟨rfl, hb⟩; refine ⟨_, rfl, ?_⟩; have n0_ := Aside0.mk (Kd.R_below (by (with_reducible repeat (first | apply Kd.R_alloc | apply Kd.R_drewN | apply Kd.R_drew)); exact HO_8.out) hb); have n1_ := Aside0.mk (Kd.R_below (by (with_reducible repeat (first | apply Kd.R_alloc | apply Kd.R_drewN | apply Kd.R_drew)); exact HO_20.out) hb); have n2_ := Aside0.mk (below_step (by repeat (first | (with_reducible first | exact HB.out | apply below_alloc | apply pw_below_drewN | apply below_drew1) | exact HB.out)) hb); clear HO_8; clear HO_20; clear HB; have HO_8 := n0_; have HO_20 := n1_; have HB := n2_; clear n0_ n1_ n2_; (try clear hb); (try clear hb2); (try clear hk); (try clear hi)))
          go_ret
          exact ⟨by first | rfl | (simp [errW_none, errW_some] <;> rfl) | (simp [*, errW_none, errW_some] <;> rfl), by repeat (first | (with_reducible first | exact HB.out | apply below_alloc | apply pw_below_drewN | apply below_drew1) | exact HB.out)⟩
        ·rw [if_neg c27] at H
         have c27b0 : (t852 == 0) = false := beq_eq_false_iff_ne.mpr c27
         have c27b1 : (t852 != 0) = true := bne_iff_ne.mpr c27
         obtain rfl := Option.some.inj H
         obtain ⟨Ao50, co50, eo50⟩ := Kd.R_slice HO_20.out
         subst eo50
         go_wp2_with (first | ((with_reducible refine gate_callee (f := 56) rfl ?_); refine goesL_ (some 77) rfl rfl Tryd.func56 (by kernel_rfl) rfl #[.string t832, .slice Ao50 x20_1.length co50, .int .i64 (wrap64 (1 + t833)), .int .i64 (wrap64 (1 + t834))] rfl (by (try simp only [List.map_toArray, List.map_cons, List.map_nil]); first | done | rfl | (simp only [List.length_drop, List.length_take]; rfl)) ?_; (with_reducible refine (parse_Cost.calls (hG := ?hg) k1 t832 _ _ x20_1 (wrap64 (1 + t833)) (wrap64 (1 + t834)) t856 t857 _ ?side1 ?side2 A22.out).mono ?_); (case hg => exact gw_now hG (by repeat (first | (with_reducible first | exact HB.out | apply below_alloc | apply pw_below_drewN | apply below_drew1) | exact HB.out))); (case side1 => repeat (first | exact (Kd.R_reads' HO_20.out).2.2 | (with_reducible refine Kd.C_alloc ?_ _) | (with_reducible refine Kd.C_drewN ?_ _) | (with_reducible refine Kd.C_drew ?_))); (case side2 => exact (Kd.R_reads' HO_20.out).2.1); rintro e w51 ⟨rfl, hb⟩; refine ⟨_, rfl, ?_⟩; have n0_ := Aside0.mk (Kd.R_below (by (with_reducible repeat (first | apply Kd.R_alloc | apply Kd.R_drewN | apply Kd.R_drew)); exact HO_8.out) hb); have n1_ := Aside0.mk (Kd.R_below (by (with_reducible repeat (first | apply Kd.R_alloc | apply Kd.R_drewN | apply Kd.R_drew)); exact HO_20.out) hb); have n2_ := Aside0.mk (below_step (by repeat (first | (with_reducible first | exact HB.out | apply below_alloc | apply pw_below_drewN | apply below_drew1) | exact HB.out)) hb); clear HO_8; clear HO_20; clear HB; have HO_8 := n0_; have HO_20 := n1_; have HB := n2_; clear n0_ n1_ n2_; (try clear hb); (try clear hb2); (try clear hk); (try clear hi)))
         go_ret
         exact ⟨by first | rfl | (simp [errW_none, errW_some] <;> rfl) | (simp [*, errW_none, errW_some] <;> rfl), by repeat (first | (with_reducible first | exact HB.out | apply below_alloc | apply pw_below_drewN | apply below_drew1) | exact HB.out)⟩
       ·rw [if_neg c26] at H
        have c26b0 : (t848 == 0) = false := beq_eq_false_iff_ne.mpr c26
        have c26b1 : (t848 != 0) = true := bne_iff_ne.mpr c26
        obtain rfl := Option.some.inj H
        obtain ⟨Ao52, co52, eo52⟩ := Kd.R_slice HO_20.out
        subst eo52
        go_wp2_with (first | ((with_reducible refine gate_callee (f := 56) rfl ?_); refine goesL_ (some 77) rfl rfl Tryd.func56 (by kernel_rfl) rfl #[.string t832, .slice Ao52 x20_1.length co52, .int .i64 (wrap64 (1 + t833)), .int .i64 (wrap64 (1 + t834))] rfl (by (try simp only [List.map_toArray, List.map_cons, List.map_nil]); first | done | rfl | (simp only [List.length_drop, List.length_take]; rfl)) ?_; (with_reducible refine (parse_Cost.calls (hG := ?hg) k1 t832 _ _ x20_1 (wrap64 (1 + t833)) (wrap64 (1 + t834)) t856 t857 _ ?side1 ?side2 A22.out).mono ?_); (case hg => exact gw_now hG (by repeat (first | (with_reducible first | exact HB.out | apply below_alloc | apply pw_below_drewN | apply below_drew1) | exact HB.out))); (case side1 => repeat (first | exact (Kd.R_reads' HO_20.out).2.2 | (with_reducible refine Kd.C_alloc ?_ _) | (with_reducible refine Kd.C_drewN ?_ _) | (with_reducible refine Kd.C_drew ?_))); (case side2 => exact (Kd.R_reads' HO_20.out).2.1); rintro e w53 ⟨rfl, hb⟩; refine ⟨_, rfl, ?_⟩; have n0_ := Aside0.mk (Kd.R_below (by (with_reducible repeat (first | apply Kd.R_alloc | apply Kd.R_drewN | apply Kd.R_drew)); exact HO_8.out) hb); have n1_ := Aside0.mk (Kd.R_below (by (with_reducible repeat (first | apply Kd.R_alloc | apply Kd.R_drewN | apply Kd.R_drew)); exact HO_20.out) hb); have n2_ := Aside0.mk (below_step (by repeat (first | (with_reducible first | exact HB.out | apply below_alloc | apply pw_below_drewN | apply below_drew1) | exact HB.out)) hb); clear HO_8; clear HO_20; clear HB; have HO_8 := n0_; have HO_20 := n1_; have HB := n2_; clear n0_ n1_ n2_; (try clear hb); (try clear hb2); (try clear hk); (try clear hi)))
        go_ret
        exact ⟨by first | rfl | (simp [errW_none, errW_some] <;> rfl) | (simp [*, errW_none, errW_some] <;> rfl), by repeat (first | (with_reducible first | exact HB.out | apply below_alloc | apply pw_below_drewN | apply below_drew1) | exact HB.out)⟩
      ·rw [if_neg c25] at H
       have c25b0 : (t845 == 0) = false := beq_eq_false_iff_ne.mpr c25
       have c25b1 : (t845 != 0) = true := bne_iff_ne.mpr c25
       obtain rfl := Option.some.inj H
       obtain ⟨Ao54, co54, eo54⟩ := Kd.R_slice HO_20.out
       subst eo54
       go_wp2_with (first | ((with_reducible refine gate_callee (f := 56) rfl ?_); refine goesL_ (some 77) rfl rfl Tryd.func56 (by kernel_rfl) rfl #[.string t832, .slice Ao54 x20_1.length co54, .int .i64 (wrap64 (1 + t833)), .int .i64 (wrap64 (1 + t834))] rfl (by (try simp only [List.map_toArray, List.map_cons, List.map_nil]); first | done | rfl | (simp only [List.length_drop, List.length_take]; rfl)) ?_; (with_reducible refine (parse_Cost.calls (hG := ?hg) k1 t832 _ _ x20_1 (wrap64 (1 + t833)) (wrap64 (1 + t834)) t856 t857 _ ?side1 ?side2 A22.out).mono ?_); (case hg => exact gw_now hG (by repeat (first | (with_reducible first | exact HB.out | apply below_alloc | apply pw_below_drewN | apply below_drew1) | exact HB.out))); (case side1 => repeat (first | exact (Kd.R_reads' HO_20.out).2.2 | (with_reducible refine Kd.C_alloc ?_ _) | (with_reducible refine Kd.C_drewN ?_ _) | (with_reducible refine Kd.C_drew ?_))); (case side2 => exact (Kd.R_reads' HO_20.out).2.1); rintro e w55 ⟨rfl, hb⟩; refine ⟨_, rfl, ?_⟩; have n0_ := Aside0.mk (Kd.R_below (by (with_reducible repeat (first | apply Kd.R_alloc | apply Kd.R_drewN | apply Kd.R_drew)); exact HO_8.out) hb); have n1_ := Aside0.mk (Kd.R_below (by (with_reducible repeat (first | apply Kd.R_alloc | apply Kd.R_drewN | apply Kd.R_drew)); exact HO_20.out) hb); have n2_ := Aside0.mk (below_step (by repeat (first | (with_reducible first | exact HB.out | apply below_alloc | apply pw_below_drewN | apply below_drew1) | exact HB.out)) hb); clear HO_8; clear HO_20; clear HB; have HO_8 := n0_; have HO_20 := n1_; have HB := n2_; clear n0_ n1_ n2_; (try clear hb); (try clear hb2); (try clear hk); (try clear hi)))
       go_ret
       exact ⟨by first | rfl | (simp [errW_none, errW_some] <;> rfl) | (simp [*, errW_none, errW_some] <;> rfl), by repeat (first | (with_reducible first | exact HB.out | apply below_alloc | apply pw_below_drewN | apply below_drew1) | exact HB.out)⟩
     ·rw [if_neg c24] at H
      have c24b0 : (t841 == 0) = false := beq_eq_false_iff_ne.mpr c24
      have c24b1 : (t841 != 0) = true := bne_iff_ne.mpr c24
      obtain rfl := Option.some.inj H
      obtain ⟨Ao56, co56, eo56⟩ := Kd.R_slice HO_20.out
      subst eo56
      go_wp2_with (first | ((with_reducible refine gate_callee (f := 56) rfl ?_); refine goesL_ (some 77) rfl rfl Tryd.func56 (by kernel_rfl) rfl #[.string t832, .slice Ao56 x20_1.length co56, .int .i64 (wrap64 (1 + t833)), .int .i64 (wrap64 (1 + t834))] rfl (by (try simp only [List.map_toArray, List.map_cons, List.map_nil]); first | done | rfl | (simp only [List.length_drop, List.length_take]; rfl)) ?_; (with_reducible refine (parse_Cost.calls (hG := ?hg) k1 t832 _ _ x20_1 (wrap64 (1 + t833)) (wrap64 (1 + t834)) t856 t857 _ ?side1 ?side2 A22.out).mono ?_); (case hg => exact gw_now hG (by repeat (first | (with_reducible first | exact HB.out | apply below_alloc | apply pw_below_drewN | apply below_drew1) | exact HB.out))); (case side1 => repeat (first | exact (Kd.R_reads' HO_20.out).2.2 | (with_reducible refine Kd.C_alloc ?_ _) | (with_reducible refine Kd.C_drewN ?_ _) | (with_reducible refine Kd.C_drew ?_))); (case side2 => exact (Kd.R_reads' HO_20.out).2.1); rintro e w57 ⟨rfl, hb⟩; refine ⟨_, rfl, ?_⟩; have n0_ := Aside0.mk (Kd.R_below (by (with_reducible repeat (first | apply Kd.R_alloc | apply Kd.R_drewN | apply Kd.R_drew)); exact HO_8.out) hb); have n1_ := Aside0.mk (Kd.R_below (by (with_reducible repeat (first | apply Kd.R_alloc | apply Kd.R_drewN | apply Kd.R_drew)); exact HO_20.out) hb); have n2_ := Aside0.mk (below_step (by repeat (first | (with_reducible first | exact HB.out | apply below_alloc | apply pw_below_drewN | apply below_drew1) | exact HB.out)) hb); clear HO_8; clear HO_20; clear HB; have HO_8 := n0_; have HO_20 := n1_; have HB := n2_; clear n0_ n1_ n2_; (try clear hb); (try clear hb2); (try clear hk); (try clear hi)))
      go_ret
      exact ⟨by first | rfl | (simp [errW_none, errW_some] <;> rfl) | (simp [*, errW_none, errW_some] <;> rfl), by repeat (first | (with_reducible first | exact HB.out | apply below_alloc | apply pw_below_drewN | apply below_drew1) | exact HB.out)⟩
    ·rw [if_neg c23] at H
     have c23b0 : (t836 == 0) = false := beq_eq_false_iff_ne.mpr c23
     have c23b1 : (t836 != 0) = true := bne_iff_ne.mpr c23
     obtain rfl := Option.some.inj H
     obtain ⟨Ao58, co58, eo58⟩ := Kd.R_slice HO_20.out
     subst eo58
     go_wp2_with (first | ((with_reducible refine gate_callee (f := 56) rfl ?_); refine goesL_ (some 77) rfl rfl Tryd.func56 (by kernel_rfl) rfl #[.string t832, .slice Ao58 x20_1.length co58, .int .i64 (wrap64 (1 + t833)), .int .i64 (wrap64 (1 + t834))] rfl (by (try simp only [List.map_toArray, List.map_cons, List.map_nil]); first | done | rfl | (simp only [List.length_drop, List.length_take]; rfl)) ?_; (with_reducible refine (parse_Cost.calls (hG := ?hg) k1 t832 _ _ x20_1 (wrap64 (1 + t833)) (wrap64 (1 + t834)) t856 t857 _ ?side1 ?side2 A22.out).mono ?_); (case hg => exact gw_now hG (by repeat (first | (with_reducible first | exact HB.out | apply below_alloc | apply pw_below_drewN | apply below_drew1) | exact HB.out))); (case side1 => repeat (first | exact (Kd.R_reads' HO_20.out).2.2 | (with_reducible refine Kd.C_alloc ?_ _) | (with_reducible refine Kd.C_drewN ?_ _) | (with_reducible refine Kd.C_drew ?_))); (case side2 => exact (Kd.R_reads' HO_20.out).2.1); rintro e w59 ⟨rfl, hb⟩; refine ⟨_, rfl, ?_⟩; have n0_ := Aside0.mk (Kd.R_below (by (with_reducible repeat (first | apply Kd.R_alloc | apply Kd.R_drewN | apply Kd.R_drew)); exact HO_8.out) hb); have n1_ := Aside0.mk (Kd.R_below (by (with_reducible repeat (first | apply Kd.R_alloc | apply Kd.R_drewN | apply Kd.R_drew)); exact HO_20.out) hb); have n2_ := Aside0.mk (below_step (by repeat (first | (with_reducible first | exact HB.out | apply below_alloc | apply pw_below_drewN | apply below_drew1) | exact HB.out)) hb); clear HO_8; clear HO_20; clear HB; have HO_8 := n0_; have HO_20 := n1_; have HB := n2_; clear n0_ n1_ n2_; (try clear hb); (try clear hb2); (try clear hk); (try clear hi)))
     go_ret
     exact ⟨by first | rfl | (simp [errW_none, errW_some] <;> rfl) | (simp [*, errW_none, errW_some] <;> rfl), by repeat (first | (with_reducible first | exact HB.out | apply below_alloc | apply pw_below_drewN | apply below_drew1) | exact HB.out)⟩

/-- THE ONE PURE STATEMENT of numnahlaw09_ParseGreedy: yours. -/
def numnahlaw09_ParseGreedy.Pure : Prop := ∀ (a0 : ByteArray) (a1 : Int) (a2 : Int), a0.size ≤ 140737488351232 → (Lit.int .i64 a1).wf = true → (Lit.int .i64 a2).wf = true → ∃ k, numnahlaw09_ParseGreedy.f k a0 a1 a2 = some true
theorem numnahlaw09_ParseGreedy.walk (P : numnahlaw09_ParseGreedy.Pure) (a0 : ByteArray) (a1 : Int) (a2 : Int) (w : World) (hG : GW w) (w0 : a0.size ≤ 140737488351232) (w1 : (Lit.int .i64 a1).wf = true) (w2 : (Lit.int .i64 a2).wf = true) :
  Calls Tryd.prog 18 #[.string a0, .int .i64 a1, .int .i64 a2] w fun e w' => e = .returned (.bool true) ∧ Below w.heap.size w w' := by
 obtain ⟨k, h⟩ := P a0 a1 a2 w0 w1 w2
 refine (numnahlaw09_ParseGreedy.calls (hG := hG) k a0 a1 a2 true w w0 h).mono ?_
 rintro e w' ⟨rfl, hd⟩
 exact ⟨rfl, hd⟩

end Go.Proofs.YtpeeflkodpnbpaaDoor.Pr
-- indented by one
