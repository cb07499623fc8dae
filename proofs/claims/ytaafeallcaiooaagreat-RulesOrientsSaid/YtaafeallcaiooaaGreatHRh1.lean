/- the reference's decide on two applications. -/
import Derived.Test.YtaafeallcaiooaaGreatHRh0
namespace Go.Proofs.YtaafeallcaiooaaGreat.Pr
open Go.RowKit Go.Maps Go.Proofs.YtaafeallcaiooaaGreatW.PrintWords Go.Proofs.YtaafeallcaiooaaGreatW.PrintLast Go.Proofs.YtaafeallcaiooaaGreatW.PrintMore
set_option linter.unusedVariables false
set_option linter.unusedSimpArgs false
set_option maxRecDepth 100000 in
set_option maxHeartbeats 8000000 in
theorem decide_aa (p s t : ByteArray) (hP : IsPrec p) (hs : s.size ≤ 1000000) (ht : t.size ≤ 1000000) (A : Addr) (cap : Nat) (ar : Nat → Addr) (cr : Nat → Nat) (sy : Int) (l : List Tm) (sy' : Int) (l' : List Tm) (i j : Nat) (ha : AtB s i (.app sy l)) (hb : AtB t j (.app sy' l'))
  (ih : ∀ (a b : Tm) (i j : Nat), AtB s i a → AtB t j b → a.size + b.size ≤ (Tm.app sy l).size + (Tm.app sy' l').size - 1 → GrK 94 p s t A cap ar cr (a.size + b.size) a b i j) : GrK 131 p s t A cap ar cr ((Tm.app sy l).size + (Tm.app sy' l').size - 1) (.app sy l) (.app sy' l') i j := by
 intro w K0 hT hV
 obtain ⟨M, hM⟩ : ∃ M, M = (Tm.app sy l).size + (Tm.app sy' l').size - 1 := ⟨_, rfl⟩
 rw [← hM] at ih hV ⊢
 obtain ⟨g, hg⟩ : ∃ g, g = gt (rankP p) (.app sy l) (.app sy' l') := ⟨_, rfl⟩
 rw [← hg]
 rw [gt_app] at hg
 have hi := ha.lt.1
 have hj := hb.lt.1
 have hch := ha.chr
 have hcj := hb.chr
 dsimp only at hch hcj
 have hga := ha.1
 have hgb := hb.1
 have hl2 := good_len hga
 have hl2' := good_len hgb
 rw [Tm.good] at hga hgb
 have hPB : ∀ k, InT s.size ar k → k < w.heap.size := fun k hk => by
  obtain ⟨i', h1, h2⟩ := hk
  rw [h2]
  exact hT.lt h1
 have hsz : ∀ (k : Nat) (h : k < l.length), l[k].size + (Tm.app sy' l').size ≤ M := fun k h => by
  have := sizes_at h
  rw [hM, Tm.size.eq_2 sy l]
  omega
 have hsz' : ∀ (k : Nat) (h : k < l'.length), (Tm.app sy l).size + l'[k].size ≤ M := fun k h => by
  have := sizes_at h
  rw [hM, Tm.size.eq_2 sy' l']
  omega
 have hsz2 : ∀ (k : Nat) (h : k < l.length) (h' : k < l'.length), l[k].size + l'[k].size ≤ M := fun k h h' => by
  have h1 := sizes_at h
  have h2 := sizes_at h'
  rw [hM, Tm.size.eq_2 sy l, Tm.size.eq_2 sy' l']
  omega
 -- the calls
 have HC1 := Aside0.mk (fun w => isvar_calls sy w)
 rw [symI hga.1] at HC1
 have HC2 := Aside0.mk (fun w => isvar_calls sy' w)
 rw [symI hgb.1] at HC2
 have HE := Aside0.mk (fun w => end_C ht hb w)
 have HSa := Aside0.mk (fun w => starts_C hs ha w)
 have HSb := Aside0.mk (fun w => starts_C ht hb w)
 have HR1 := Aside0.mk (fun w => rank_C hP sy hga.1 w)
 have HR2 := Aside0.mk (fun w => rank_C hP sy' hgb.1 w)
 have hslb := hb.slice
 have HSL := Aside0.mk hslb
 have HPa := Aside0.mk (fun (k : Nat) (hk : k < l.length) => parts_at ha k hk)
 have HPb := Aside0.mk (fun (k : Nat) (hk : k < l'.length) => parts_at hb k hk)
 have HIa := Aside0.mk (fun (k q : Nat) (hk : k < l.length) (hq : AtB s q l[k]) => ih l[k] (.app sy' l') q j hq hb (hsz k hk))
 have HIb := Aside0.mk (fun (k q : Nat) (hk : k < l'.length) (hq : AtB t q l'[k]) => ih (.app sy l) l'[k] i q ha hq (hsz' k hk))
 have HIc := Aside0.mk (fun (k q q' : Nat) (hk : k < l.length) (hk' : k < l'.length) (hq : AtB s q l[k]) (hq' : AtB t q' l'[k]) => ih l[k] l'[k] q q' hq hq' (hsz2 k hk hk'))
 have HMa := Aside0.mk (And.intro hsz (And.intro hsz' hsz2))
 have HV := Aside0.mk (And.intro hV hPB)
 have HG0 : Aside0 (GSt p s t A ar cr M w K0 w) := ⟨ButP.refl _ _, K0, hT, PostK.refl _ _ _ _ _⟩
 have hll : sy = sy' → l.length = l'.length := fun e => by have h1 := hga.2.1; have h2 := hgb.2.1; rw [e] at h1; omega
 have HG := Aside0.mk (And.intro hg hll)
 have HLN := Aside0.mk (And.intro hl2 (And.intro hl2' (And.intro hs ht)))
 clear ih hV hT hPB hsz hsz' hsz2 hga hgb ha hb hg hll hl2 hl2' hs ht hM hP
 obtain ⟨bt_, hbt⟩ : ∃ x, x = (Tm.app sy' l').text := ⟨_, rfl⟩
 rw [← hbt] at hslb
 obtain ⟨lb, hlb⟩ : ∃ x, x = (Tm.app sy' l').tx.length := ⟨_, rfl⟩
 rw [← hlb] at HE hslb
 have HBT := Aside0.mk hbt
 clear hbt hlb HSL
 go_enter Tryz.func131, Tryz.ntmps131
 go_upto_region 7 with (first
  | (go_at_call 74; refine (HC1.out _).mono ?_; rintro e w1 ⟨rfl, h1⟩; subst w1)
  | (go_at_call 74; refine (HC2.out _).mono ?_; rintro e w1 ⟨rfl, h1⟩; subst w1)
  | (go_at_call 72; refine (HE.out _).mono ?_; rintro e w2 ⟨rfl, hb2⟩; have H2 := Aside0.mk (GSt.below HG0.out hb2); have HB2 := Aside0.mk hb2; clear hb2)
  | (go_at_call 75; refine (HSa.out _).mono ?_; rintro e w3 ⟨⟨Aa, ca, rfl, hS⟩, hb3⟩; have H3 := Aside0.mk (And.intro (GSt.below H2.out hb3) hS); have HB3 := Aside0.mk (below_step HB2.out hb3); clear hS hb3 HSa)
  | (go_at_call 75; refine (HSb.out _).mono ?_; rintro e w4 ⟨⟨Ab, cb, rfl, hS⟩, hb4⟩; have H4 := Aside0.mk (And.intro (GSt.below H3.out.1 hb4) (And.intro (SLn.below H3.out.2 hb4) hS)); have HB4 := Aside0.mk (below_step HB3.out hb4); clear hS hb4 HSb))
 have HL4 : Aside0 (LS p s t A ar cr M w K0 Aa (posn (i + 1) l) Ab (posn (j + 1) l') w4) := ⟨H4.out.1, fun k hk => by
  obtain ⟨ad, q1, q2, q3⟩ := H4.out.2.1 k hk
  exact ⟨ad, q1, Nat.le_trans HB2.out.size q2, q3⟩, fun k hk => by
  obtain ⟨ad, q1, q2, q3⟩ := H4.out.2.2 k hk
  exact ⟨ad, q1, Nat.le_trans HB3.out.size q2, q3⟩⟩
 clear H2 H3 H4 HB2 HB3 HB4 HG0 HE hslb
 obtain ⟨xs, hxs⟩ : ∃ xs, xs = posn (i + 1) l := ⟨_, rfl⟩
 obtain ⟨ys, hys⟩ : ∃ ys, ys = posn (j + 1) l' := ⟨_, rfl⟩
 have hxl : xs.length = l.length := by rw [hxs, posn_len]
 have hyl : ys.length = l'.length := by rw [hys, posn_len]
 rw [← hxs] at HL4 HPa
 rw [← hys] at HL4 HPb
 have HXY := Aside0.mk (And.intro hxl hyl)
 clear hxs hys hxl hyl
 go_wp2
 go_loopw [16] (fun v16 wr => ∃ k : Nat, v16 = .int .i64 (k : Int) ∧ Aside0 (k ≤ l.length) ∧ Aside0 ((l.take k).any (fun u => sameB u (.app sy' l') || gt (rankP p) u (.app sy' l')) = false) ∧ Aside0 (LS p s t A ar cr M w K0 Aa xs Ab ys wr)) (fun v16 _ => l.length - (intOf v16).toNat)
 case atStart => exact ⟨0, rfl, ⟨Nat.zero_le _⟩, ⟨rfl⟩, HL4⟩
 case round =>
  clear HL4
  obtain ⟨k, rfl, HK, HN, HS⟩ := hrel
  by_cases hk : k < l.length
  ·have hkb : decide ((k : Int) < (l.length : Int)) = true := decide_eq_true (by omega)
   have hkb2 : decide (k < l.length) = true := decide_eq_true hk
   have hw1 := wrK k (by have := HLN.out.1; omega)
   obtain ⟨ad, hAa, _, hce⟩ := HS.out.2.1 k (by rw [HXY.out.1]; exact hk)
   subst hAa
   obtain ⟨q, hq, hAt⟩ := HPa.out k hk
   rw [hq] at hce
   have hsl := hAt.slice
   have HE := Aside0.mk (fun w => end_C HLN.out.2.2.1 hAt w)
   have hki : (k < l.length) = True := eq_true hk
   have HCG := Aside0.mk (fun (w' : World) (h : GSt p s t A ar cr M w K0 w') => callG (HIa.out k q hk hAt) (HMa.out.1 k hk) HV.out.1 h)
   obtain ⟨gv, hgv⟩ : ∃ x, x = gt (rankP p) l[k] (.app sy' l') := ⟨_, rfl⟩
   rw [← hgv] at HCG
   obtain ⟨ut, hut⟩ : ∃ x, x = l[k].text := ⟨_, rfl⟩
   rw [← hut] at hsl
   obtain ⟨lu, hlu⟩ : ∃ x, x = l[k].tx.length := ⟨_, rfl⟩
   rw [← hlu] at hsl HE
   have hsm : (ut.toList == bt_.toList) = sameB l[k] (.app sy' l') := by rw [hut, HBT.out]; exact text_beq _ _
   have hyes : sameB l[k] (.app sy' l') = true ∨ gv = true → g = true := fun h => by
    rw [HG.out.1, if_pos]
    refine any_at hk ?_
    rw [Bool.or_eq_true, ← hgv]
    exact h
   have hno : sameB l[k] (.app sy' l') = false → gv = false → (l.take (k + 1)).any (fun u => sameB u (.app sy' l') || gt (rankP p) u (.app sy' l')) = false := fun h1 h2 => any_take hk HN.out (by rw [h1, ← hgv, h2]; rfl)
   obtain ⟨sm, hsm'⟩ : ∃ x, x = sameB l[k] (.app sy' l') := ⟨_, rfl⟩
   rw [← hsm'] at hsm hyes hno
   have HY := Aside0.mk (And.intro hyes hno)
   clear hyes hno hsm' hlu hut hgv hAt hq
   cases sm with
   | true =>
    have hg1 : g = true := HY.out.1 (.inl rfl)
    subst hg1
    clear HY HCG
    go_wp2
    have HD := Aside0.mk (LS.below HS.out (pw_below_drewN (Below.refl _ _) 1))
    have hy0 : wr.drew.cell? (ad.add k) = some (.int .i64 (q : Int)) := hce
    refine start_ (n := 26) (S := fun w' => w'.cell? (ad.add k) = some (.int .i64 (q : Int))) (ds := []) (bm 26 0) (by kernel_rfl) rfl rfl (hy0) (fun hHeld => ?_)
    refine pure_ (i := 0) (N := some 55) (bm 26 1) rfl rfl (by kernel_rfl) (fun _ _ _ h => h) (.inl ⟨rfl, tY_⟩) tP_ ?_
    refine pure_ (i := 1) (N := some 56) (bm 26 3) rfl rfl (by kernel_rfl) (fun _ _ _ h => h) (.inl ⟨rfl, tY_⟩) tP_ ?_
    refine pure_ (i := 2) (N := some 57) (bm 26 7) rfl rfl (by kernel_rfl) (fun _ _ _ h => h) (.inl ⟨rfl, tY_⟩) tP_ ?_
    refine pure_ (i := 3) (N := some 58) (bm 26 15) rfl rfl (by kernel_rfl) (fun _ _ _ h => h) (.inl ⟨rfl, tY_⟩) tP_ ?_
    refine pure_ (i := 5) (N := some 60) (bm 26 47) rfl rfl (by kernel_rfl) (fun _ _ _ h => h) (.inl ⟨rfl, tY_⟩) tP_ ?_
    refine pure_ (i := 6) (N := some 61) (bm 26 111) rfl rfl (by kernel_rfl) (fun _ _ _ h => h) (.inl ⟨rfl, tY_⟩) tP_ ?_
    refine pure_ (i := 7) (N := some 62) (bm 26 239) rfl rfl (by kernel_rfl) (fun _ _ _ h => h) (.inl ⟨rfl, tY_⟩) tP_ ?_
    refine pure_ (i := 8) (N := some 63) (bm 26 495) rfl rfl (by kernel_rfl) (fun _ _ _ h => h) (.inl ⟨rfl, tY_⟩) tP_ ?_
    refine pure_ (i := 12) (N := some 67) (bm 26 4591) rfl rfl (by kernel_rfl) (fun _ _ _ h => h) (.inl ⟨rfl, tY_⟩) tP_ ?_
    refine take_ (i := 4) (N := some 59) (v := ?_) (a' := ?_) (bm 26 4607) rfl rfl (by kernel_rfl) (fun _ _ _ h => h) (Or.inl ⟨by rfl, ?_⟩) hHeld ?_ ?_; rotate_left
    ·intro w' s0
     go_simp
     with_reducible rfl
    rotate_left; exact tP_
    refine take_ (i := 9) (N := some 64) (v := ?_) (a' := ?_) (bm 26 5119) rfl rfl (by kernel_rfl) (fun _ _ _ h => h) (Or.inl ⟨by rfl, ?_⟩) hHeld ?_ ?_; rotate_left
    ·intro w' s0
     go_simp
     with_reducible rfl
    rotate_left; exact tP_
    refine one_ (i := 10) (N := some 65) (bm 26 6143) rfl rfl (by kernel_rfl) (by decide) (fun K hK => ?_)
    refine goesD_ Tryz.func72 (by kernel_rfl) rfl #[.string s, .int .i64 (q : Int)] (by rfl) rfl rfl (by simp only [List.map_toArray, List.map_cons, List.map_nil]; rfl) ?_
    refine (HE.out _).mono ?_
    rintro e w5 ⟨rfl, hbw5⟩
    refine .inl ⟨_, rfl, ?_⟩
    have hy1 : w5.cell? (ad.add k) = some (.int .i64 (q : Int)) := (hbw5.cell (World.block_lt_of_cell? _ _ hy0)).trans hy0
    refine hK.out _ _ (hy1) (fun hHeld => ?_)
    clear hK K
    refine norm_ (a' := ?_) ?_ ?_; rotate_left; (show Act.put _ (some 65) _ = _; exact tP_)
    refine pure_ (i := 11) (N := some 66) (bm 26 8191) rfl rfl (by kernel_rfl) (fun _ _ _ h => h) (.inl ⟨rfl, tY_⟩) tP_ ?_
    refine pure_ (i := 13) (N := some 68) (bm 26 16383) rfl rfl (by kernel_rfl) (fun _ _ _ h => h) (.inl ⟨rfl, tY_⟩) tP_ ?_
    refine pure_ (i := 14) (N := some 69) (bm 26 32767) rfl rfl (by kernel_rfl) (fun _ _ _ h => h) (.inl ⟨rfl, tY_⟩) tP_ ?_
    refine pure_ (i := 15) (N := some 70) (v := undef) (a' := ?_) (bm 26 65535) rfl rfl (by kernel_rfl) (fun _ _ _ h => h) (Or.inr ⟨by rfl, rfl⟩) ?_ ?_; rotate_left; exact tP_
    refine pure_ (i := 16) (N := some 71) (v := undef) (a' := ?_) (bm 26 131071) rfl rfl (by kernel_rfl) (fun _ _ _ h => h) (Or.inr ⟨by rfl, rfl⟩) ?_ ?_; rotate_left; exact tP_
    refine pure_ (i := 17) (N := some 72) (v := undef) (a' := ?_) (bm 26 262143) rfl rfl (by kernel_rfl) (fun _ _ _ h => h) (Or.inr ⟨by rfl, rfl⟩) ?_ ?_; rotate_left; exact tP_
    refine pure_ (i := 18) (N := some 73) (v := undef) (a' := ?_) (bm 26 524287) rfl rfl (by kernel_rfl) (fun _ _ _ h => h) (Or.inr ⟨by rfl, rfl⟩) ?_ ?_; rotate_left; exact tP_
    refine pure_ (i := 19) (N := some 74) (v := undef) (a' := ?_) (bm 26 1048575) rfl rfl (by kernel_rfl) (fun _ _ _ h => h) (Or.inr ⟨by rfl, rfl⟩) ?_ ?_; rotate_left; exact tP_
    refine pure_ (i := 20) (N := some 75) (v := undef) (a' := ?_) (bm 26 2097151) rfl rfl (by kernel_rfl) (fun _ _ _ h => h) (Or.inr ⟨by rfl, rfl⟩) ?_ ?_; rotate_left; exact tP_
    refine pure_ (i := 21) (N := some 76) (v := undef) (a' := ?_) (bm 26 4194303) rfl rfl (by kernel_rfl) (fun _ _ _ h => h) (Or.inr ⟨by rfl, rfl⟩) ?_ ?_; rotate_left; exact tP_
    refine pure_ (i := 22) (N := some 77) (v := undef) (a' := ?_) (bm 26 8388607) rfl rfl (by kernel_rfl) (fun _ _ _ h => h) (Or.inr ⟨by rfl, rfl⟩) ?_ ?_; rotate_left; exact tP_
    refine pure_ (i := 23) (N := some 78) (v := undef) (a' := ?_) (bm 26 16777215) rfl rfl (by kernel_rfl) (fun _ _ _ h => h) (Or.inr ⟨by rfl, rfl⟩) ?_ ?_; rotate_left; exact tP_
    refine pure_ (i := 24) (N := some 79) (v := undef) (a' := ?_) (bm 26 33554431) rfl rfl (by kernel_rfl) (fun _ _ _ h => h) (Or.inr ⟨by rfl, rfl⟩) ?_ ?_; rotate_left; exact tP_
    refine pure_ (i := 25) (N := some 80) (bm 26 67108863) rfl rfl (by kernel_rfl) (fun _ _ _ h => h) (.inl ⟨rfl, tY_⟩) tP_ ?_
    refine done_ (by kernel_rfl) ?_
    have HF := Aside0.mk (GSt.below HD.out.1 hbw5)
    go_wp2
    go_ret
    exact ⟨rfl, HF.out⟩
   | false =>
    go_wp2
    have HD := Aside0.mk (LS.below HS.out (pw_below_drewN (Below.refl _ _) 1))
    have hy0 : wr.drew.cell? (ad.add k) = some (.int .i64 (q : Int)) := hce
    refine start_ (n := 26) (S := fun w' => w'.cell? (ad.add k) = some (.int .i64 (q : Int))) (ds := [24]) (bm 26 0) (by kernel_rfl) rfl rfl (hy0) (fun hHeld => ?_)
    refine pure_ (i := 0) (N := some 55) (bm 26 1) rfl rfl (by kernel_rfl) (fun _ _ _ h => h) (.inl ⟨rfl, tY_⟩) tP_ ?_
    refine pure_ (i := 1) (N := some 56) (bm 26 3) rfl rfl (by kernel_rfl) (fun _ _ _ h => h) (.inl ⟨rfl, tY_⟩) tP_ ?_
    refine pure_ (i := 2) (N := some 57) (bm 26 7) rfl rfl (by kernel_rfl) (fun _ _ _ h => h) (.inl ⟨rfl, tY_⟩) tP_ ?_
    refine pure_ (i := 3) (N := some 58) (bm 26 15) rfl rfl (by kernel_rfl) (fun _ _ _ h => h) (.inl ⟨rfl, tY_⟩) tP_ ?_
    refine pure_ (i := 5) (N := some 60) (bm 26 47) rfl rfl (by kernel_rfl) (fun _ _ _ h => h) (.inl ⟨rfl, tY_⟩) tP_ ?_
    refine pure_ (i := 6) (N := some 61) (bm 26 111) rfl rfl (by kernel_rfl) (fun _ _ _ h => h) (.inl ⟨rfl, tY_⟩) tP_ ?_
    refine pure_ (i := 7) (N := some 62) (bm 26 239) rfl rfl (by kernel_rfl) (fun _ _ _ h => h) (.inl ⟨rfl, tY_⟩) tP_ ?_
    refine pure_ (i := 8) (N := some 63) (bm 26 495) rfl rfl (by kernel_rfl) (fun _ _ _ h => h) (.inl ⟨rfl, tY_⟩) tP_ ?_
    refine pure_ (i := 12) (N := some 67) (bm 26 4591) rfl rfl (by kernel_rfl) (fun _ _ _ h => h) (.inl ⟨rfl, tY_⟩) tP_ ?_
    refine take_ (i := 4) (N := some 59) (v := ?_) (a' := ?_) (bm 26 4607) rfl rfl (by kernel_rfl) (fun _ _ _ h => h) (Or.inl ⟨by rfl, ?_⟩) hHeld ?_ ?_; rotate_left
    ·intro w' s0
     go_simp
     with_reducible rfl
    rotate_left; exact tP_
    refine take_ (i := 9) (N := some 64) (v := ?_) (a' := ?_) (bm 26 5119) rfl rfl (by kernel_rfl) (fun _ _ _ h => h) (Or.inl ⟨by rfl, ?_⟩) hHeld ?_ ?_; rotate_left
    ·intro w' s0
     go_simp
     with_reducible rfl
    rotate_left; exact tP_
    refine one_ (i := 10) (N := some 65) (bm 26 6143) rfl rfl (by kernel_rfl) (by decide) (fun K hK => ?_)
    refine goesD_ Tryz.func72 (by kernel_rfl) rfl #[.string s, .int .i64 (q : Int)] (by rfl) rfl rfl (by simp only [List.map_toArray, List.map_cons, List.map_nil]; rfl) ?_
    refine (HE.out _).mono ?_
    rintro e w5 ⟨rfl, hbw5⟩
    refine .inl ⟨_, rfl, ?_⟩
    have hy1 : w5.cell? (ad.add k) = some (.int .i64 (q : Int)) := (hbw5.cell (World.block_lt_of_cell? _ _ hy0)).trans hy0
    refine hK.out _ _ (hy1) (fun hHeld => ?_)
    clear hK K
    refine norm_ (a' := ?_) ?_ ?_; rotate_left; (show Act.put _ (some 65) _ = _; exact tP_)
    refine pure_ (i := 11) (N := some 66) (bm 26 8191) rfl rfl (by kernel_rfl) (fun _ _ _ h => h) (.inl ⟨rfl, tY_⟩) tP_ ?_
    refine pure_ (i := 13) (N := some 68) (bm 26 16383) rfl rfl (by kernel_rfl) (fun _ _ _ h => h) (.inl ⟨rfl, tY_⟩) tP_ ?_
    refine pure_ (i := 14) (N := some 69) (bm 26 32767) rfl rfl (by kernel_rfl) (fun _ _ _ h => h) (.inl ⟨rfl, tY_⟩) tP_ ?_
    refine pure_ (i := 15) (N := some 70) (bm 26 65535) rfl rfl (by kernel_rfl) (fun _ _ _ h => h) (.inl ⟨rfl, tY_⟩) tP_ ?_
    refine pure_ (i := 16) (N := some 71) (bm 26 131071) rfl rfl (by kernel_rfl) (fun _ _ _ h => h) (.inl ⟨rfl, tY_⟩) tP_ ?_
    refine pure_ (i := 17) (N := some 72) (bm 26 262143) rfl rfl (by kernel_rfl) (fun _ _ _ h => h) (.inl ⟨rfl, tY_⟩) tP_ ?_
    refine pure_ (i := 18) (N := some 73) (bm 26 524287) rfl rfl (by kernel_rfl) (fun _ _ _ h => h) (.inl ⟨rfl, tY_⟩) tP_ ?_
    refine pure_ (i := 19) (N := some 74) (bm 26 1048575) rfl rfl (by kernel_rfl) (fun _ _ _ h => h) (.inl ⟨rfl, tY_⟩) tP_ ?_
    refine pure_ (i := 20) (N := some 75) (bm 26 2097151) rfl rfl (by kernel_rfl) (fun _ _ _ h => h) (.inl ⟨rfl, tY_⟩) tP_ ?_
    refine pure_ (i := 22) (N := some 77) (bm 26 6291455) rfl rfl (by kernel_rfl) (fun _ _ _ h => h) (.inl ⟨rfl, tY_⟩) tP_ ?_
    refine pure_ (i := 23) (N := some 78) (bm 26 14680063) rfl rfl (by kernel_rfl) (fun _ _ _ h => h) (.inl ⟨rfl, tY_⟩) tP_ ?_
    refine take_ (i := 21) (N := some 76) (v := ?_) (a' := ?_) (bm 26 16777215) rfl rfl (by kernel_rfl) (fun _ _ _ h => h) (Or.inl ⟨by rfl, ?_⟩) hHeld ?_ ?_; rotate_left
    ·intro w' s0
     go_simp
     with_reducible rfl
    rotate_left; exact tP_
    refine last_ (i := 24) (N := some 79) (bm 26 33554431) rfl rfl (by kernel_rfl) (by decide) (fun K hK => ?_)
    refine goesD_ Tryz.func94 (by kernel_rfl) rfl #[.string p, .string s, .string t, .int .i64 (q : Int), .int .i64 (j : Int), .slice (some A) s.size cap] (by rfl) rfl rfl (by simp only [List.map_toArray, List.map_cons, List.map_nil]; rfl) ?_
    refine (HCG.out _ (GSt.below HD.out.1 hbw5)).mono ?_
    rintro e w6 ⟨rfl, hb6, hG6⟩
    refine .inl ⟨_, rfl, ?_⟩
    have HL6 := LS.call (LS.below HD.out hbw5) hb6 HV.out.2 hG6
    clear hb6 hG6
    refine hK.out _ _ ?_
    clear hK K
    refine norm_ (a' := ?_) ?_ ?_; rotate_left; (show Act.put _ (some 79) _ = _; exact tP_)
    refine pure_ (i := 25) (N := some 80) (bm 26 67108863) rfl rfl (by kernel_rfl) (fun _ _ _ h => h) (.inl ⟨rfl, tY_⟩) tP_ ?_
    refine done_ (by kernel_rfl) ?_
    have HF := Aside0.mk HL6
    clear HL6 hbw5 hy0 hce hsl hsm
    cases gv with
    | true =>
     have hg1 : g = true := HY.out.1 (.inr rfl)
     subst hg1
     go_wp2
     go_ret
     exact ⟨rfl, HF.out.1⟩
    | false =>
     go_wp2
     refine ⟨⟨k + 1, by rw [hw1]; rfl, ⟨hk⟩, ⟨HY.out.2 (by trivial) (by trivial)⟩, HF⟩, ?_⟩
     rw [hw1]
     simp only [intOf]
     clear hw1
     omega
  ·have hkb : decide ((k : Int) < (l.length : Int)) = false := decide_eq_false (by omega)
   have hkb2 : decide (k < l.length) = false := decide_eq_false hk
   have HA : Aside0 (l.any (fun u => sameB u (.app sy' l') || gt (rankP p) u (.app sy' l')) = false) := ⟨by have := HN.out; rwa [List.take_of_length_le (by omega)] at this⟩
   have HPA := HPa
   clear HN HPa HIa hk HK
   go_wp2
   clear hkb hkb2
   have HD := Aside0.mk (LS.below HS.out (pw_below_drewN (Below.refl _ _) 1))
   refine start_ (n := 11) (S := fun w' => True) (ds := []) (bm 11 0) (by kernel_rfl) rfl rfl trivial (fun hHeld => ?_)
   refine pure_ (i := 0) (N := some 81) (bm 11 1) rfl rfl (by kernel_rfl) (fun _ _ _ h => h) (.inl ⟨rfl, tY_⟩) tP_ ?_
   refine pure_ (i := 1) (N := some 82) (bm 11 3) rfl rfl (by kernel_rfl) (fun _ _ _ h => h) (.inl ⟨rfl, tY_⟩) tP_ ?_
   refine pure_ (i := 2) (N := some 83) (bm 11 7) rfl rfl (by kernel_rfl) (fun _ _ _ h => h) (.inl ⟨rfl, tY_⟩) tP_ ?_
   refine pure_ (i := 5) (N := some 86) (bm 11 39) rfl rfl (by kernel_rfl) (fun _ _ _ h => h) (.inl ⟨rfl, tY_⟩) tP_ ?_
   refine pure_ (i := 6) (N := some 87) (bm 11 103) rfl rfl (by kernel_rfl) (fun _ _ _ h => h) (.inl ⟨rfl, tY_⟩) tP_ ?_
   refine pure_ (i := 7) (N := some 88) (bm 11 231) rfl rfl (by kernel_rfl) (fun _ _ _ h => h) (.inl ⟨rfl, tY_⟩) tP_ ?_
   refine take_ (i := 3) (N := some 84) (v := ?_) (a' := ?_) (bm 11 239) rfl rfl (by kernel_rfl) (fun _ _ _ h => h) (Or.inl ⟨by rfl, ?_⟩) hHeld ?_ ?_; rotate_left
   ·intro w' _
    go_simp
    with_reducible rfl
   rotate_left; exact tP_
   refine take_ (i := 8) (N := some 89) (v := ?_) (a' := ?_) (bm 11 495) rfl rfl (by kernel_rfl) (fun _ _ _ h => h) (Or.inl ⟨by rfl, ?_⟩) hHeld ?_ ?_; rotate_left
   ·intro w' _
    go_simp
    with_reducible rfl
   rotate_left; exact tP_
   refine one_ (i := 4) (N := some 85) (bm 11 511) rfl rfl (by kernel_rfl) (by decide) (fun K hK => ?_)
   refine goesD_ Tryz.func148 (by kernel_rfl) rfl #[.string p, .int .u8 sy] (by rfl) rfl rfl (by simp only [List.map_toArray, List.map_cons, List.map_nil]; rfl) ?_
   refine (HR1.out _).mono ?_
   rintro e w7 ⟨rfl, hbw7⟩
   refine .inl ⟨_, rfl, ?_⟩
   refine hK.out _ _ trivial (fun hHeld => ?_)
   clear hK K
   refine norm_ (a' := ?_) ?_ ?_; rotate_left; (show Act.put _ (some 85) _ = _; exact tP_)
   refine one_ (i := 9) (N := some 90) (bm 11 1023) rfl rfl (by kernel_rfl) (by decide) (fun K hK => ?_)
   refine goesD_ Tryz.func148 (by kernel_rfl) rfl #[.string p, .int .u8 sy'] (by rfl) rfl rfl (by simp only [List.map_toArray, List.map_cons, List.map_nil]; rfl) ?_
   refine (HR2.out _).mono ?_
   rintro e w8 ⟨rfl, hbw8⟩
   refine .inl ⟨_, rfl, ?_⟩
   refine hK.out _ _ trivial (fun hHeld => ?_)
   clear hK K
   refine norm_ (a' := ?_) ?_ ?_; rotate_left; (show Act.put _ (some 90) _ = _; exact tP_)
   refine pure_ (i := 10) (N := some 91) (bm 11 2047) rfl rfl (by kernel_rfl) (fun _ _ _ h => h) (.inl ⟨rfl, tY_⟩) tP_ ?_
   refine done_ (by kernel_rfl) ?_
   have HL8 := Aside0.mk (LS.below (LS.below HD.out hbw7) hbw8)
   clear hbw7 hbw8 HD HS HR1 HR2 HC1 HC2
   by_cases hr : rankP p sy > rankP p sy'
   ·have hrb : decide (rankP p sy > rankP p sy') = true := decide_eq_true hr
    have hrb2 : (rankP p sy' < rankP p sy) = True := eq_true hr
    have hrb3 : (rankP p sy ≤ rankP p sy') = False := eq_false (by omega)
    have hg1 : g = false := by rw [HG.out.1, if_neg (by rw [HA.out]; simp), if_pos hr]
    subst hg1
    go_wp2
    go_ret
    exact ⟨rfl, HL8.out.1⟩
   have hrb : decide (rankP p sy > rankP p sy') = false := decide_eq_false hr
   have hrb2 : (rankP p sy' < rankP p sy) = False := eq_false hr
   have hrb3 : (rankP p sy ≤ rankP p sy') = True := eq_true (by omega)
   have HG2 : Aside0 (g = if !(l'.all (fun u => gt (rankP p) (.app sy l) u)) then false else if sy ≠ sy' then true else lexF (gt (rankP p)) l l') := ⟨by rw [HG.out.1, if_neg (by rw [HA.out]; simp), if_neg hr]⟩
   have HLL := Aside0.mk HG.out.2
   have hr4 : rankP p sy ≤ rankP p sy' := by omega
   clear HG HA
   go_wp2
   clear hrb hrb2 hrb3 hr hr4
   go_loopw [17] (fun v17 wr => ∃ k : Nat, v17 = .int .i64 (k : Int) ∧ Aside0 (k ≤ l'.length) ∧ Aside0 ((l'.take k).all (fun u => gt (rankP p) (.app sy l) u) = true) ∧ Aside0 (LS p s t A ar cr M w K0 Aa xs Ab ys wr)) (fun v17 _ => l'.length - (intOf v17).toNat)
   case atStart => exact ⟨0, rfl, ⟨Nat.zero_le _⟩, ⟨rfl⟩, HL8⟩
   case round =>
    clear HL8
    obtain ⟨k, rfl, HK, HN, HS⟩ := hrel
    by_cases hk : k < l'.length
    ·have hkb : decide ((k : Int) < (l'.length : Int)) = true := decide_eq_true (by omega)
     have hkb2 : decide (k < l'.length) = true := decide_eq_true hk
     have hw1 := wrK k (by have := HLN.out.2.1; omega)
     obtain ⟨ad, hAb, _, hce⟩ := HS.out.2.2 k (by rw [HXY.out.2]; exact hk)
     subst hAb
     obtain ⟨q, hq, hAt⟩ := HPb.out k hk
     rw [hq] at hce
     have hki : (k < l'.length) = True := eq_true hk
     have HCG := Aside0.mk (fun (w' : World) (h : GSt p s t A ar cr M w K0 w') => callG (HIb.out k q hk hAt) (HMa.out.2.1 k hk) HV.out.1 h)
     obtain ⟨gv, hgv⟩ : ∃ x, x = gt (rankP p) (.app sy l) l'[k] := ⟨_, rfl⟩
     rw [← hgv] at HCG
     have HY : Aside0 ((gv = false → g = false) ∧ (gv = true → (l'.take (k + 1)).all (fun u => gt (rankP p) (.app sy l) u) = true)) := ⟨fun h => by
      rw [HG2.out, all_at (P := fun u => gt (rankP p) (.app sy l) u) hk (by rw [← hgv]; exact h)]
      rfl, fun h => all_take (P := fun u => gt (rankP p) (.app sy l) u) hk HN.out (by rw [← hgv]; exact h)⟩
     clear hgv hAt hq
     cases gv with
     | false =>
      have hg1 : g = false := HY.out.1 rfl
      subst hg1
      clear HY
      go_wp2_with (go_at_call 94; refine (HCG.out _ HS.out.1).mono ?_; rintro e w9 ⟨rfl, hb9, hG9⟩; have HL9 := Aside0.mk (LS.call HS.out hb9 HV.out.2 hG9); clear hb9 hG9)
      go_ret
      exact ⟨rfl, HL9.out.1⟩
     | true =>
      go_wp2_with (go_at_call 94; refine (HCG.out _ HS.out.1).mono ?_; rintro e w9 ⟨rfl, hb9, hG9⟩; have HL9 := Aside0.mk (LS.call HS.out hb9 HV.out.2 hG9); clear hb9 hG9)
      refine ⟨⟨k + 1, by rw [hw1]; rfl, ⟨hk⟩, ⟨HY.out.2 (by trivial)⟩, HL9⟩, ?_⟩
      rw [hw1]
      simp only [intOf]
      clear hw1
      omega
    ·have hkb : decide ((k : Int) < (l'.length : Int)) = false := decide_eq_false (by omega)
     have hkb2 : decide (k < l'.length) = false := decide_eq_false hk
     have HA : Aside0 (l'.all (fun u => gt (rankP p) (.app sy l) u) = true) := ⟨by have := HN.out; rwa [List.take_of_length_le (by omega)] at this⟩
     have HG3 : Aside0 (g = if sy ≠ sy' then true else lexF (gt (rankP p)) l l') := ⟨by rw [HG2.out, HA.out]; rfl⟩
     clear HN HIb hk HK HG2 HA
     go_wp2
     clear hkb hkb2
     have HD := Aside0.mk (LS.below HS.out (pw_below_drewN (Below.refl _ _) 1))
     by_cases he : sy = sy'
     ·have hne : (sy != sy') = false := by rw [he]; simp
      have hne2 : (sy == sy') = true := by rw [he]; simp
      have hne3 : decide (sy = sy') = true := decide_eq_true he
      have hlen := HLL.out he
      have HG4 : Aside0 (g = lexF (gt (rankP p)) l l') := ⟨by rw [HG3.out, if_neg (fun h => h he)]⟩
      clear HG3 HLL he
      refine start_ (n := 7) (S := fun w' => True) (ds := []) (bm 7 0) (by kernel_rfl) rfl rfl trivial (fun hHeld => ?_)
      refine pure_ (i := 0) (N := some 109) (bm 7 1) rfl rfl (by kernel_rfl) (fun _ _ _ h => h) (.inl ⟨rfl, tY_⟩) tP_ ?_
      refine pure_ (i := 1) (N := some 110) (bm 7 3) rfl rfl (by kernel_rfl) (fun _ _ _ h => h) (.inl ⟨rfl, tY_⟩) tP_ ?_
      refine pure_ (i := 3) (N := some 112) (bm 7 11) rfl rfl (by kernel_rfl) (fun _ _ _ h => h) (.inl ⟨rfl, tY_⟩) tP_ ?_
      refine pure_ (i := 4) (N := some 113) (bm 7 27) rfl rfl (by kernel_rfl) (fun _ _ _ h => h) (.inl ⟨rfl, tY_⟩) tP_ ?_
      refine take_ (i := 2) (N := some 111) (v := ?_) (a' := ?_) (bm 7 31) rfl rfl (by kernel_rfl) (fun _ _ _ h => h) (Or.inl ⟨by rfl, ?_⟩) hHeld ?_ ?_; rotate_left
      ·intro w' _
       go_simp
       with_reducible rfl
      rotate_left; exact tP_
      refine take_ (i := 5) (N := some 114) (v := ?_) (a' := ?_) (bm 7 63) rfl rfl (by kernel_rfl) (fun _ _ _ h => h) (Or.inl ⟨by rfl, ?_⟩) hHeld ?_ ?_; rotate_left
      ·intro w' _
       go_simp
       with_reducible rfl
      rotate_left; exact tP_
      refine pure_ (i := 6) (N := some 115) (bm 7 127) rfl rfl (by kernel_rfl) (fun _ _ _ h => h) (.inl ⟨rfl, tY_⟩) tP_ ?_
      refine done_ (by kernel_rfl) ?_
      go_wp2
      clear hne hne2 hne3 HS
      go_loopw [18] (fun v18 wr => ∃ k : Nat, v18 = .int .i64 (k : Int) ∧ Aside0 (k ≤ l.length) ∧ Aside0 (g = lexF (gt (rankP p)) (l.drop k) (l'.drop k)) ∧ Aside0 (LS p s t A ar cr M w K0 Aa xs Ab ys wr)) (fun v18 _ => l.length - (intOf v18).toNat)
      case atStart => exact ⟨0, rfl, ⟨Nat.zero_le _⟩, HG4, HD⟩
      case round =>
       clear HD HG4
       obtain ⟨k, rfl, HK, HN, HS⟩ := hrel
       by_cases hk : k < l.length
       ·have hk' : k < l'.length := by omega
        have hkb : decide ((k : Int) < (l.length : Int)) = true := decide_eq_true (by omega)
        have hkb2 : decide (k < l.length) = true := decide_eq_true hk
        have hw1 := wrK k (by have := HLN.out.1; omega)
        obtain ⟨ad, hAa, _, hce⟩ := HS.out.2.1 k (by rw [HXY.out.1]; exact hk)
        obtain ⟨ad2, hAb, _, hce2⟩ := HS.out.2.2 k (by rw [HXY.out.2]; exact hk')
        subst hAa hAb
        obtain ⟨q, hq, hAt⟩ := HPA.out k hk
        obtain ⟨q2, hq2, hAt2⟩ := HPb.out k hk'
        rw [hq] at hce
        rw [hq2] at hce2
        have hsl := hAt.slice
        have hsl2 := hAt2.slice
        have HE := Aside0.mk (fun w => end_C HLN.out.2.2.1 hAt w)
        have HE2 := Aside0.mk (fun w => end_C HLN.out.2.2.2 hAt2 w)
        have hki : (k < l.length) = True := eq_true hk
        have hki2 : (k < l'.length) = True := eq_true hk'
        have HCG := Aside0.mk (fun (w' : World) (h : GSt p s t A ar cr M w K0 w') => callG (HIc.out k q q2 hk hk' hAt hAt2) (HMa.out.2.2 k hk hk') HV.out.1 h)
        have hlex : g = if sameB l[k] l'[k] then lexF (gt (rankP p)) (l.drop (k + 1)) (l'.drop (k + 1)) else gt (rankP p) l[k] l'[k] := by
         rw [HN.out, List.drop_eq_getElem_cons hk, List.drop_eq_getElem_cons hk', lexF]
        obtain ⟨gv, hgv⟩ : ∃ x, x = gt (rankP p) l[k] l'[k] := ⟨_, rfl⟩
        rw [← hgv] at HCG hlex
        obtain ⟨ut, hut⟩ : ∃ x, x = l[k].text := ⟨_, rfl⟩
        obtain ⟨ut2, hut2⟩ : ∃ x, x = l'[k].text := ⟨_, rfl⟩
        rw [← hut] at hsl
        rw [← hut2] at hsl2
        obtain ⟨lu, hlu⟩ : ∃ x, x = l[k].tx.length := ⟨_, rfl⟩
        obtain ⟨lu2, hlu2⟩ : ∃ x, x = l'[k].tx.length := ⟨_, rfl⟩
        rw [← hlu] at hsl HE
        rw [← hlu2] at hsl2 HE2
        have hsm : (ut.toList == ut2.toList) = sameB l[k] l'[k] := by rw [hut, hut2]; exact text_beq _ _
        have hsmn : (ut.toList != ut2.toList) = !sameB l[k] l'[k] := by rw [← hsm]; rfl
        obtain ⟨sm, hsm'⟩ : ∃ x, x = sameB l[k] l'[k] := ⟨_, rfl⟩
        rw [← hsm'] at hsm hsmn hlex
        have HLX := Aside0.mk hlex
        clear hlex hsm' hlu hlu2 hut hut2 hgv hAt hAt2 hq hq2
        go_wp2
        have HD := Aside0.mk (LS.below HS.out (pw_below_drewN (Below.refl _ _) 1))
        have hy0 : wr.drew.cell? (ad.add k) = some (.int .i64 (q : Int)) := hce
        have hy1 : wr.drew.cell? (ad2.add k) = some (.int .i64 (q2 : Int)) := hce2
        refine start_ (n := 25) (S := fun w' => w'.cell? (ad.add k) = some (.int .i64 (q : Int)) ∧ w'.cell? (ad2.add k) = some (.int .i64 (q2 : Int))) (ds := []) (bm 25 0) (by kernel_rfl) rfl rfl ⟨hy0, hy1⟩ (fun hHeld => ?_)
        refine pure_ (i := 0) (N := some 122) (bm 25 1) rfl rfl (by kernel_rfl) (fun _ _ _ h => h) (.inl ⟨rfl, tY_⟩) tP_ ?_
        refine pure_ (i := 1) (N := some 123) (bm 25 3) rfl rfl (by kernel_rfl) (fun _ _ _ h => h) (.inl ⟨rfl, tY_⟩) tP_ ?_
        refine pure_ (i := 2) (N := some 124) (bm 25 7) rfl rfl (by kernel_rfl) (fun _ _ _ h => h) (.inl ⟨rfl, tY_⟩) tP_ ?_
        refine pure_ (i := 3) (N := some 125) (bm 25 15) rfl rfl (by kernel_rfl) (fun _ _ _ h => h) (.inl ⟨rfl, tY_⟩) tP_ ?_
        refine pure_ (i := 5) (N := some 127) (bm 25 47) rfl rfl (by kernel_rfl) (fun _ _ _ h => h) (.inl ⟨rfl, tY_⟩) tP_ ?_
        refine pure_ (i := 6) (N := some 128) (bm 25 111) rfl rfl (by kernel_rfl) (fun _ _ _ h => h) (.inl ⟨rfl, tY_⟩) tP_ ?_
        refine pure_ (i := 7) (N := some 129) (bm 25 239) rfl rfl (by kernel_rfl) (fun _ _ _ h => h) (.inl ⟨rfl, tY_⟩) tP_ ?_
        refine pure_ (i := 8) (N := some 130) (bm 25 495) rfl rfl (by kernel_rfl) (fun _ _ _ h => h) (.inl ⟨rfl, tY_⟩) tP_ ?_
        refine pure_ (i := 12) (N := some 134) (bm 25 4591) rfl rfl (by kernel_rfl) (fun _ _ _ h => h) (.inl ⟨rfl, tY_⟩) tP_ ?_
        refine pure_ (i := 13) (N := some 135) (bm 25 12783) rfl rfl (by kernel_rfl) (fun _ _ _ h => h) (.inl ⟨rfl, tY_⟩) tP_ ?_
        refine pure_ (i := 14) (N := some 136) (bm 25 29167) rfl rfl (by kernel_rfl) (fun _ _ _ h => h) (.inl ⟨rfl, tY_⟩) tP_ ?_
        refine pure_ (i := 15) (N := some 137) (bm 25 61935) rfl rfl (by kernel_rfl) (fun _ _ _ h => h) (.inl ⟨rfl, tY_⟩) tP_ ?_
        refine pure_ (i := 17) (N := some 139) (bm 25 193007) rfl rfl (by kernel_rfl) (fun _ _ _ h => h) (.inl ⟨rfl, tY_⟩) tP_ ?_
        refine pure_ (i := 18) (N := some 140) (bm 25 455151) rfl rfl (by kernel_rfl) (fun _ _ _ h => h) (.inl ⟨rfl, tY_⟩) tP_ ?_
        refine pure_ (i := 19) (N := some 141) (bm 25 979439) rfl rfl (by kernel_rfl) (fun _ _ _ h => h) (.inl ⟨rfl, tY_⟩) tP_ ?_
        refine pure_ (i := 20) (N := some 142) (bm 25 2028015) rfl rfl (by kernel_rfl) (fun _ _ _ h => h) (.inl ⟨rfl, tY_⟩) tP_ ?_
        refine take_ (i := 4) (N := some 126) (v := ?_) (a' := ?_) (bm 25 2028031) rfl rfl (by kernel_rfl) (fun _ _ _ h => h) (Or.inl ⟨by rfl, ?_⟩) hHeld ?_ ?_; rotate_left; (rintro w' ⟨s0, s1⟩; go_simp; with_reducible rfl); rotate_left; exact tP_
        refine take_ (i := 9) (N := some 131) (v := ?_) (a' := ?_) (bm 25 2028543) rfl rfl (by kernel_rfl) (fun _ _ _ h => h) (Or.inl ⟨by rfl, ?_⟩) hHeld ?_ ?_; rotate_left; (rintro w' ⟨s0, s1⟩; go_simp; with_reducible rfl); rotate_left; exact tP_
        refine take_ (i := 16) (N := some 138) (v := ?_) (a' := ?_) (bm 25 2094079) rfl rfl (by kernel_rfl) (fun _ _ _ h => h) (Or.inl ⟨by rfl, ?_⟩) hHeld ?_ ?_; rotate_left; (rintro w' ⟨s0, s1⟩; go_simp; with_reducible rfl); rotate_left; exact tP_
        refine take_ (i := 21) (N := some 143) (v := ?_) (a' := ?_) (bm 25 4191231) rfl rfl (by kernel_rfl) (fun _ _ _ h => h) (Or.inl ⟨by rfl, ?_⟩) hHeld ?_ ?_; rotate_left; (rintro w' ⟨s0, s1⟩; go_simp; with_reducible rfl); rotate_left; exact tP_
        refine one_ (i := 10) (N := some 132) (bm 25 4192255) rfl rfl (by kernel_rfl) (by decide) (fun K hK => ?_)
        refine goesD_ Tryz.func72 (by kernel_rfl) rfl #[.string s, .int .i64 (q : Int)] (by rfl) rfl rfl (by simp only [List.map_toArray, List.map_cons, List.map_nil]; rfl) ?_
        refine (HE.out _).mono ?_
        rintro e w10 ⟨rfl, hbw10⟩
        refine .inl ⟨_, rfl, ?_⟩
        have hz0 : w10.cell? (ad.add k) = some (.int .i64 (q : Int)) := (hbw10.cell (World.block_lt_of_cell? _ _ hy0)).trans hy0
        have hz1 : w10.cell? (ad2.add k) = some (.int .i64 (q2 : Int)) := (hbw10.cell (World.block_lt_of_cell? _ _ hy1)).trans hy1
        refine hK.out _ _ ⟨hz0, hz1⟩ (fun hHeld => ?_)
        clear hK K
        refine norm_ (a' := ?_) ?_ ?_; rotate_left; (show Act.put _ (some 132) _ = _; exact tP_)
        refine pure_ (i := 11) (N := some 133) (bm 25 4194303) rfl rfl (by kernel_rfl) (fun _ _ _ h => h) (.inl ⟨rfl, tY_⟩) tP_ ?_
        refine one_ (i := 22) (N := some 144) (bm 25 8388607) rfl rfl (by kernel_rfl) (by decide) (fun K hK => ?_)
        refine goesD_ Tryz.func72 (by kernel_rfl) rfl #[.string t, .int .i64 (q2 : Int)] (by rfl) rfl rfl (by simp only [List.map_toArray, List.map_cons, List.map_nil]; rfl) ?_
        refine (HE2.out _).mono ?_
        rintro e w11 ⟨rfl, hbw11⟩
        refine .inl ⟨_, rfl, ?_⟩
        have hv0 : w11.cell? (ad.add k) = some (.int .i64 (q : Int)) := (hbw11.cell (World.block_lt_of_cell? _ _ hz0)).trans hz0
        have hv1 : w11.cell? (ad2.add k) = some (.int .i64 (q2 : Int)) := (hbw11.cell (World.block_lt_of_cell? _ _ hz1)).trans hz1
        refine hK.out _ _ ⟨hv0, hv1⟩ (fun hHeld => ?_)
        clear hK K
        refine norm_ (a' := ?_) ?_ ?_; rotate_left; (show Act.put _ (some 144) _ = _; exact tP_)
        refine pure_ (i := 23) (N := some 145) (bm 25 16777215) rfl rfl (by kernel_rfl) (fun _ _ _ h => h) (.inl ⟨rfl, tY_⟩) tP_ ?_
        refine pure_ (i := 24) (N := some 146) (bm 25 33554431) rfl rfl (by kernel_rfl) (fun _ _ _ h => h) (.inl ⟨rfl, tY_⟩) tP_ ?_
        refine done_ (by kernel_rfl) ?_
        have HD2 := Aside0.mk (LS.below (LS.below HD.out hbw10) hbw11)
        clear hbw10 hbw11 HD hy0 hy1 hsl hsl2 hce hce2 hz0 hz1
        cases sm with
        | true =>
         go_wp2
         refine ⟨⟨k + 1, by rw [hw1]; rfl, ⟨hk⟩, ⟨HLX.out.trans (if_pos rfl)⟩, HD2⟩, ?_⟩
         rw [hw1]
         simp only [intOf]
         clear hw1
         omega
        | false =>
         have hg1 : g = gv := HLX.out.trans (if_neg (by simp))
         subst hg1
         go_wp2
         have HD3 := Aside0.mk (LS.below HD2.out (pw_below_drewN (Below.refl _ _) 1))
         have hu0 : w11.drew.cell? (ad.add k) = some (.int .i64 (q : Int)) := hv0
         have hu1 : w11.drew.cell? (ad2.add k) = some (.int .i64 (q2 : Int)) := hv1
         refine start_ (n := 14) (S := fun w' => w'.cell? (ad.add k) = some (.int .i64 (q : Int)) ∧ w'.cell? (ad2.add k) = some (.int .i64 (q2 : Int))) (ds := [12]) (bm 14 0) (by kernel_rfl) rfl rfl ⟨hu0, hu1⟩ (fun hHeld => ?_)
         refine pure_ (i := 0) (N := some 147) (bm 14 1) rfl rfl (by kernel_rfl) (fun _ _ _ h => h) (.inl ⟨rfl, tY_⟩) tP_ ?_
         refine pure_ (i := 1) (N := some 148) (bm 14 3) rfl rfl (by kernel_rfl) (fun _ _ _ h => h) (.inl ⟨rfl, tY_⟩) tP_ ?_
         refine pure_ (i := 2) (N := some 149) (bm 14 7) rfl rfl (by kernel_rfl) (fun _ _ _ h => h) (.inl ⟨rfl, tY_⟩) tP_ ?_
         refine pure_ (i := 3) (N := some 150) (bm 14 15) rfl rfl (by kernel_rfl) (fun _ _ _ h => h) (.inl ⟨rfl, tY_⟩) tP_ ?_
         refine pure_ (i := 4) (N := some 151) (bm 14 31) rfl rfl (by kernel_rfl) (fun _ _ _ h => h) (.inl ⟨rfl, tY_⟩) tP_ ?_
         refine pure_ (i := 5) (N := some 152) (bm 14 63) rfl rfl (by kernel_rfl) (fun _ _ _ h => h) (.inl ⟨rfl, tY_⟩) tP_ ?_
         refine pure_ (i := 7) (N := some 154) (bm 14 191) rfl rfl (by kernel_rfl) (fun _ _ _ h => h) (.inl ⟨rfl, tY_⟩) tP_ ?_
         refine pure_ (i := 8) (N := some 155) (bm 14 447) rfl rfl (by kernel_rfl) (fun _ _ _ h => h) (.inl ⟨rfl, tY_⟩) tP_ ?_
         refine pure_ (i := 9) (N := some 156) (bm 14 959) rfl rfl (by kernel_rfl) (fun _ _ _ h => h) (.inl ⟨rfl, tY_⟩) tP_ ?_
         refine pure_ (i := 11) (N := some 158) (bm 14 3007) rfl rfl (by kernel_rfl) (fun _ _ _ h => h) (.inl ⟨rfl, tY_⟩) tP_ ?_
         refine take_ (i := 6) (N := some 153) (v := ?_) (a' := ?_) (bm 14 3071) rfl rfl (by kernel_rfl) (fun _ _ _ h => h) (Or.inl ⟨by rfl, ?_⟩) hHeld ?_ ?_; rotate_left; (rintro w' ⟨s0, s1⟩; go_simp; with_reducible rfl); rotate_left; exact tP_
         refine take_ (i := 10) (N := some 157) (v := ?_) (a' := ?_) (bm 14 4095) rfl rfl (by kernel_rfl) (fun _ _ _ h => h) (Or.inl ⟨by rfl, ?_⟩) hHeld ?_ ?_; rotate_left; (rintro w' ⟨s0, s1⟩; go_simp; with_reducible rfl); rotate_left; exact tP_
         refine last_ (i := 12) (N := some 159) (bm 14 8191) rfl rfl (by kernel_rfl) (by decide) (fun K hK => ?_)
         refine goesD_ Tryz.func94 (by kernel_rfl) rfl #[.string p, .string s, .string t, .int .i64 (q : Int), .int .i64 (q2 : Int), .slice (some A) s.size cap] (by rfl) rfl rfl (by simp only [List.map_toArray, List.map_cons, List.map_nil]; rfl) ?_
         refine (HCG.out _ HD3.out.1).mono ?_
         rintro e w12 ⟨rfl, hb12, hG12⟩
         refine .inl ⟨_, rfl, ?_⟩
         have HL12 := LS.call HD3.out hb12 HV.out.2 hG12
         clear hb12 hG12
         refine hK.out _ _ ?_
         clear hK K
         refine norm_ (a' := ?_) ?_ ?_; rotate_left; (show Act.put _ (some 159) _ = _; exact tP_)
         refine pure_ (i := 13) (N := some 12) (bm 14 16383) rfl rfl (by kernel_rfl) (fun _ _ _ h => h) (.inl ⟨rfl, tY_⟩) tP_ ?_
         refine done_ (by kernel_rfl) ?_
         go_wp2
         go_ret
         exact ⟨rfl, HL12.1⟩
       ·have hkb : decide ((k : Int) < (l.length : Int)) = false := decide_eq_false (by omega)
        have hkb2 : decide (k < l.length) = false := decide_eq_false hk
        have hg1 : g = false := by
         rw [HN.out, List.drop_of_length_le (by omega), lexF]
         intro _ _ _ _ h
         cases h
        subst hg1
        go_wp2
        go_ret
        exact ⟨rfl, HS.out.1⟩
     ·have hne : (sy != sy') = true := by simpa using he
      have hne2 : (sy == sy') = false := by simpa using he
      have hne3 : decide (sy = sy') = false := decide_eq_false he
      have hg1 : g = true := by rw [HG3.out, if_pos he]
      subst hg1
      refine start_ (n := 7) (S := fun w' => True) (ds := []) (bm 7 0) (by kernel_rfl) rfl rfl trivial (fun hHeld => ?_)
      refine pure_ (i := 0) (N := some 109) (bm 7 1) rfl rfl (by kernel_rfl) (fun _ _ _ h => h) (.inl ⟨rfl, tY_⟩) tP_ ?_
      refine pure_ (i := 1) (N := some 110) (bm 7 3) rfl rfl (by kernel_rfl) (fun _ _ _ h => h) (.inl ⟨rfl, tY_⟩) tP_ ?_
      refine pure_ (i := 3) (N := some 112) (bm 7 11) rfl rfl (by kernel_rfl) (fun _ _ _ h => h) (.inl ⟨rfl, tY_⟩) tP_ ?_
      refine pure_ (i := 4) (N := some 113) (bm 7 27) rfl rfl (by kernel_rfl) (fun _ _ _ h => h) (.inl ⟨rfl, tY_⟩) tP_ ?_
      refine take_ (i := 2) (N := some 111) (v := ?_) (a' := ?_) (bm 7 31) rfl rfl (by kernel_rfl) (fun _ _ _ h => h) (Or.inl ⟨by rfl, ?_⟩) hHeld ?_ ?_; rotate_left
      ·intro w' _
       go_simp
       with_reducible rfl
      rotate_left; exact tP_
      refine take_ (i := 5) (N := some 114) (v := ?_) (a' := ?_) (bm 7 63) rfl rfl (by kernel_rfl) (fun _ _ _ h => h) (Or.inl ⟨by rfl, ?_⟩) hHeld ?_ ?_; rotate_left
      ·intro w' _
       go_simp
       with_reducible rfl
      rotate_left; exact tP_
      refine pure_ (i := 6) (N := some 115) (bm 7 127) rfl rfl (by kernel_rfl) (fun _ _ _ h => h) (.inl ⟨rfl, tY_⟩) tP_ ?_
      refine done_ (by kernel_rfl) ?_
      go_wp2
      go_ret
      exact ⟨rfl, HD.out.1⟩
end Go.Proofs.YtaafeallcaiooaaGreat.Pr
-- indented by one
