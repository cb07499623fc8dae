/- Normal as the printer takes it. -/
import Derived.Test.YtaafeallcaiooaaGreatHNx
import Derived.Test.YtaafeallcaiooaaGreatHNe
import Derived.Test.YtaafeallcaiooaaGreatHOf
namespace Go.Proofs.YtaafeallcaiooaaGreat.Pr
open Go.RowKit Go.Maps Go.Proofs.Zw Go.Proofs.Zl Go.Proofs.Zm
set_option linter.unusedVariables false
set_option linter.unusedSimpArgs false
mutual
def innerT (ls : List (Tm × Tm)) : Tm → Option Tm
 | .var c => (rootT ls (.var c)).head?
 | .app s l => match innerL ls s [] l with
  | some x => some x
  | none => (rootT ls (.app s l)).head?
def innerL (ls : List (Tm × Tm)) (s : Int) : List Tm → List Tm → Option Tm
 | _, [] => none
 | pre, u :: us => match innerT ls u with
  | some v => some (.app s (pre ++ v :: us))
  | none => innerL ls s (pre ++ [u]) us
end
def orR (o : Option Tm) (r : List Tm) : Option Tm := match o with
 | some x => some x
 | none => r.head?
theorem innerT_app (ls : List (Tm × Tm)) (s : Int) (l : List Tm) : innerT ls (.app s l) = orR (innerL ls s [] l) (rootT ls (.app s l)) := by
 rw [innerT]
 cases innerL ls s [] l <;> rfl
theorem innerL_some {ls : List (Tm × Tm)} {s : Int} {l RT : List Tm} {i : Nat} {R : Option Tm} {v : Tm} (hlt : i < l.length) (h : R = orR (innerL ls s (l.take i) (l.drop i)) RT) (hn : innerT ls l[i] = some v) : R = some (mkT s l i v) := by
 rw [h, List.drop_eq_getElem_cons hlt, innerL, hn]
 rfl
theorem innerL_step {ls : List (Tm × Tm)} {s : Int} {l RT : List Tm} {i : Nat} {R : Option Tm} (hlt : i < l.length) (h : R = orR (innerL ls s (l.take i) (l.drop i)) RT) (hn : innerT ls l[i] = none) : R = orR (innerL ls s (l.take (i + 1)) (l.drop (i + 1))) RT := by
 rw [h, List.drop_eq_getElem_cons hlt, innerL, hn, List.take_succ_eq_append_getElem hlt]
def OutInn (w : World) (ok : Nat → Prop) (b : Bool) (t : Tm) (e : Ending) (w' : World) : Prop :=
 Below w.heap.size w w' ∧ ∃ q, e = .returned (.tuple #[encI q, .bool b]) ∧ Has w' ok t q
def InnOk (ls : List (Tm × Tm)) (T : Tm) : Prop := ∀ (q : Nat × Value) (w : World) (ok okL : Nat → Prop) (AL : Option Addr) (capL : Nat), HasW w okL ls AL → Has w ok T q → T.good → T.size ≤ 60 → (∀ k, w.heap.size ≤ k → ok k) →
 Calls Tryz.prog 102 #[.slice AL ls.length capL, encI q] w (OutInn w ok (innerT ls T).isSome ((innerT ls T).getD T))
section
attribute [local go_sem] asVV asVC asCC asCV
set_option maxHeartbeats 1000000 in
set_option maxRecDepth 100000 in
theorem inner_var (ls : List (Tm × Tm)) (hls : LawsGood ls) (hln : ls.length ≤ 1000) (c : Int) (w : World) (ok okL : Nat → Prop) (AL : Option Addr) (capL : Nat) (hL : HasW w okL ls AL) (hg : (Tm.var c).good) (hok : ∀ k, w.heap.size ≤ k → ok k) :
  Calls Tryz.prog 102 #[.slice AL ls.length capL, .iface 131 (.int .u8 c)] w (OutInn w ok (rootT ls (.var c)).head?.isSome ((rootT ls (.var c)).head?.getD (.var c))) := by
 have hrc := root_calls ls AL capL (.var c) (131, .int .u8 c) (w.alloc (.cells #[.int .u8 0, .slice none 0 0] 149)) ok okL (hL.below (below_alloc (Below.refl _ _) _)) (Has.var_.2 rfl) hg (by rw [Tm.size]; omega) hls hln (fun k hk => hok k (by simp at hk; omega))
 have hlen : (rootT ls (.var c)).length ≤ 1000 := by
  have := rootT_len ls (.var c)
  omega
 have hok2 : ∀ k, (w.alloc (.cells #[.int .u8 0, .slice none 0 0] 149)).heap.size ≤ k → ok k := fun k hk => hok k (by simp at hk; omega)
 have HOK := Aside0.mk hok2
 clear hok2
 cases hr : rootT ls (.var c) with
 | nil =>
  rw [hr] at hrc
  unfold encI at hrc
  have HC := Aside0.mk hrc
  clear hrc hL hg hls hln hok hlen hr
  go_enter Tryz.func102, Tryz.ntmps102
  go_wp2_with ((go_at_call 123; refine HC.out.mono ?_; rintro e wa ⟨v0, rfl, hrow, hb⟩; obtain ⟨A5, c5, rfl, hc5, hL5⟩ := hrow.read HOK.out; have HB := Aside0.mk hb; clear hrow hb hc5 hL5))
  go_ret2
  exact ⟨below_step (below_alloc (Below.refl _ _) _) HB.out, (131, .int .u8 c), rfl, Has.var_.2 rfl⟩
 | cons x r =>
  rw [hr] at hrc hlen
  unfold encI at hrc
  have HC := Aside0.mk hrc
  have hpos : decide ((0 : Int) < ((x :: r).length : Int)) = true := decide_eq_true (by simp)
  have hpos2 : 0 < (x :: r).length := by simp
  have HN := Aside0.mk hlen
  clear hrc hL hg hls hln hok hlen hr
  generalize hRT : x :: r = RT at *
  go_enter Tryz.func102, Tryz.ntmps102
  go_wp2_with ((go_at_call 123; refine HC.out.mono ?_; rintro e wa ⟨v0, rfl, hrow, hb⟩; obtain ⟨A5, c5, rfl, hc5, hL5⟩ := hrow.read HOK.out; obtain ⟨g5, cs5, ⟨t5, p5⟩, rfl, _, hg5, hi5, hq5⟩ := hL5.get 0 hpos2; rw [Nat.zero_add] at hi5; have hcell5 := (blk_cell hg5 0).trans hi5; unfold encI at hcell5; have HB := Aside0.mk (And.intro hb hq5); clear hrow hb hc5 hL5 hg5 hi5 hq5))
  go_ret2
  subst hRT
  exact ⟨below_step (below_alloc (Below.refl _ _) _) HB.out.1, (t5, p5), rfl, HB.out.2⟩
set_option maxHeartbeats 2000000 in
set_option maxRecDepth 100000 in
theorem inner_app (ls : List (Tm × Tm)) (hls : LawsGood ls) (hln : ls.length ≤ 1000) (s : Int) (l : List Tm) (ih : ∀ x, x ∈ l → InnOk ls x) (A : Option Addr) (cap : Nat) (w : World) (ok okL : Nat → Prop) (AL : Option Addr) (capL : Nat) (hL : HasW w okL ls AL) (hl : HasL w ok l A 0) (hcap : l.length ≤ cap) (hg : (Tm.app s l).good) (hs : (Tm.app s l).size ≤ 60) (hok : ∀ k, w.heap.size ≤ k → ok k) (R : Option Tm) (hR : R = orR (innerL ls s [] l) (rootT ls (.app s l))) :
  Calls Tryz.prog 102 #[.slice AL ls.length capL, .iface 149 (.agg #[.int .u8 s, .slice A l.length cap])] w (OutInn w ok R.isSome (R.getD (.app s l))) := by
 have hrc := fun w' (hb : Below w.heap.size w w') => root_calls ls AL capL (.app s l) (149, .agg #[.int .u8 s, .slice A l.length cap]) w' ok okL (hL.below hb) (Has.app_.2 ⟨A, cap, rfl, hcap, HasL.step (fun k hk hl => ⟨hk, hb.block k hl⟩) hl⟩) hg (by omega) hls hln (fun k hk => hok k (by have := hb.size; omega))
 have hlen : (rootT ls (.app s l)).length ≤ 1000 := by
  have := rootT_len ls (.app s l)
  omega
 have hl2 := good_len hg
 have hself : Has w ok (.app s l) (149, .agg #[.int .u8 s, .slice A l.length cap]) := Has.app_.2 ⟨A, cap, rfl, hcap, hl⟩
 rw [Tm.good] at hg
 rw [Tm.size] at hs
 generalize rootT ls (.app s l) = RT at *
 unfold encI at hrc
 have HC := Aside0.mk hrc
 have HP := Aside0.mk (And.intro hlen (And.intro hok (And.intro hR (And.intro hls (And.intro hln (And.intro ih (And.intro hL (And.intro hl (And.intro hcap (And.intro hg (And.intro hs (And.intro hl2 hself))))))))))))
 clear hrc hL hg hls hln hok hR hlen ih hl hcap hs hl2 hself
 go_enter Tryz.func102, Tryz.ntmps102
 go_wp2
 go_loopw [23] (fun v23 wr => ∃ (i : Nat), v23 = .int .i64 (i : Int) ∧ Aside0 (i ≤ l.length) ∧ Aside0 (R = orR (innerL ls s (l.take i) (l.drop i)) RT) ∧ Aside0 (Below (w.alloc (.cells #[.int .u8 s, .slice A l.length cap] 149)).heap.size (w.alloc (.cells #[.int .u8 s, .slice A l.length cap] 149)) wr)) (fun v23 _ => l.length - (intOf v23).toNat)
 case atStart =>
  obtain ⟨hlen, hok, hR, hls, hln, ih, hL, hl, hcap, hg, hs, hl2, hself⟩ := HP.out
  exact ⟨0, rfl, ⟨Nat.zero_le _⟩, ⟨hR⟩, ⟨Below.refl _ _⟩⟩
 case round =>
  obtain ⟨i, rfl, HI, HR, HB0⟩ := hrel
  obtain ⟨hlen, hok, hR, hls, hln, ih, hL, hl, hcap, hg, hs, hl2, hself⟩ := HP.out
  have hw1 : Below w.heap.size w (w.alloc (.cells #[.int .u8 s, .slice A l.length cap] 149)) := below_alloc (Below.refl _ _) _
  have hbw : Below w.heap.size w wr := below_step hw1 HB0.out
  have hbx0 : (w.alloc (.cells #[.int .u8 s, .slice A l.length cap] 149)).heap[w.heap.size]? = some (.cells #[.int .u8 s, .slice A l.length cap] 149 (0, 0)) := blk_new w _
  have hbxr := (HB0.out.block w.heap.size (by simp)).trans hbx0
  by_cases hlt : i < l.length
  ·have hlb : decide ((i : Int) < (l.length : Int)) = true := decide_eq_true (by omega)
   obtain ⟨g, cs, ps, rfl, hokg, hgc, hps, hpc⟩ := hl.pairs (by omega)
   have hgl := (Array.getElem?_eq_some_iff.1 hgc).1
   have hgr := (hbw.block g hgl).trans hgc
   obtain ⟨hc1, hq0⟩ := hpc i hlt (by omega)
   obtain ⟨⟨t1, p1⟩, hp1⟩ : ∃ p, p = ps[i]'(by omega) := ⟨_, rfl⟩
   rw [← hp1] at hc1 hq0
   have hcell : wr.cell? ⟨g, i, none⟩ = some (.iface t1 p1) := (blk_cell hgr i).trans hc1
   have hq1 : Has wr ok l[i] (t1, p1) := hq0.below hbw
   have hm1 : l[i] ∈ l := List.getElem_mem hlt
   have hsi := sizes_mem l _ hm1
   have hcall := ih l[i] hm1 (t1, p1) wr ok okL AL capL (hL.below hbw) hq1 (goods_mem hg.2.2 hm1) (by omega) (fun k hk => hok k (by have := hbw.size; omega))
   have w1i : wrap64 ((i : Int) + 1) = (i : Int) + 1 := wrp i (by omega)
   cases hn : innerT ls l[i] with
   | none =>
    have hR1 := innerL_step hlt HR.out hn
    rw [hn] at hcall
    have HC1 := Aside0.mk hcall
    have HH := Aside0.mk (And.intro hR1 hlt)
    clear hlen hok hR hls hln ih hL hl hcap hg hs hl2 hself hw1 hbw hbx0 hbxr hokg hgc hps hpc hgl hgr hc1 hq0 hp1 hq1 hm1 hsi hcall hn hR1
    unfold encI at HC1
    go_wp2_with (go_at_call 102; refine HC1.out.mono ?_; rintro e w2 ⟨hb2, q2, rfl, hq2⟩; have H2 := Aside0.mk hb2; clear hb2 hq2)
    obtain ⟨hR1, hlt⟩ := HH.out
    rw [w1i]
    refine ⟨⟨i + 1, by simp, ⟨by omega⟩, ⟨hR1⟩, ⟨below_step HB0.out H2.out⟩⟩, ?_⟩
    simp only [intOf]
    omega
   | some v =>
    have hR1 := innerL_some hlt HR.out hn
    rw [hn] at hcall
    have hcall2 : Calls Tryz.prog 102 #[.slice AL ls.length capL, encI (t1, p1)] wr (fun e w2 => ∃ t3 p3, e = .returned (.tuple #[.iface t3 p3, .bool true]) ∧ Has w2 ok v (t3, p3) ∧ Below w.heap.size w w2 ∧ w2.heap[w.heap.size]? = some (.cells #[.int .u8 s, .slice (some ⟨g, 0, none⟩) l.length cap] 149 (0, 0)) ∧ w2.heap[g]? = some (.cells cs 99 (0, 0))) := hcall.mono (by
     rintro e w2 ⟨hb2, ⟨t3, p3⟩, rfl, hq2⟩
     exact ⟨t3, p3, rfl, hq2, below_step hbw hb2, (hb2.block _ (Array.getElem?_eq_some_iff.1 hbxr).1).trans hbxr, (hb2.block _ (Array.getElem?_eq_some_iff.1 hgr).1).trans hgr⟩)
    have hps2 : ∀ j (h1 : j < l.length) (h2 : j < ps.length), cs[j]? = some (encI ps[j]) ∧ Has w ok l[j] ps[j] := hpc
    have HC1 := Aside0.mk hcall2
    have hlens : l.length ≤ 1000 := by omega
    have HH := Aside0.mk (And.intro hR1 (And.intro hps (And.intro hps2 (And.intro hlt (And.intro hcap (And.intro hlens hok))))))
    clear hlen hok hR hls hln ih hL hl hcap hg hs hl2 hself hw1 hbw hbx0 hbxr hokg hgc hps hpc hgl hgr hc1 hq0 hp1 hq1 hm1 hsi hcall hn hR1 hcall2 hps2 HP HC hlens
    unfold encI at HC1
    obtain ⟨own1, hown1⟩ : ∃ o : Option Nat, o = none := ⟨_, rfl⟩
    go_wp2_with (go_at_call 102; refine HC1.out.mono ?_; rintro e w2 ⟨t3, p3, rfl, hq3, hbw2, hbx, hgw⟩; have hbx' := Aside0.mk hbx; have HG := Aside0.mk hgw; have HQ0 := Aside0.mk hq3; have HB2 := Aside0.mk hbw2; have hcx0 := blk_cell hbx 0; have hcx1 := blk_cell hbx 1; clear hq3 hbw2 hbx hgw)
    have hbx := hbx'.out
    have hbxl := (Array.getElem?_eq_some_iff.1 hbx).1
    obtain ⟨hR1, hps, hpc, hlt, hcap, hlens, hok⟩ := HH.out
    have hps0 : 0 < ps.length := by omega
    have hgw := HG.out
    have hcl : ∀ w', Below w2.heap.size w2 w' → Calls Tryz.prog 126 #[.slice (some ⟨g, 0, none⟩) l.length cap] w' fun e w'' => ∃ (g2 cap2 : Nat) (cells2 : Array Value), e = .returned (.slice (some ⟨g2, 0, none⟩) l.length cap2) ∧ l.length ≤ cap2 ∧ w'.heap.size ≤ g2 ∧ w''.heap[g2]? = some (.cells cells2 99 (0, 0)) ∧ (∀ j (h : j < ps.length), cells2[j]? = some (encI ps[j])) ∧ Below w'.heap.size w' w'' := by
     intro w' hb'
     have := clone_calls ps g cap cs w' ((hb'.block g (Array.getElem?_eq_some_iff.1 hgw).1).trans hgw) (fun j hj => (hpc j (by omega) hj).1) (by omega)
     rw [hps] at this
     refine this.mono (fun e w'' hh => ?_)
     obtain ⟨v', rfl, hR', hb''⟩ := hh
     obtain ⟨g2, cap2, cells2, hv, hc, hb, hg2, hcs2⟩ := kI_cells hR' hps0
     rw [hps] at hv hc
     exact ⟨g2, cap2, cells2, by rw [hv], hc, hb, hg2, hcs2, hb''⟩
    have HCL := Aside0.mk hcl
    have HQ := Aside0.mk (And.intro HQ0.out (And.intro HB2.out (And.intro hps hpc)))
    have HP2 := Aside0.mk (And.intro hR1 (And.intro hlt hok))
    clear hR1 hpc hcap hok hgw hcl HQ0 HB2 hbx' HG HH HC1 hps hcx0 hcx1
    refine start_ (n := 8) (S := fun w' => w'.cell? ⟨w.heap.size, 0, none⟩ = some (.int .u8 s) ∧ w'.cell? ⟨w.heap.size, 1, none⟩ = some (.slice (some ⟨g, 0, none⟩) l.length cap)) (ds := [7]) (bm 8 0) (by kernel_rfl) rfl rfl ⟨(blk_cell (blk_drew hbx) 0), (blk_cell (blk_drew hbx) 1)⟩ (fun hHeld => ?_)
    refine pk_ 0 35 (bm 8 1) ?_
    refine pk_ 2 37 (bm 8 5) ?_
    refine take_ (i := 1) (N := some 36) (v := ?_) (a' := ?_) (bm 8 7) rfl rfl (by kernel_rfl) (fun _ _ _ h => h) (Or.inl ⟨by rfl, ?_⟩) hHeld ?_ ?_; rotate_left; (rintro w' ⟨s0, s1⟩; go_simp; with_reducible rfl); rotate_left; exact tP_
    refine take_ (i := 3) (N := some 38) (v := ?_) (a' := ?_) (bm 8 15) rfl rfl (by kernel_rfl) (fun _ _ _ h => h) (Or.inl ⟨by rfl, ?_⟩) hHeld ?_ ?_; rotate_left; (rintro w' ⟨s0, s1⟩; go_simp; with_reducible rfl); rotate_left; exact tP_
    refine join_ (σ := Nat × Nat × Nat) 1 #[true, true, true, true, true, true, true, false] (fun x => [(39, .slice (some ⟨x.1, 0, none⟩) l.length x.2.1), (40, .agg #[.int .u8 s, .slice (some ⟨x.1, 0, none⟩) l.length x.2.1]), (12, .pointer (some ⟨x.2.2, 0, none⟩))]) (fun x w' => ∃ cells2 : Array Value, w'.heap[x.1]? = some (.cells cells2 99 (0, 0)) ∧ (∀ j (h : j < ps.length), cells2[j]? = some (encI ps[j])) ∧ w'.heap[x.2.2]? = some (.cells #[.int .u8 0, .slice none 0 0] 149 (0, 0)) ∧ Below w2.heap.size w2 w' ∧ w2.heap.size ≤ x.1 ∧ w2.heap.size ≤ x.2.2 ∧ x.1 ≠ x.2.2 ∧ l.length ≤ x.2.1) ?_ ?_
    rotate_left
    ·intro hCont
     refine two_ (i := 4) (j := 6) (Ni := some 39) (Nj := some 12) #[true, true, true, true, true, false, false, false] #[true, true, true, true, false, false, true, false] rfl rfl rfl rfl (by kernel_rfl) (by decide) (by decide) (fun K hK => ?_) (fun K hK => ?_)
     ·skip
      refine goesD_ Tryz.func126 (by kernel_rfl) rfl #[.slice (some ⟨g, 0, none⟩) l.length cap] (by rfl) rfl rfl (by simp only [List.map_toArray, List.map_cons, List.map_nil]; rfl) ?_
      refine (HCL.out _ (below_draw _)).mono ?_
      rintro e w4 ⟨g2, cap2, cells2, rfl, hcap2, hbase2, hc2, hcs2, hbc⟩
      refine .inl ⟨_, rfl, ?_⟩
      have hbb : w2.heap.size + 0 ≤ g2 := by simpa using hbase2
      have hb4 : Below w2.heap.size w2 w4 := ⟨hbc.os, hbc.tape, hbc.output, hbc.size, hbc.block⟩
      have hbx4 := (hb4.block _ hbxl).trans hbx
      have hc40 := blk_cell hbx4 0
      have hc41 := blk_cell hbx4 1
      refine hK.out _ _ ⟨hc40, hc41⟩ (fun hHeld => ?_)
      clear hK K
      refine norm_ (a' := ?_) ?_ ?_; rotate_left; (show Act.put _ (some 39) _ = _; exact tP_)
      refine pk_ 5 40 (bm 8 63) ?_
      refine one_ (i := 6) (N := some 12) (bm 8 127) rfl rfl (by kernel_rfl) (by decide) (fun K hK => ?_)
      refine value_ (w1 := ?_) (v := ?_) (by rfl) rfl ?_ ?_
      rotate_left 2
      ·go_simp
       constructor
       ·rfl
       ·rfl
      have hc60 := blk_cell (blk_alloc hbx4 (.cells #[.int .u8 0, .slice none 0 0] 149)) 0
      have hc61 := blk_cell (blk_alloc hbx4 (.cells #[.int .u8 0, .slice none 0 0] 149)) 1
      refine hK.out _ _ ⟨hc60, hc61⟩ (fun hHeld => ?_)
      clear hK K
      refine norm_ (a' := ?_) ?_ ?_; rotate_left; (show Act.put _ (some 12) _ = _; exact tP_)
      exact norm_ (by simp only [putAll, Act.put, List.setIfInBounds_toArray, List.set_cons_zero, List.set_cons_succ]) (hCont (g2, cap2, w4.heap.size) _ ⟨cells2, blk_alloc hc2 _, hcs2, blk_new w4 _, below_step hb4 (below_alloc (Below.refl _ _) _), (show w2.heap.size ≤ g2 from by omega), hb4.size, (show g2 ≠ w4.heap.size from by have := (Array.getElem?_eq_some_iff.1 hc2).1; omega), hcap2⟩)
     ·skip
      refine value_ (w1 := ?_) (v := ?_) (by rfl) rfl ?_ ?_
      rotate_left 2
      ·go_simp
       constructor
       ·rfl
       ·rfl
      have hbz1 : Below w2.heap.size w2 (w2.drew.alloc (.cells #[.int .u8 0, .slice none 0 0] 149)) := below_alloc (below_draw _) _
      have hnz1 : (w2.drew.alloc (.cells #[.int .u8 0, .slice none 0 0] 149)).heap[w2.heap.size]? = some (.cells #[.int .u8 0, .slice none 0 0] 149 (0, 0)) := blk_new w2.drew _
      have hlz1 : w2.heap.size < (w2.drew.alloc (.cells #[.int .u8 0, .slice none 0 0] 149)).heap.size := (Array.getElem?_eq_some_iff.1 hnz1).1
      have hbx6 := (hbz1.block _ hbxl).trans hbx
      have hc60 := blk_cell hbx6 0
      have hc61 := blk_cell hbx6 1
      refine hK.out _ _ ⟨hc60, hc61⟩ (fun hHeld => ?_)
      clear hK K
      refine norm_ (a' := ?_) ?_ ?_; rotate_left; (show Act.put _ (some 12) _ = _; exact tP_)
      refine one_ (i := 4) (N := some 39) (bm 8 95) rfl rfl (by kernel_rfl) (by decide) (fun K hK => ?_)
      refine goesD_ Tryz.func126 (by kernel_rfl) rfl #[.slice (some ⟨g, 0, none⟩) l.length cap] (by rfl) rfl rfl (by simp only [List.map_toArray, List.map_cons, List.map_nil]; rfl) ?_
      refine (HCL.out _ hbz1).mono ?_
      rintro e w4 ⟨g2, cap2, cells2, rfl, hcap2, hbase2, hc2, hcs2, hbc⟩
      refine .inl ⟨_, rfl, ?_⟩
      have hbb : w2.heap.size + 1 ≤ g2 := by simpa using hbase2
      have hb4 : Below w2.heap.size w2 w4 := below_step hbz1 hbc
      have hbx4 := (hb4.block _ hbxl).trans hbx
      have hc40 := blk_cell hbx4 0
      have hc41 := blk_cell hbx4 1
      refine hK.out _ _ ⟨hc40, hc41⟩ (fun hHeld => ?_)
      clear hK K
      refine norm_ (a' := ?_) ?_ ?_; rotate_left; (show Act.put _ (some 39) _ = _; exact tP_)
      refine pk_ 5 40 (bm 8 127) ?_
      exact norm_ (by simp only [putAll, Act.put, List.setIfInBounds_toArray, List.set_cons_zero, List.set_cons_succ]) (hCont (g2, cap2, w2.heap.size) _ ⟨cells2, hc2, hcs2, (hbc.block _ hlz1).trans hnz1, hb4, (show w2.heap.size ≤ g2 from by omega), Nat.le_refl _, (show g2 ≠ w2.heap.size from by omega), hcap2⟩)
    rintro ⟨g2, cap2, by0⟩ w5 ⟨cells2, hc2, hcs2, hy, hb5, hge1, hge2, hne, hcap2⟩
    dsimp only at hc2 hy hge1 hge2 hne hcap2 ⊢
    have hbx5 := (hb5.block _ hbxl).trans hbx
    have hHeld : w5.cell? ⟨w.heap.size, 0, none⟩ = some (.int .u8 s) ∧ w5.cell? ⟨w.heap.size, 1, none⟩ = some (.slice (some ⟨g, 0, none⟩) l.length cap) := ⟨blk_cell hbx5 0, blk_cell hbx5 1⟩
    have hcy0 : w5.cell? ⟨by0, 0, none⟩ = some (.int .u8 0) := blk_cell hy 0
    have hcy1 : w5.cell? ⟨by0, 1, none⟩ = some (.slice none 0 0) := blk_cell hy 1
    have hzy0 : w5.frozen? ⟨by0, 0, none⟩ = false := by simp [World.frozen?, hy]
    have hzy1 : w5.frozen? ⟨by0, 1, none⟩ = false := by simp [World.frozen?, hy]
    refine norm_ (a' := ?_) ?_ ?_; rotate_left
    ·simp only [putAll, Act.put, List.setIfInBounds_toArray, List.set_cons_zero, List.set_cons_succ]
     rfl
    refine last_ (i := 7) (N := none) (bm 8 255) rfl rfl (by kernel_rfl) (by decide) (fun K hK => ?_)
    refine skip_ (w1 := ?_) (by rfl) rfl ?_ ?_
    rotate_left
    ·go_simp
     rfl
    refine hK.out _ _ ?_
    clear hK K
    refine done_ (by kernel_rfl) ?_
    obtain ⟨hq3, hbw2, hps, hpc⟩ := HQ.out
    have hy6 : ((w5.setCell ⟨by0, 0, none⟩ (.int .u8 s)).setCell ⟨by0, 1, none⟩ (.slice (some ⟨g2, 0, none⟩) l.length cap2)).heap[by0]? = some (.cells #[.int .u8 s, .slice (some ⟨g2, 0, none⟩) l.length cap2] 149 (0, 0)) := (blk_set2 (blk_set2 hy (.int .u8 s)).1 _).2
    have hg6 : ((w5.setCell ⟨by0, 0, none⟩ (.int .u8 s)).setCell ⟨by0, 1, none⟩ (.slice (some ⟨g2, 0, none⟩) l.length cap2)).heap[g2]? = some (.cells cells2 99 (0, 0)) := (Below.heap_setCell _ ⟨by0, 1, none⟩ _ g2 hne).trans ((Below.heap_setCell w5 ⟨by0, 0, none⟩ _ g2 hne).trans hc2)
    have hb6 : Below w2.heap.size w2 ((w5.setCell ⟨by0, 0, none⟩ (.int .u8 s)).setCell ⟨by0, 1, none⟩ (.slice (some ⟨g2, 0, none⟩) l.length cap2)) := (hb5.setCell (p := ⟨by0, 0, none⟩) hge2 _).setCell (p := ⟨by0, 1, none⟩) hge2 _
    obtain ⟨w6, hw6⟩ : ∃ w6, w6 = ((w5.setCell ⟨by0, 0, none⟩ (.int .u8 s)).setCell ⟨by0, 1, none⟩ (.slice (some ⟨g2, 0, none⟩) l.length cap2)) := ⟨_, rfl⟩
    rw [← hw6] at hy6 hg6 hb6 ⊢
    clear hw6 hcy0 hcy1 hzy0 hzy1 hy hc2 hb5 hHeld hbx5
    obtain ⟨zi, hci⟩ : ∃ zi, w6.cell? ⟨g2, i, none⟩ = some zi := ⟨_, (blk_cell hg6 i).trans (hcs2 i (by omega))⟩
    have hzi : w6.frozen? ⟨g2, i, none⟩ = false := by simp [World.frozen?, hg6]
    have hisz : i < cells2.size := (Array.getElem?_eq_some_iff.1 (hcs2 i (by omega))).1
    obtain ⟨cells7, hg7, hs7, ho7⟩ := blk_setN hg6 i hisz (.iface t3 p3)
    have hy7 : (w6.setCell ⟨g2, i, none⟩ (.iface t3 p3)).heap[by0]? = some (.cells #[.int .u8 s, .slice (some ⟨g2, 0, none⟩) l.length cap2] 149 (0, 0)) := (Below.heap_setCell w6 ⟨g2, i, none⟩ _ by0 (fun e => hne e.symm)).trans hy6
    have hd60 := blk_cell hy6 0
    have hd61 := blk_cell hy6 1
    have hd0 := blk_cell hy7 0
    have hd1 := blk_cell hy7 1
    have hb7 : Below w2.heap.size w2 (w6.setCell ⟨g2, i, none⟩ (.iface t3 p3)) := hb6.setCell (p := ⟨g2, i, none⟩) hge1 _
    obtain ⟨hR1, hlt, hok⟩ := HP2.out
    have hwr := hbw2.size
    have hnew : Has (w6.setCell ⟨g2, i, none⟩ (.iface t3 p3)) ok (mkT s l i v) (149, .agg #[.int .u8 s, .slice (some ⟨g2, 0, none⟩) l.length cap2]) := by
     rw [mkT_set s l i _ hlt]
     refine Has.app_.2 ⟨some ⟨g2, 0, none⟩, cap2, by rw [List.length_set], by rw [List.length_set]; exact hcap2, HasL.of (hok g2 (by omega)) hg7 _ 0 (fun j hj => ?_)⟩
     rw [List.length_set] at hj
     rw [Nat.zero_add]
     by_cases hji : j = i
     ·subst hji
      refine ⟨(t3, p3), hs7, ?_⟩
      rw [List.getElem_set_self]
      exact hq3.below hb7
     ·refine ⟨ps[j]'(by omega), (ho7 j hji).trans (hcs2 j (by omega)), ?_⟩
      rw [List.getElem_set_ne (fun e => hji e.symm)]
      exact ((hpc j hj (by omega)).2.below hbw2).below hb7
    have HF := Aside0.mk (And.intro (below_step hbw2 hb7) (And.intro hnew hR1))
    clear hnew hb7 hbw2 hq3 hps hpc hy6 hg6 hb6 hg7 hs7 ho7 hy7 hbx hbxl hps0 hcs2 hcap2 HCL HQ HP2 hR1 hok hlt hwr
    go_wp2
    go_ret2
    obtain ⟨h1, h2, rfl⟩ := HF.out
    exact ⟨h1, (149, _), rfl, h2⟩
  ·have hlb : decide ((i : Int) < (l.length : Int)) = false := decide_eq_false (by omega)
   have hch : R = RT.head? := by
    have := HR.out
    rw [List.drop_of_length_le (by omega), innerL] at this
    exact this
   have hC2 := HC.out wr hbw
   have hself2 := hself.below hbw
   have hokw : ∀ k, wr.heap.size ≤ k → ok k := fun k hk => hok k (by have := hbw.size; omega)
   have HF := Aside0.mk (And.intro hbw (And.intro hself2 hokw))
   clear hok hR hls hln ih hL hl hcap hg hs hl2 hself hw1 hbw hbx0 hbxr hself2 hokw HP HC
   subst hch
   cases RT with
   | nil =>
    have HC2 := Aside0.mk hC2
    clear hC2 hlen HR
    go_wp2_with (go_at_call 123; refine HC2.out.mono ?_; rintro e wa ⟨v0, rfl, hrow, hb⟩; obtain ⟨A5, c5, rfl, hc5, hL5⟩ := hrow.read HF.out.2.2; have HB := Aside0.mk hb; clear hrow hb hc5 hL5)
    go_ret2
    exact ⟨below_step HF.out.1 HB.out, (149, _), rfl, HF.out.2.1.below HB.out⟩
   | cons x r =>
    have HC2 := Aside0.mk hC2
    have hpos : decide ((0 : Int) < ((x :: r).length : Int)) = true := decide_eq_true (by simp)
    have hpos2 : 0 < (x :: r).length := by simp
    have HN := Aside0.mk hlen
    clear hC2 hlen HR
    generalize hRT : x :: r = RT at *
    go_wp2_with (go_at_call 123; refine HC2.out.mono ?_; rintro e wa ⟨v0, rfl, hrow, hb⟩; obtain ⟨A5, c5, rfl, hc5, hL5⟩ := hrow.read HF.out.2.2; obtain ⟨g5, cs5, ⟨t5, p5⟩, rfl, _, hg5, hi5, hq5⟩ := hL5.get 0 hpos2; rw [Nat.zero_add] at hi5; have hcell5 := (blk_cell hg5 0).trans hi5; unfold encI at hcell5; have HB := Aside0.mk (And.intro hb hq5); clear hrow hb hc5 hL5 hg5 hi5 hq5)
    go_ret2
    subst hRT
    exact ⟨below_step HF.out.1 HB.out.1, (t5, p5), rfl, HB.out.2⟩
theorem inner_calls (ls : List (Tm × Tm)) (hls : LawsGood ls) (hln : ls.length ≤ 1000) : ∀ T, InnOk ls T := by
 refine Tm.ind (fun c q w ok okL AL capL hL h hg hs hok => ?_) (fun s l ih q w ok okL AL capL hL h hg hs hok => ?_)
 ·rw [Has.var_] at h
  subst h
  rw [innerT]
  exact inner_var ls hls hln c w ok okL AL capL hL hg hok
 ·rw [Has.app_] at h
  obtain ⟨A, cap, rfl, hc, hl⟩ := h
  exact inner_app ls hls hln s l ih A cap w ok okL AL capL hL hl hc hg hs hok _ (innerT_app ls s l)
end
mutual
theorem innerT_size {ls : List (Tm × Tm)} (hls : LawsGood ls) : ∀ (T u : Tm), T.size ≤ 60 → innerT ls T = some u → u.size ≤ T.size + 720
  | .var c, u, hs, h => by
    rw [innerT] at h
    have := rootT_size hls hs (List.mem_of_mem_head? (by rw [h]; rfl))
    have := Tm.size_pos (.var c)
    omega
  | .app s l, u, hs, h => by
    rw [innerT] at h
    have h2 := hs
    rw [Tm.size] at h2
    cases hl : innerL ls s [] l with
    | none =>
      rw [hl] at h
      dsimp only at h
      have := rootT_size hls hs (List.mem_of_mem_head? (by rw [h]; rfl))
      have := Tm.size_pos (.app s l)
      omega
    | some x =>
      rw [hl] at h
      injection h with h
      subst h
      have := innerL_size hls s [] l x (by omega) hl
      have e1 : (Tm.app s l).size = 1 + Tm.sizes l := by rw [Tm.size]
      have e2 : Tm.sizes [] = 0 := by rw [Tm.sizes]
      omega
theorem innerL_size {ls : List (Tm × Tm)} (hls : LawsGood ls) (s : Int) : ∀ (pre us : List Tm) (x : Tm), Tm.sizes us ≤ 60 → innerL ls s pre us = some x → x.size ≤ 1 + Tm.sizes pre + Tm.sizes us + 720
  | pre, [], x, hs, h => by rw [innerL] at h; cases h
  | pre, u :: us, x, hs, h => by
    rw [innerL] at h
    rw [Tm.sizes] at hs ⊢
    have hp := Tm.sizes_nn us
    have hp2 := Tm.size_pos u
    cases hi : innerT ls u with
    | some v =>
      rw [hi] at h
      injection h with h
      subst h
      have := innerT_size hls u v (by omega) hi
      rw [Tm.size, sizes_app, Tm.sizes]
      omega
    | none =>
      rw [hi] at h
      have := innerL_size hls s (pre ++ [u]) us x (by omega) h
      rw [sizes_app, Tm.sizes, Tm.sizes] at this
      omega
end
mutual
theorem innerT_good {ls : List (Tm × Tm)} (hls : LawsGood ls) : ∀ (T u : Tm), T.good → T.size ≤ 60 → innerT ls T = some u → u.good
  | .var c, u, hg, hs, h => by
    rw [innerT] at h
    exact rootT_good hls hg (by omega) (List.mem_of_mem_head? (by rw [h]; rfl))
  | .app s l, u, hg, hs, h => by
    rw [innerT] at h
    have h2 := hs
    rw [Tm.size] at h2
    cases hl : innerL ls s [] l with
    | none =>
      rw [hl] at h
      dsimp only at h
      exact rootT_good hls hg (by omega) (List.mem_of_mem_head? (by rw [h]; rfl))
    | some x =>
      rw [hl] at h
      injection h with h
      subst h
      rw [Tm.good] at hg
      exact innerL_good hls s [] l x hg.1 (by simpa using hg.2.1) (by rw [Tm.goods]; trivial) hg.2.2 (by omega) hl
theorem innerL_good {ls : List (Tm × Tm)} (hls : LawsGood ls) (s : Int) : ∀ (pre us : List Tm) (x : Tm), (97 ≤ s ∧ s ≤ 102) → ((pre.length : Int) + us.length = nParts s) → Tm.goods pre → Tm.goods us → Tm.sizes us ≤ 60 → innerL ls s pre us = some x → x.good
  | pre, [], x, _, _, _, _, hs, h => by rw [innerL] at h; cases h
  | pre, u :: us, x, h1, h2, h3, h4, hs, h => by
    rw [innerL] at h
    rw [Tm.sizes] at hs
    rw [Tm.goods] at h4
    rw [List.length_cons] at h2
    have hp := Tm.sizes_nn us
    have hp2 := Tm.size_pos u
    cases hi : innerT ls u with
    | some v =>
      rw [hi] at h
      injection h with h
      subst h
      have hvg := innerT_good hls u v h4.1 (by omega) hi
      rw [Tm.good]
      refine ⟨h1, ?_, ?_⟩
      · rw [List.length_append, List.length_cons]
        omega
      · rw [goods_app]
        exact ⟨h3, by rw [Tm.goods]; exact ⟨hvg, h4.2⟩⟩
    | none =>
      rw [hi] at h
      refine innerL_good hls s (pre ++ [u]) us x h1 ?_ ?_ h4.2 (by omega) h
      · rw [List.length_append, List.length_cons, List.length_nil]
        omega
      · rw [goods_app]
        exact ⟨h3, by rw [Tm.goods, Tm.goods]; exact ⟨h4.1, trivial⟩⟩
end
def normT (ls : List (Tm × Tm)) : Nat → Tm → Option (Tm × Nat)
  | 0, t => match innerT ls t with
    | none => some (t, 0)
    | some _ => none
  | k + 1, t => match innerT ls t with
    | none => some (t, 0)
    | some u => if u.size ≤ 60 then (normT ls k u).map fun r => (r.1, r.2 + 1) else none
theorem normT_none {ls : List (Tm × Tm)} {k : Nat} {t : Tm} (h : innerT ls t = none) : normT ls k t = some (t, 0) := by
  cases k <;> rw [normT, h]
theorem normT_big {ls : List (Tm × Tm)} {k : Nat} {t u : Tm} (h : innerT ls t = some u) (hu : ¬ u.size ≤ 60) : normT ls k t = none := by
  cases k with
  | zero => rw [normT, h]
  | succ k => rw [normT, h]; dsimp only; rw [if_neg hu]
theorem normT_zero {ls : List (Tm × Tm)} {t u : Tm} (h : innerT ls t = some u) : normT ls 0 t = none := by
  rw [normT, h]
theorem normT_succ {ls : List (Tm × Tm)} {k : Nat} {t u : Tm} (h : innerT ls t = some u) (hu : u.size ≤ 60) : normT ls (k + 1) t = (normT ls k u).map fun r => (r.1, r.2 + 1) := by
  rw [normT, h]
  dsimp only
  rw [if_pos hu]
def normalT (rs : List S94) (s : ByteArray) (most : Int) : Int × ByteArray × Int :=
  match newLawsT rs with
  | none => (2, ⟨#[]⟩, 0)
  | some ls => match readT s with
    | none => (4, ⟨#[]⟩, 0)
    | some t => if 0 ≤ most ∧ most ≤ 200 then (match normT ls most.toNat t with
      | none => (5, ⟨#[]⟩, 0)
      | some r => (0, r.1.text, (r.2 : Int))) else (2, ⟨#[]⟩, 0)
structure But2 (g h : Nat) (w w' : World) : Prop where
  os : w'.os = w.os
  tape : w'.tape = w.tape
  output : w'.output = w.output
  size : w.heap.size ≤ w'.heap.size
  block : ∀ k, k < w.heap.size → k ≠ g → k ≠ h → w'.heap[k]? = w.heap[k]?
theorem But2.trans {g h : Nat} {a b c : World} (x : But2 g h a b) (y : But2 g h b c) : But2 g h a c :=
  ⟨y.os.trans x.os, y.tape.trans x.tape, y.output.trans x.output, Nat.le_trans x.size y.size, fun k hk h1 h2 => (y.block k (Nat.lt_of_lt_of_le hk x.size) h1 h2).trans (x.block k hk h1 h2)⟩
theorem But2.of_below {g h : Nat} {w w' : World} (x : Below w.heap.size w w') : But2 g h w w' := ⟨x.os, x.tape, x.output, x.size, fun k hk _ _ => x.block k hk⟩
theorem But2.set1 {g h : Nat} (w : World) (j : Nat) (v : Value) : But2 g h w (w.setCell ⟨g, j, none⟩ v) := ⟨rfl, rfl, rfl, by simp [World.setCell], fun k _ hg _ => Below.heap_setCell w ⟨g, j, none⟩ v k hg⟩
theorem But2.set2 {g h : Nat} (w : World) (j : Nat) (v : Value) : But2 g h w (w.setCell ⟨h, j, none⟩ v) := ⟨rfl, rfl, rfl, by simp [World.setCell], fun k _ _ hg => Below.heap_setCell w ⟨h, j, none⟩ v k hg⟩
theorem But2.below {g h B : Nat} {w w' : World} (x : But2 g h w w') (hg : B ≤ g) (hh : B ≤ h) (hB : B ≤ w.heap.size) : Below B w w' := ⟨x.os, x.tape, x.output, x.size, fun k hk => x.block k (by omega) (by omega) (by omega)⟩
theorem enters100 : ∀ args w, (callFunc 100 args).run Tryz.prog w = .ok (.enter 100 args) w := fun args w => enters_ Tryz.func100 (by kernel_rfl) rfl args w
def restN (ls : List (Tm × Tm)) (m n : Nat) (t : Tm) : Int × ByteArray × Int := match normT ls (m - n) t with
 | none => (5, ⟨#[]⟩, 0)
 | some r => (0, r.1.text, ((r.2 + n : Nat) : Int))
theorem restN_none {ls : List (Tm × Tm)} {m n : Nat} {t : Tm} (h : innerT ls t = none) : restN ls m n t = (0, t.text, (n : Int)) := by
 unfold restN
 rw [normT_none h]
 dsimp only
 rw [Nat.zero_add]
theorem restN_big {ls : List (Tm × Tm)} {m n : Nat} {t u : Tm} (h : innerT ls t = some u) (hu : ¬ u.size ≤ 60) : restN ls m n t = (5, ⟨#[]⟩, 0) := by
 unfold restN
 rw [normT_big h hu]
theorem restN_zero {ls : List (Tm × Tm)} {m n : Nat} {t u : Tm} (h : innerT ls t = some u) (hm : m ≤ n) : restN ls m n t = (5, ⟨#[]⟩, 0) := by
 unfold restN
 rw [show m - n = 0 by omega, normT_zero h]
theorem restN_succ {ls : List (Tm × Tm)} {m n : Nat} {t u : Tm} (h : innerT ls t = some u) (hu : u.size ≤ 60) (hm : n < m) : restN ls m n t = restN ls m (n + 1) u := by
 unfold restN
 rw [show m - n = (m - (n + 1)) + 1 by omega, normT_succ h hu]
 cases normT ls (m - (n + 1)) u with
 | none => rfl
 | some r => simp only [Option.map_some]; rw [show r.2 + 1 + n = r.2 + (n + 1) by omega]
def OutNm (b3 b4 : Nat) (w : World) (r : Int × ByteArray × Int) (e : Ending) (w' : World) : Prop :=
 e = endE r.1 ∧ But2 b3 b4 w w' ∧ w'.heap[b3]? = some (.cells #[.string r.2.1] 9 (0, 0)) ∧ w'.heap[b4]? = some (.cells #[.int .i64 r.2.2] 3 (0, 0))
theorem OutNm.stay {b3 b4 : Nat} {w w' : World} {c : Int} (h3 : w.heap[b3]? = some (.cells #[.string ⟨#[]⟩] 9 (0, 0))) (h4 : w.heap[b4]? = some (.cells #[.int .i64 0] 3 (0, 0))) (hb : Below w.heap.size w w') (hc : c ≠ 0) : OutNm b3 b4 w (c, ⟨#[]⟩, 0) (troubled c) w' :=
 ⟨(endE_no hc).symm, But2.of_below hb, blk_below h3 hb, blk_below h4 hb⟩
set_option maxRecDepth 100000 in
set_option maxHeartbeats 1000000 in
theorem normal1_calls (rs : List S94) (s : ByteArray) (most : Int) (A0 : Option Addr) (c0 b0 b1 b2 b3 b4 : Nat) (w : World) (hC0 : Kd.C k94 w A0 rs.length rs) (hb0 : w.heap[b0]? = some (.cells #[.slice A0 rs.length c0] 35 (0, 0))) (hb1 : w.heap[b1]? = some (.cells #[.string s] 9 (0, 0))) (hb2 : w.heap[b2]? = some (.cells #[.int .i64 most] 3 (0, 0))) (hb3 : w.heap[b3]? = some (.cells #[.string ⟨#[]⟩] 9 (0, 0))) (hb4 : w.heap[b4]? = some (.cells #[.int .i64 0] 3 (0, 0))) (hne : b3 ≠ b4) :
  Calls Tryz.prog 100 #[.pointer (some ⟨b0, 0, none⟩), .pointer (some ⟨b1, 0, none⟩), .pointer (some ⟨b2, 0, none⟩), .pointer (some ⟨b3, 0, none⟩), .pointer (some ⟨b4, 0, none⟩)] w (OutNm b3 b4 w (normalT rs s most)) := by
 have hx0 := blk_cell hb0 0
 have hnl := newLaws_calls rs A0 c0 w hC0
 cases hL : newLawsT rs with
 | none =>
  have e : normalT rs s most = (2, ⟨#[]⟩, 0) := by unfold normalT; rw [hL]
  rw [e]
  rw [hL] at hnl
  have HC := Aside0.mk hnl
  have HB2 := Aside0.mk (And.intro hb3 hb4)
  clear hnl hC0 hb0 hb1 hb2 hb3 hb4 hL e
  go_enter Tryz.func100, Tryz.ntmps100
  go_wp2_with (go_at_call 77; refine HC.out.mono ?_; rintro e w1 ⟨hb, rfl⟩; have H1 := Aside0.mk hb; clear hb)
  exact ⟨rfl, OutNm.stay (c := 2) HB2.out.1 HB2.out.2 H1.out (by decide)⟩
 | some ls =>
  have hlg := newLawsT_good hL
  rw [hL] at hnl
  have hrc := fun w' : World => read_calls (fun _ => True) s w' (fun _ _ => trivial)
  cases hR : readT s with
  | none =>
   have e : normalT rs s most = (4, ⟨#[]⟩, 0) := by unfold normalT; rw [hL]; dsimp only; rw [hR]
   rw [e]
   rw [hR] at hrc
   have HC := Aside0.mk hnl
   have HR := Aside0.mk hrc
   have HB2 := Aside0.mk (And.intro hb3 (And.intro hb4 hb1))
   clear hnl hC0 hb0 hb1 hb2 hb3 hb4 hL hR e hrc hlg
   go_enter Tryz.func100, Tryz.ntmps100
   go_wp2_with (first
    | (go_at_call 77; refine HC.out.mono ?_; rintro e w1 ⟨hb, A2, c2, rfl, hW⟩; have hx1 := blk_cell (blk_below HB2.out.2.2 hb) 0; have H1 := Aside0.mk (And.intro hb hW); clear hb hW)
    | (go_at_call 69; refine (HR.out _).mono ?_; rintro e w2 ⟨hb, rfl⟩; have H2 := Aside0.mk (below_on H1.out.1 hb); clear hb))
   exact ⟨rfl, OutNm.stay (c := 4) HB2.out.1 HB2.out.2.1 H2.out (by decide)⟩
  | some T =>
   have hgd := readT_good hR
   rw [hR] at hrc
   have HC := Aside0.mk hnl
   have HR := Aside0.mk hrc
   have HB2 := Aside0.mk (And.intro hb3 (And.intro hb4 (And.intro hb1 hb2)))
   by_cases hm : 0 ≤ most ∧ most ≤ 200
   ·have e : normalT rs s most = restN ls most.toNat 0 T := by
     unfold normalT restN
     rw [hL]; dsimp only; rw [hR]; dsimp only; rw [if_pos hm, Nat.sub_zero]
     cases normT ls most.toNat T with
     | none => rfl
     | some r => rfl
    rw [e]
    have hwi : withinB most 0 200 = true := by unfold withinB; rw [decide_eq_true (show most ≥ 0 from hm.1), decide_eq_true hm.2]; rfl
    obtain ⟨m, rfl⟩ : ∃ m : Nat, most = (m : Int) := ⟨most.toNat, by omega⟩
    have hm2 : m ≤ 200 := by omega
    rw [Int.toNat_natCast]
    obtain ⟨RR, hRR⟩ : ∃ r, restN ls m 0 T = r := ⟨_, rfl⟩
    rw [hRR]
    have HP := Aside0.mk (And.intro hlg (And.intro hgd (And.intro hRR (And.intro hm2 hne))))
    clear hnl hC0 hb0 hb1 hb2 hb3 hb4 hL hR e hrc hlg hgd hRR hm hm2 hne
    go_enter Tryz.func100, Tryz.ntmps100
    go_wp2_with (first
     | (go_at_call 77; refine HC.out.mono ?_; rintro e w1 ⟨hb, A2, c2, rfl, hW⟩; have hx1 := blk_cell (blk_below HB2.out.2.2.1 hb) 0; have H1 := Aside0.mk (And.intro hb hW); clear hb hW)
     | (go_at_call 69; refine (HR.out _).mono ?_; rintro e w2 ⟨hb, ⟨tid, pv⟩, he, hp⟩; obtain rfl : e = .returned (.iface tid pv) := he; have hx2 := blk_cell (blk_below HB2.out.2.2.2 (below_on H1.out.1 hb)) 0; have H2 := Aside0.mk (And.intro (below_on H1.out.1 hb) (And.intro (H1.out.2.below hb) hp)); clear hb hp)
     | (go_at_call 101; refine (within_calls _ _ _ _).mono ?_; rintro e w3 ⟨rfl, h3⟩; subst w3; rw [hwi])
     | (go_at_call 67; refine (demand_ok _ _).mono ?_; rintro e w3 ⟨rfl, h3⟩; subst w3))
    go_loopw [6, 7] (fun v6 v7 wr => ∃ (n : Nat) (t : Tm) (q : Nat × Value), v6 = encI q ∧ v7 = .int .i64 (n : Int) ∧ Aside0 (n ≤ m) ∧ Aside0 (restN ls m n t = RR) ∧ Aside0 (t.good ∧ t.size ≤ 60) ∧ Aside0 (Has wr (fun _ => True) t q) ∧ Aside0 (Below w.heap.size w wr ∧ Below w2.heap.size w2 wr)) (fun _ v7 _ => m + 1 - (intOf v7).toNat)
    case atStart =>
     obtain ⟨hlg, hgd, hRR, hm2, hne⟩ := HP.out
     exact ⟨0, T, (tid, pv), rfl, rfl, ⟨Nat.zero_le _⟩, ⟨hRR⟩, ⟨hgd⟩, ⟨H2.out.2.2⟩, ⟨H2.out.1, Below.refl _ _⟩⟩
    case round =>
     obtain ⟨n, t, ⟨tid6, pv6⟩, rfl, rfl, HN, HE, HG, HH, HB⟩ := hrel
     obtain ⟨hlg, hgd, hRR, hm2', hne⟩ := HP.out
     have hW := H2.out.2.1.below HB.out.2
     have hin := inner_calls ls hlg.1 (by omega) t (tid6, pv6) wr (fun _ => True) _ A2 c2 hW HH.out HG.out.1 HG.out.2 (fun _ _ => trivial)
     have hwb2 := blk_below HB2.out.2.2.2 HB.out.1
     have hx2r := blk_cell hwb2 0
     have hb3r := blk_below HB2.out.1 HB.out.1
     have hb4r := blk_below HB2.out.2.1 HB.out.1
     cases hi : innerT ls t with
     | none =>
      rw [hi] at hin
      have hR0 := (restN_none (m := m) (n := n) hi).symm.trans HE.out
      have htx := fun w' h => text_calls t (tid6, pv6) w' (fun _ => True) h HG.out.1 (by have := HG.out.2; omega)
      obtain ⟨F, hF⟩ : ∃ F, F = txF (tid6, pv6) := ⟨_, rfl⟩
      have hm1 : ∀ w, (method 337 tid6 pv6 "numnah/rules.text").run Tryz.prog w = .ok (F, pv6) w := hF ▸ meth_text HH.out
      have hm2 : ∀ args w, (callFunc F args).run Tryz.prog w = .ok (.enter F args) w := hF ▸ enters_text HH.out
      rw [← hF] at htx
      have HI := Aside0.mk hin
      have HT := Aside0.mk htx
      have HK := Aside0.mk (And.intro hb3r (And.intro hb4r (And.intro hne hR0)))
      clear hlg hgd hRR hm2' hne hin hW hwb2 hx2r hi hR0 htx hF hb3r hb4r
      unfold encI at *
      generalize t.text = xt at *
      go_wp2_with (first
       | (go_at_call 102; refine HI.out.mono ?_; rintro e wa ⟨hb, ⟨t9, p9⟩, rfl, hq⟩; have H3 := Aside0.mk hb; clear hb hq)
       | (refine (HT.out _ (HH.out.below H3.out)).mono ?_; rintro e wb ⟨rfl, hb⟩; have h3 := blk_below (blk_below HK.out.1 H3.out) hb; have h4 := blk_below (blk_below HK.out.2.1 H3.out) hb; have hz3 := blk_frozen h3 0; have hd3 : wb.cell? ⟨b3, 0, none⟩ = some (.string ⟨#[]⟩) := blk_cell h3 0; have h4s := (Below.heap_setCell wb ⟨b3, 0, none⟩ (.string xt) b4 (fun e => HK.out.2.2.1 e.symm)).trans h4; have hz4 := blk_frozen h4s 0; have hd4 : (wb.setCell ⟨b3, 0, none⟩ (.string xt)).cell? ⟨b4, 0, none⟩ = some (.int .i64 0) := blk_cell h4s 0; clear h4s; have H4 := Aside0.mk (And.intro (below_on H3.out hb) (And.intro h3 h4)); clear hb h3 h4))
      obtain ⟨h9, h3, h4⟩ := H4.out
      obtain ⟨hb3r, hb4r, hne, hR0⟩ := HK.out
      have hf3 := (Below.heap_setCell (wb.setCell ⟨b3, 0, none⟩ (.string xt)) ⟨b4, 0, none⟩ (.int .i64 (n : Int)) b3 hne).trans (blk_setCell h3 (.string xt))
      have hf4 := blk_setCell ((Below.heap_setCell wb ⟨b3, 0, none⟩ (.string xt) b4 (fun e => hne e.symm)).trans h4) (.int .i64 (n : Int))
      have hfb : But2 b3 b4 w ((wb.setCell ⟨b3, 0, none⟩ (.string xt)).setCell ⟨b4, 0, none⟩ (.int .i64 (n : Int))) := (But2.of_below (below_on HB.out.1 h9)).trans ((But2.set1 _ 0 _).trans (But2.set2 _ 0 _))
      generalize (wb.setCell ⟨b3, 0, none⟩ (.string xt)).setCell ⟨b4, 0, none⟩ (.int .i64 (n : Int)) = w9 at *
      simp [bodyPost, results, Tryz.results100]
      rw [← hR0]
      exact ⟨rfl, hfb, hf3, hf4⟩
     | some u =>
      rw [hi] at hin
      have hgu := innerT_good hlg.1 t u HG.out.1 HG.out.2 hi
      have hsu := innerT_size hlg.1 t u HG.out.2 hi
      have hw1 : wrap64 ((n : Int) + 1) = (n : Int) + 1 := wrS (by omega) (by have := HN.out; omega)
      have hsz := fun q w' h => size_calls u q w' (fun _ => True) h (by have := HG.out.2; omega)
      by_cases hnm : n < m
      ·have hlp : (n : Int) + 1 ≤ (m : Int) := by omega
       have hle : decide ((n : Int) + 1 ≤ (m : Int)) = true := decide_eq_true hlp
       by_cases hu6 : u.size ≤ 60
       ·have hR1 := (restN_succ hi hu6 hnm).symm.trans HE.out
        have hle6 : decide (u.size ≤ 60) = true := decide_eq_true hu6
        have HI := Aside0.mk hin
        have HS := Aside0.mk hsz
        have HK := Aside0.mk (And.intro hR1 (And.intro hgu (And.intro (Aside0.mk hu6) (And.intro hnm hwb2))))
        clear hlg hgd hRR hm2' hne hin hW hwb2 hx2r hi hb3r hb4r hgu hsu hsz hnm hu6 hR1
        unfold encI at *
        obtain ⟨us, hus⟩ : ∃ us, us = u.size := ⟨_, rfl⟩
        rw [← hus] at HS hle6
        have HUS := Aside0.mk hus
        clear hus
        go_wp2_with (first
         | (go_at_call 102; refine HI.out.mono ?_; rintro e wa ⟨hb, ⟨t9, p9⟩, he, hq⟩; obtain rfl : e = .returned (.tuple #[.iface t9 p9, .bool true]) := he; obtain ⟨F, hF⟩ : ∃ F, F = szF (t9, p9) := ⟨_, rfl⟩; have hm1 : ∀ w, (method 337 t9 p9 "numnah/rules.size").run Tryz.prog w = .ok (F, p9) w := hF ▸ meth_size hq; have hm2 : ∀ args w, (callFunc F args).run Tryz.prog w = .ok (.enter F args) w := hF ▸ enters_size hq; have HC9 := Aside0.mk (HS.out (t9, p9) wa hq); rw [← hF] at HC9; clear hF; have hx2a := blk_cell (blk_below HK.out.2.2.2.2 hb) 0; have H3 := Aside0.mk (And.intro hb hq); clear hb hq)
         | (go_at_call 67; (try rw [hle6]); with_reducible refine (demand_ok _ _).mono ?_; rintro e w8 ⟨rfl, h8⟩; subst w8)
         | (refine HC9.out.mono ?_; rintro e wb ⟨rfl, hb⟩; have H4 := Aside0.mk (And.intro (below_on H3.out.1 hb) (H3.out.2.below hb)); clear hb))
        obtain ⟨hR1, hgu, ⟨hu6⟩, hnm, hwb2⟩ := HK.out
        refine ⟨⟨n + 1, u, (t9, p9), rfl, by first | rfl | simp, ⟨hnm⟩, ⟨hR1⟩, ⟨hgu, hu6⟩, ⟨H4.out.2⟩, ⟨below_on HB.out.1 H4.out.1, below_on HB.out.2 H4.out.1⟩⟩, ?_⟩
        simp only [intOf]
        clear hw1
        omega
       ·have hR1 := (restN_big (m := m) (n := n) hi hu6).symm.trans HE.out
        have hle6 : decide (u.size ≤ 60) = false := decide_eq_false hu6
        have HI := Aside0.mk hin
        have HS := Aside0.mk hsz
        have HK := Aside0.mk (And.intro hR1 (And.intro hb3r (And.intro hb4r (And.intro hnm hwb2))))
        clear hlg hgd hRR hm2' hne hin hW hwb2 hx2r hi hb3r hb4r hgu hsu hsz hnm hu6 hR1
        unfold encI at *
        generalize u.size = us at *
        go_wp2_with (first
         | (go_at_call 102; refine HI.out.mono ?_; rintro e wa ⟨hb, ⟨t9, p9⟩, he, hq⟩; obtain rfl : e = .returned (.tuple #[.iface t9 p9, .bool true]) := he; obtain ⟨F, hF⟩ : ∃ F, F = szF (t9, p9) := ⟨_, rfl⟩; have hm1 : ∀ w, (method 337 t9 p9 "numnah/rules.size").run Tryz.prog w = .ok (F, p9) w := hF ▸ meth_size hq; have hm2 : ∀ args w, (callFunc F args).run Tryz.prog w = .ok (.enter F args) w := hF ▸ enters_size hq; have HC9 := Aside0.mk (HS.out (t9, p9) wa hq); rw [← hF] at HC9; clear hF; have hx2a := blk_cell (blk_below HK.out.2.2.2.2 hb) 0; have H3 := Aside0.mk (And.intro hb hq); clear hb hq)
         | (go_at_call 67; (try rw [hle6]); with_reducible refine (demand_no _ _).mono ?_; rintro e w8 ⟨rfl, h8⟩; subst w8)
         | (refine HC9.out.mono ?_; rintro e wb ⟨rfl, hb⟩; have H4 := Aside0.mk (below_on H3.out.1 hb); clear hb))
        obtain ⟨hR1, hb3r, hb4r, hnm, hwb2⟩ := HK.out
        rw [← hR1]
        exact ⟨rfl, (endE_no (r := 5) (by decide)).symm, But2.of_below (below_on HB.out.1 H4.out), blk_below hb3r H4.out, blk_below hb4r H4.out⟩
      ·have hlp : ¬ (n : Int) + 1 ≤ (m : Int) := by omega
       have hle : decide ((n : Int) + 1 ≤ (m : Int)) = false := decide_eq_false hlp
       have hR1 := (restN_zero (m := m) (n := n) hi (by omega)).symm.trans HE.out
       have HI := Aside0.mk hin
       have HS := Aside0.mk hsz
       have HK := Aside0.mk (And.intro hR1 (And.intro hb3r (And.intro hb4r (And.intro hnm hwb2))))
       clear hlg hgd hRR hm2' hne hin hW hwb2 hx2r hi hb3r hb4r hgu hsu hsz hnm hR1
       unfold encI at *
       go_wp2_with (first
        | (go_at_call 102; refine HI.out.mono ?_; rintro e wa ⟨hb, ⟨t9, p9⟩, he, hq⟩; obtain rfl : e = .returned (.tuple #[.iface t9 p9, .bool true]) := he; obtain ⟨F, hF⟩ : ∃ F, F = szF (t9, p9) := ⟨_, rfl⟩; have hm1 : ∀ w, (method 337 t9 p9 "numnah/rules.size").run Tryz.prog w = .ok (F, p9) w := hF ▸ meth_size hq; have hm2 : ∀ args w, (callFunc F args).run Tryz.prog w = .ok (.enter F args) w := hF ▸ enters_size hq; have HC9 := Aside0.mk (HS.out (t9, p9) wa hq); rw [← hF] at HC9; clear hF; have hx2a := blk_cell (blk_below HK.out.2.2.2.2 hb) 0; have H3 := Aside0.mk (And.intro hb hq); clear hb hq)
        | (go_at_call 67; with_reducible refine (demand_no _ _).mono ?_; rintro e w8 ⟨rfl, h8⟩; subst w8))
       obtain ⟨hR1, hb3r, hb4r, hnm, hwb2⟩ := HK.out
       rw [← hR1]
       exact ⟨rfl, (endE_no (r := 5) (by decide)).symm, But2.of_below (below_on HB.out.1 H3.out.1), blk_below hb3r H3.out.1, blk_below hb4r H3.out.1⟩
   ·have e : normalT rs s most = (2, ⟨#[]⟩, 0) := by
     unfold normalT
     rw [hL]; dsimp only; rw [hR]; dsimp only; rw [if_neg hm]
    rw [e]
    have hwi : withinB most 0 200 = false := by
     unfold withinB
     by_cases h1 : most ≥ 0
     ·rw [decide_eq_false (show ¬ most ≤ 200 from fun h2 => hm ⟨h1, h2⟩), Bool.and_false]
     ·rw [decide_eq_false h1, Bool.false_and]
    clear hnl hC0 hb0 hb1 hb2 hb3 hb4 hL hR e hrc hlg hgd hm
    go_enter Tryz.func100, Tryz.ntmps100
    go_wp2_with (first
     | (go_at_call 77; refine HC.out.mono ?_; rintro e w1 ⟨hb, A2, c2, rfl, hW⟩; have hx1 := blk_cell (blk_below HB2.out.2.2.1 hb) 0; have H1 := Aside0.mk (And.intro hb hW); clear hb hW)
     | (go_at_call 69; refine (HR.out _).mono ?_; rintro e w2 ⟨hb, ⟨tid, pv⟩, he, hp⟩; obtain rfl : e = .returned (.iface tid pv) := he; have hx2 := blk_cell (blk_below HB2.out.2.2.2 (below_on H1.out.1 hb)) 0; have H2 := Aside0.mk (And.intro (below_on H1.out.1 hb) (And.intro (H1.out.2.below hb) hp)); clear hb hp)
     | (go_at_call 101; refine (within_calls _ _ _ _).mono ?_; rintro e w3 ⟨rfl, h3⟩; subst w3; rw [hwi])
     | (go_at_call 67; refine (demand_no _ _).mono ?_; rintro e w3 ⟨rfl, h3⟩; subst w3))
    exact ⟨rfl, OutNm.stay (c := 2) HB2.out.1 HB2.out.2.1 H2.out.1 (by decide)⟩
set_option maxRecDepth 100000 in
set_option maxHeartbeats 1000000 in
theorem normal_calls (rs : List S94) (s : ByteArray) (most : Int) (A0 : Option Addr) (c0 : Nat) (w : World) (hC0 : Kd.C k94 w A0 rs.length rs) :
    Calls Tryz.prog 50 #[.slice A0 rs.length c0, .string s, .int .i64 most] w fun e w' => e = .returned (.tuple #[.string (normalT rs s most).2.1, .int .i64 (normalT rs s most).2.2, .int .i64 (normalT rs s most).1]) ∧ Below w.heap.size w w' := by
  obtain ⟨r, x, n, hv⟩ : ∃ r x n, normalT rs s most = (r, x, n) := ⟨_, _, _, rfl⟩
  have h1 := fun b0 b1 b2 b3 b4 w' hC => normal1_calls rs s most A0 c0 b0 b1 b2 b3 b4 w' hC
  rw [hv] at h1 ⊢
  dsimp only
  obtain ⟨w3, hw3⟩ : ∃ w3, w3 = ((((w.alloc (.cells #[.slice A0 rs.length c0] 35)).alloc (.cells #[.string s] 9)).alloc (.cells #[.int .i64 most] 3)).alloc (.cells #[.string ⟨#[]⟩] 9)).alloc (.cells #[.int .i64 0] 3) := ⟨_, rfl⟩
  have hB3 : Below w.heap.size w w3 := by rw [hw3]; exact below_alloc (below_alloc (below_alloc (below_alloc (below_alloc (Below.refl _ _) _) _) _) _) _
  have hsz : w3.heap.size = w.heap.size + 5 := by rw [hw3]; simp
  have hk0 : w3.heap[w.heap.size]? = some (.cells #[.slice A0 rs.length c0] 35 (0, 0)) := by rw [hw3]; exact blk_alloc (blk_alloc (blk_alloc (blk_alloc (blk_new w _) _) _) _) _
  have hk1 : w3.heap[w.heap.size + 1]? = some (.cells #[.string s] 9 (0, 0)) := by rw [hw3]; exact blk_alloc (blk_alloc (blk_alloc (blk_new1 w _ _) _) _) _
  have hk2 : w3.heap[w.heap.size + 2]? = some (.cells #[.int .i64 most] 3 (0, 0)) := by
    rw [hw3]
    have := blk_new ((w.alloc (.cells #[.slice A0 rs.length c0] 35)).alloc (.cells #[.string s] 9)) (.cells #[.int .i64 most] 3)
    rw [World.size_alloc, World.size_alloc] at this
    exact blk_alloc (blk_alloc this _) _
  have hk3 : w3.heap[w.heap.size + 3]? = some (.cells #[.string ⟨#[]⟩] 9 (0, 0)) := by
    rw [hw3]
    have := blk_new (((w.alloc (.cells #[.slice A0 rs.length c0] 35)).alloc (.cells #[.string s] 9)).alloc (.cells #[.int .i64 most] 3)) (.cells #[.string ⟨#[]⟩] 9)
    rw [World.size_alloc, World.size_alloc, World.size_alloc] at this
    exact blk_alloc this _
  have hk4 : w3.heap[w.heap.size + 4]? = some (.cells #[.int .i64 0] 3 (0, 0)) := by
    rw [hw3]
    have := blk_new ((((w.alloc (.cells #[.slice A0 rs.length c0] 35)).alloc (.cells #[.string s] 9)).alloc (.cells #[.int .i64 most] 3)).alloc (.cells #[.string ⟨#[]⟩] 9)) (.cells #[.int .i64 0] 3)
    rw [World.size_alloc, World.size_alloc, World.size_alloc, World.size_alloc] at this
    exact this
  have hg := guard_keeps 100 enters100 #[.pointer (some ⟨w.heap.size, 0, none⟩), .pointer (some ⟨w.heap.size + 1, 0, none⟩), .pointer (some ⟨w.heap.size + 2, 0, none⟩), .pointer (some ⟨w.heap.size + 3, 0, none⟩), .pointer (some ⟨w.heap.size + 4, 0, none⟩)] w3 (fun c w1 => c = r ∧ But2 (w.heap.size + 3) (w.heap.size + 4) w3 w1 ∧ w1.heap[w.heap.size + 3]? = some (.cells #[.string x] 9 (0, 0)) ∧ w1.heap[w.heap.size + 4]? = some (.cells #[.int .i64 n] 3 (0, 0))) ((h1 w.heap.size (w.heap.size + 1) (w.heap.size + 2) (w.heap.size + 3) (w.heap.size + 4) (w3.alloc (.cells #[.int .i64 0] 26)) (Kd.C_below hC0 (below_alloc hB3 _)) (blk_alloc hk0 _) (blk_alloc hk1 _) (blk_alloc hk2 _) (blk_alloc hk3 _) (blk_alloc hk4 _) (by omega)).mono (fun e w1 hh => by
    obtain ⟨rfl, hb, hv1, hv2⟩ := hh
    have hbt : But2 (w.heap.size + 3) (w.heap.size + 4) w3 w1 := (But2.of_below (below_alloc (Below.refl _ _) _)).trans hb
    refine ⟨(hb.block _ (by simp) (by omega) (by omega)).trans (blk_new w3 _), ?_⟩
    by_cases hr : r = 0
    · subst hr
      exact .inl ⟨rfl, rfl, hbt, hv1, hv2⟩
    · exact .inr ⟨r, endE_no hr, rfl, hbt, hv1, hv2⟩))
  have HG := Aside0.mk hg
  have HB := Aside0.mk hB3
  have HZ := Aside0.mk hsz
  clear hg hB3 hsz hk0 hk1 hk2 hk3 hk4 hC0 h1 hv
  subst hw3
  go_enter Tryz.func50, Tryz.ntmps50
  go_wp2_with (go_at_call 65; refine HG.out.mono ?_; rintro e w1 ⟨c, w2, rfl, ⟨rfl, hb, hv1, hv2⟩, hb2⟩; have hv3 := (hb2.block _ (Array.getElem?_eq_some_iff.1 hv1).1 (by have := HZ.out; omega)).trans hv1; have hv4 := (hb2.block _ (Array.getElem?_eq_some_iff.1 hv2).1 (by have := HZ.out; omega)).trans hv2; have hz0 := blk_frozen hv3 0; have hz1 := blk_frozen hv4 0; have hd0 : w1.cell? ⟨w.heap.size + 3, 0, none⟩ = some (.string x) := blk_cell hv3 0; have hd1 : w1.cell? ⟨w.heap.size + 4, 0, none⟩ = some (.int .i64 n) := blk_cell hv4 0; have HH := Aside0.mk (And.intro hb (And.intro hb2 (And.intro hv3 hv4))); clear hb hb2 hv3 hv4)
  have hz := HZ.out
  have b1 := HB.out
  obtain ⟨b2, b3, hv3, hv4⟩ := HH.out
  have b4 : Below w.heap.size w w1 := (b1.trans (b2.below (by omega) (by omega) (by omega))).trans (b3.below (by omega) (by have := b2.size; omega))
  have hA3 : (w1.setCell ⟨w.heap.size + 1 + 1 + 1, 0, none⟩ (.string x)).heap[w.heap.size + 1 + 1 + 1]? = some (.cells #[.string x] 9 (0, 0)) := blk_setCell hv3 _
  have hA4 : (w1.setCell ⟨w.heap.size + 1 + 1 + 1, 0, none⟩ (.string x)).heap[w.heap.size + 1 + 1 + 1 + 1]? = some (.cells #[.int .i64 n] 3 (0, 0)) := (Below.heap_setCell w1 ⟨w.heap.size + 1 + 1 + 1, 0, none⟩ _ (w.heap.size + 1 + 1 + 1 + 1) (by show w.heap.size + 1 + 1 + 1 + 1 ≠ w.heap.size + 1 + 1 + 1; omega)).trans hv4
  have hv9 : ((w1.setCell ⟨w.heap.size + 1 + 1 + 1, 0, none⟩ (.string x)).setCell ⟨w.heap.size + 1 + 1 + 1 + 1, 0, none⟩ (.int .i64 n)).heap[w.heap.size + 1 + 1 + 1]? = some (.cells #[.string x] 9 (0, 0)) := (Below.heap_setCell _ ⟨w.heap.size + 1 + 1 + 1 + 1, 0, none⟩ _ (w.heap.size + 1 + 1 + 1) (by show w.heap.size + 1 + 1 + 1 ≠ w.heap.size + 1 + 1 + 1 + 1; omega)).trans hA3
  have hv8 : ((w1.setCell ⟨w.heap.size + 1 + 1 + 1, 0, none⟩ (.string x)).setCell ⟨w.heap.size + 1 + 1 + 1 + 1, 0, none⟩ (.int .i64 n)).heap[w.heap.size + 1 + 1 + 1 + 1]? = some (.cells #[.int .i64 n] 3 (0, 0)) := blk_setCell hA4 _
  have hy4 : (w1.setCell ⟨w.heap.size + 1 + 1 + 1, 0, none⟩ (.string x)).cell? ⟨w.heap.size + 1 + 1 + 1 + 1, 0, none⟩ = some (.int .i64 n) := blk_cell hA4 0
  have hyz : (w1.setCell ⟨w.heap.size + 1 + 1 + 1, 0, none⟩ (.string x)).frozen? ⟨w.heap.size + 1 + 1 + 1 + 1, 0, none⟩ = false := blk_frozen hA4 0
  have hyc : w1.cell? ⟨w.heap.size + 1 + 1 + 1, 0, none⟩ = some (.string x) := blk_cell hv3 0
  have hyf : w1.frozen? ⟨w.heap.size + 1 + 1 + 1, 0, none⟩ = false := blk_frozen hv3 0
  refine start_ (n := 6) (S := fun w' => w'.cell? ⟨w.heap.size + 1 + 1 + 1, 0, none⟩ = some (.string x) ∧ w'.cell? ⟨w.heap.size + 1 + 1 + 1 + 1, 0, none⟩ = some (.int .i64 n)) (ds := []) (bm 6 0) (by kernel_rfl) rfl rfl ⟨(blk_cell (blk_drew hv3) 0), (blk_cell (blk_drew hv4) 0)⟩ (fun hHeld => ?_)
  refine pk_ 2 13 (bm 6 4) ?_
  refine take_ (i := 0) (N := some 11) (v := ?_) (a' := ?_) (bm 6 5) rfl rfl (by kernel_rfl) (fun _ _ _ h => h) (Or.inl ⟨by rfl, ?_⟩) hHeld ?_ ?_; rotate_left; (rintro w' ⟨s0, s1⟩; go_simp; with_reducible rfl); rotate_left; exact tP_
  refine take_ (i := 1) (N := some 12) (v := ?_) (a' := ?_) (bm 6 7) rfl rfl (by kernel_rfl) (fun _ _ _ h => h) (Or.inl ⟨by rfl, ?_⟩) hHeld ?_ ?_; rotate_left; (rintro w' ⟨s0, s1⟩; go_simp; with_reducible rfl); rotate_left; exact tP_
  refine one_ (i := 3) (N := none) (bm 6 15) rfl rfl (by kernel_rfl) (by decide) (fun K hK => ?_)
  refine skip_ (w1 := ?_) (by rfl) rfl ?_ ?_
  rotate_left
  · go_simp
    rfl
  refine hK.out _ _ ⟨(blk_cell hA3 0), (blk_cell hA4 0)⟩ (fun hHeld => ?_)
  clear hK K
  refine one_ (i := 4) (N := none) (bm 6 31) rfl rfl (by kernel_rfl) (by decide) (fun K hK => ?_)
  refine skip_ (w1 := ?_) (by rfl) rfl ?_ ?_
  rotate_left
  · go_simp
    rfl
  refine hK.out _ _ ⟨(blk_cell hv9 0), (blk_cell hv8 0)⟩ (fun hHeld => ?_)
  clear hK K
  refine pk_ 5 8 (bm 6 63) ?_
  refine done_ (by kernel_rfl) ?_
  have hcc : ((w1.setCell ⟨w.heap.size + 1 + 1 + 1, 0, none⟩ (.string x)).setCell ⟨w.heap.size + 1 + 1 + 1 + 1, 0, none⟩ (.int .i64 n)).cell? ⟨w.heap.size + 1 + 1 + 1, 0, none⟩ = some (.string x) := blk_cell hv9 0
  have hcd : ((w1.setCell ⟨w.heap.size + 1 + 1 + 1, 0, none⟩ (.string x)).setCell ⟨w.heap.size + 1 + 1 + 1 + 1, 0, none⟩ (.int .i64 n)).cell? ⟨w.heap.size + 1 + 1 + 1 + 1, 0, none⟩ = some (.int .i64 n) := blk_cell hv8 0
  have b5 : Below w.heap.size w ((w1.setCell ⟨w.heap.size + 1 + 1 + 1, 0, none⟩ (.string x)).setCell ⟨w.heap.size + 1 + 1 + 1 + 1, 0, none⟩ (.int .i64 n)).drew := pw_below_drewN (below_set (below_set b4 (by omega)) (by omega)) 1
  go_wp2
  simp [bodyPost, results, Tryz.results50, go_sem, hcc, hcd]
  exact b5
def rules_Normal.f (l0 : List S94) (a1 : ByteArray) (a2 : Int) : Option (ByteArray × Int × Int) := some ((normalT l0 a1 a2).2.1, (normalT l0 a1 a2).2.2, (normalT l0 a1 a2).1)
theorem rules_Normal.calls (A0 : Option Addr) (c0 : Nat) (l0 : List S94) (a1 : ByteArray) (a2 : Int) (r0 : ByteArray) (r1 r2 : Int) (w : World) (hr0 : Kd.C k94 w A0 l0.length l0) (hc0 : l0.length ≤ c0) (h : rules_Normal.f l0 a1 a2 = some (r0, r1, r2)) :
    Calls Tryz.prog 50 #[.slice A0 l0.length c0, .string a1, .int .i64 a2] w fun e w' => e = .returned (.tuple #[.string r0, .int .i64 r1, .int .i64 r2]) ∧ Below w.heap.size w w' := by
  unfold rules_Normal.f at h
  injection h with h
  injection h with h1 h
  injection h with h2 h3
  subst h1 h2 h3
  exact normal_calls l0 a1 a2 A0 c0 w hr0
end Go.Proofs.YtaafeallcaiooaaGreat.Pr
