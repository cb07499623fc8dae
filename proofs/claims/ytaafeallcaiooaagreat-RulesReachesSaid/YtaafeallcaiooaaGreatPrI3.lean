import Derived.Test.YtaafeallcaiooaaGreatHQf
import Derived.Test.YtaafeallcaiooaaGreatPr0
import Derived.Test.YtaafeallcaiooaaGreatHEl
import Derived.Test.YtaafeallcaiooaaGreatPrA1
import Derived.Test.YtaafeallcaiooaaGreatPrA2
import Derived.Test.YtaafeallcaiooaaGreatPrA3
import Derived.Test.YtaafeallcaiooaaGreatPrA4
import Derived.Test.YtaafeallcaiooaaGreatPrA5
import Derived.Test.YtaafeallcaiooaaGreatPrB1
import Derived.Test.YtaafeallcaiooaaGreatHQa
import Derived.Test.YtaafeallcaiooaaGreatPrD7
import Derived.Test.YtaafeallcaiooaaGreatPrD8
namespace Go.Proofs.YtaafeallcaiooaaGreat.Pr
open Go.RowKit Go.Maps Go.Proofs.Zw Go.Proofs.Zl Go.Proofs.Zm
set_option linter.unusedVariables false
set_option linter.unusedSimpArgs false
theorem reachT_err {rs:List S94} {s:ByteArray} {steps:Int} (h:(reachT rs s steps).1≠0):(reachT rs s steps).2=[]:=by
  unfold reachT at h ⊢
  cases hL:newLawsT rs with
  | none=>rfl
  | some ls =>
    rw [hL] at h
    dsimp only at h ⊢
    cases hR:readT s with
    | none=>rfl
    | some t =>
      rw [hR] at h
      dsimp only at h ⊢
      split at h
      · rename_i hm
        rw [if_pos hm]
        cases hX:reachS ls steps.toNat [] [t.text] with
        | none=>rfl
        | some l=>rw [hX] at h;exact absurd rfl h
      · rename_i hm
        rw [if_neg hm]
set_option maxRecDepth 100000 in
set_option maxHeartbeats 1000000 in
theorem reachE_calls (rs:List S94) (s:ByteArray) (steps:Int) (A0:Option Addr) (c0:Nat) (w:World) (hC0:Kd.C k94 w A0 rs.length rs) :
    Calls Tryz.prog 56 #[.slice A0 rs.length c0,.string s,.int .i64 steps] w fun e w'=>∃ v,e=.returned (.tuple #[v,.int .i64 (reachT rs s steps).1])∧Kd.R Kd.string 9 w' w.heap.size (fun k=>w.heap.size≤k) v (reachT rs s steps).2∧Below w.heap.size w w':=by
  have herr:=@reachT_err rs s steps
  obtain ⟨r,l,hv⟩:∃ r l,reachT rs s steps=(r,l):=⟨_,_,rfl⟩
  have h1:=fun b0 b1 b2 b3 w' hC=>reach1_calls rs s steps A0 c0 b0 b1 b2 b3 w' hC
  rw [hv] at h1 herr ⊢
  dsimp only at h1 herr ⊢
  obtain ⟨w3,hw3⟩:∃ w3,w3=(((w.alloc (.cells #[.slice A0 rs.length c0] 35)).alloc (.cells #[.string s] 9)).alloc (.cells #[.int .i64 steps] 3)).alloc (.cells #[.slice none 0 0] 36):=⟨_,rfl⟩
  have hB3:Below w.heap.size w w3:=by rw [hw3];exact below_alloc (below_alloc (below_alloc (below_alloc (Below.refl _ _) _) _) _) _
  have hsz:w3.heap.size=w.heap.size+4:=by rw [hw3];simp
  have hk0:w3.heap[w.heap.size]?=some (.cells #[.slice A0 rs.length c0] 35 (0,0)):=by rw [hw3];exact blk_alloc (blk_alloc (blk_alloc (blk_new w _) _) _) _
  have hk1:w3.heap[w.heap.size+1]?=some (.cells #[.string s] 9 (0,0)):=by rw [hw3];exact blk_alloc (blk_alloc (blk_new1 w _ _) _) _
  have hk2:w3.heap[w.heap.size+2]?=some (.cells #[.int .i64 steps] 3 (0,0)):=by
    rw [hw3]
    have:=blk_new ((w.alloc (.cells #[.slice A0 rs.length c0] 35)).alloc (.cells #[.string s] 9)) (.cells #[.int .i64 steps] 3)
    rw [World.size_alloc,World.size_alloc] at this
    exact blk_alloc this _
  have hk3:w3.heap[w.heap.size+3]?=some (.cells #[.slice none 0 0] 36 (0,0)):=by
    rw [hw3]
    have:=blk_new (((w.alloc (.cells #[.slice A0 rs.length c0] 35)).alloc (.cells #[.string s] 9)).alloc (.cells #[.int .i64 steps] 3)) (.cells #[.slice none 0 0] 36)
    rwa [World.size_alloc,World.size_alloc,World.size_alloc] at this
  have hg:=guard_keeps 105 enters105 #[.pointer (some ⟨w.heap.size,0,none⟩),.pointer (some ⟨w.heap.size+1,0,none⟩),.pointer (some ⟨w.heap.size+2,0,none⟩),.pointer (some ⟨w.heap.size+3,0,none⟩)] w3 (fun c w1=>c=r∧But (w.heap.size+3) w3 w1∧StrsAt (w3.alloc (.cells #[.int .i64 0] 26)) w1 (w.heap.size+3) l) ((h1 w.heap.size (w.heap.size+1) (w.heap.size+2) (w.heap.size+3) (w3.alloc (.cells #[.int .i64 0] 26)) (Kd.C_below hC0 (below_alloc hB3 _)) (blk_alloc hk0 _) (blk_alloc hk1 _) (blk_alloc hk2 _) (blk_alloc hk3 _)).mono (fun e w1 hh=>by
    obtain ⟨rfl,hb,hv1⟩:=hh
    have hbt:But (w.heap.size+3) w3 w1:=(But.of_below (below_alloc (Below.refl _ _) _)).trans hb
    refine ⟨(hb.block _ (by simp) (by omega)).trans (blk_new w3 _),?_⟩
    by_cases hr:r=0
    · subst hr
      exact .inl ⟨rfl,rfl,hbt,hv1⟩
    · exact .inr ⟨r,endE_no hr,rfl,hbt,hv1⟩))
  have HG:=Aside0.mk hg
  have HB:=Aside0.mk hB3
  have HZ:=Aside0.mk hsz
  clear hg hB3 hsz hk0 hk1 hk2 hk3 hC0 h1 hv
  subst hw3
  by_cases hr0:r=0
  · subst hr0
    clear herr
    go_enter Tryz.func56,Tryz.ntmps56
    go_wp2_with (go_at_call 65;refine HG.out.mono ?_;rintro e w1 ⟨c,w2,rfl,⟨rfl,hb,v,hv1,hv3⟩,hb2⟩;obtain ⟨A4,c4,rfl⟩:=own_slice (Kd.own_of_R hv3);have hv2:=(hb2.block _ (gl_ hv1) (by have:=HZ.out;omega)).trans hv1;have hz0:=blk_frozen hv2 0;have hd0:w1.cell? ⟨w.heap.size+3,0,none⟩=some (.slice A4 l.length c4):=blk_cell hv2 0;have HH:=Aside0.mk (And.intro hb (And.intro hb2 (And.intro hv2 hv3)));clear hb hb2 hv2 hv3)
    have hz:=HZ.out
    have b1:=HB.out
    obtain ⟨b2,b3,hv2,hv3⟩:=HH.out
    have b4:Below w.heap.size w w1:=(b1.trans (b2.below (Nat.le_add_right _ _) (by omega))).trans (b3.below (by omega) (by have:=b2.size;omega))
    have ho:=Kd.own_of_R hv3
    have hg2:w1.ownsRow w.heap.size 9 1 (.slice A4 l.length c4) l.length (l.map Value.string):=own_weaken (own_move ho (fun k hk=>b3.block k (own_lt ho k hk) (by have:=own_base ho k hk;rw [World.size_alloc] at this;omega))) (by rw [World.size_alloc];omega)
    have hv9:(w1.setCell ⟨w.heap.size+1+1+1,0,none⟩ (.slice A4 l.length c4)).heap[w.heap.size+1+1+1]?=some (.cells #[.slice A4 l.length c4] 36 (0,0)):=blk_setCell hv2 _
    have hcc:(w1.setCell ⟨w.heap.size+1+1+1,0,none⟩ (.slice A4 l.length c4)).cell? ⟨w.heap.size+1+1+1,0,none⟩=some (.slice A4 l.length c4):=blk_cell hv9 0
    have b5:Below w.heap.size w (w1.setCell ⟨w.heap.size+1+1+1,0,none⟩ (.slice A4 l.length c4)):=below_set b4 (by omega)
    have hr5:Kd.R Kd.string 9 (w1.setCell ⟨w.heap.size+1+1+1,0,none⟩ (.slice A4 l.length c4)) w.heap.size (fun k=>w.heap.size≤k) (.slice A4 l.length c4) l:=Kd.R_of_own (own_setCell hg2 (own_ne hg2 (show w1.heap[w.heap.size+1+1+1]?=_ from hv2) (by decide)) _) (fun k hk=>own_base hg2 k hk)
    generalize w1.setCell ⟨w.heap.size+1+1+1,0,none⟩ (.slice A4 l.length c4)=w9 at *
    simp [bodyPost,results,Tryz.results56,go_sem,hcc]
    exact ⟨hr5,b5⟩
  · have hl0:l=[]:=herr hr0
    subst hl0
    clear herr
    have hrb:(r == 0)=false:=by simpa using hr0
    have hrn:(r != 0)=true:=by simpa using hr0
    go_enter Tryz.func56,Tryz.ntmps56
    go_wp2_with (go_at_call 65;refine HG.out.mono ?_;rintro e w1 ⟨c,w2,rfl,⟨rfl,hb,v,hv1,hv3⟩,hb2⟩;obtain ⟨A4,c4,rfl⟩:=own_slice (Kd.own_of_R hv3);have hv2:=(hb2.block _ (gl_ hv1) (by have:=HZ.out;omega)).trans hv1;have hz0:=blk_frozen hv2 0;have hd0:w1.cell? ⟨w.heap.size+3,0,none⟩=some (.slice A4 ([]:List ByteArray).length c4):=blk_cell hv2 0;have HH:=Aside0.mk (And.intro hb (And.intro hb2 hv2));clear hb hb2 hv2 hv3)
    have hz:=HZ.out
    have b1:=HB.out
    obtain ⟨b2,b3,hv2⟩:=HH.out
    have b4:Below w.heap.size w w1:=(b1.trans (b2.below (Nat.le_add_right _ _) (by omega))).trans (b3.below (by omega) (by have:=b2.size;omega))
    have hv9:(w1.setCell ⟨w.heap.size+1+1+1,0,none⟩ (.slice none 0 0)).heap[w.heap.size+1+1+1]?=some (.cells #[.slice none 0 0] 36 (0,0)):=blk_setCell hv2 _
    have hcc:(w1.setCell ⟨w.heap.size+1+1+1,0,none⟩ (.slice none 0 0)).cell? ⟨w.heap.size+1+1+1,0,none⟩=some (.slice none 0 0):=blk_cell hv9 0
    have b5:Below w.heap.size w (w1.setCell ⟨w.heap.size+1+1+1,0,none⟩ (.slice none 0 0)):=below_set b4 (by omega)
    generalize w1.setCell ⟨w.heap.size+1+1+1,0,none⟩ (.slice none 0 0)=w9 at *
    simp [bodyPost,results,Tryz.results56,go_sem,hcc]
    exact ⟨Kd.R_nil _ _ _ _ _,b5⟩
def rules_Reach.f (l0:List S94) (a1:ByteArray) (a2:Int):Option (List ByteArray × Int):=some ((reachT l0 a1 a2).2,(reachT l0 a1 a2).1)
theorem rules_Reach.calls (A0:Option Addr) (c0:Nat) (l0:List S94) (a1:ByteArray) (a2:Int) (r0:List ByteArray) (r1:Int) (w:World) (hr0:Kd.C k94 w A0 l0.length l0) (hc0:l0.length≤c0) (h:rules_Reach.f l0 a1 a2=some (r0,r1)) :
    Calls Tryz.prog 56 #[.slice A0 l0.length c0,.string a1,.int .i64 a2] w fun e w'=>∃ v0_,e=.returned (.tuple #[v0_,.int .i64 r1])∧Kd.R Kd.string 9 w' w.heap.size (fun _=>True) v0_ r0∧Below w.heap.size w w':=by
  unfold rules_Reach.f at h
  injection h with h
  injection h with h1 h2
  subst h1 h2
  refine (reachE_calls l0 a1 a2 A0 c0 w hr0).mono ?_
  rintro e w' ⟨v,rfl,h1,h2⟩
  exact ⟨v,rfl,Kd.R_of_own (Kd.own_of_R h1) (fun _ _=>trivial),h2⟩
attribute [local go_sem] max2_int min2_int max_two min_two max_three min_three max_four min_four
set_option linter.unusedVariables false
set_option linter.unusedSimpArgs false
mutual
noncomputable def nl_RulesReaches.j0:Nat→Int→List (S94)→ByteArray→List ByteArray→Int→List ByteArray→Int→Bool→Option (Bool)
 | 0,_,_,_,_,_,_,_,_=>none
 | k+1,x2,x7,x8,x9,x10,x11,x12,x86=>if x86=true then (if (x9.length:Int)=0 then (if x10=2 then (if (x11.length:Int)=0 then (if x12=2 then ((nl_awake.f k).bind fun t697=>(some t697)) else (some false)) else (some false)) else (some false)) else (some false)) else ((nr_Reach.f k x7 x8 x2).bind fun bt698=>(if bt698.2=true then (nl_RulesReaches.l0 k x2 x7 x8 x9 x10 x11 x12 bt698.1 ([]:List ByteArray) 0) else (if (x9.length:Int)=0 then (if x10=5 then (if (x11.length:Int)=0 then (if x12=5 then ((nl_awake.f k).bind fun t702=>(some t702)) else (some false)) else (some false)) else (some false)) else (some false))))
noncomputable def nl_RulesReaches.l0:Nat→Int→List (S94)→ByteArray→List ByteArray→Int→List ByteArray→Int→List (List ByteArray)→List ByteArray→Int→Option (Bool)
 | 0,_,_,_,_,_,_,_,_,_,_=>none
 | k+1,x2,x7,x8,x9,x10,x11,x12,x13,x15,x16=>if x16 < (x13.length:Int) then (if 0≤x16 then (if x15.length+(rd_L7 x13 x16).length < 8796093022208 then (nl_RulesReaches.l0 k x2 x7 x8 x9 x10 x11 x12 x13 (x15++(rd_L7 x13 x16)) (wrap64 (x16+1))) else (none)) else (none)) else ((nl_texts.f k x9 x15).bind fun t707=>(if t707=true then (nl_RulesReaches.j2 k x2 x7 x8 x11 x12 (x10 != 0)) else (nl_RulesReaches.j2 k x2 x7 x8 x11 x12 true)))
noncomputable def nl_RulesReaches.j2:Nat→Int→List (S94)→ByteArray→List ByteArray→Int→Bool→Option (Bool)
 | 0,_,_,_,_,_,_=>none
 | k+1,x2,x7,x8,x11,x12,x153=>if x153=true then (some false) else ((nr_Shortest.f k x7 x8 x2).bind fun t708=>(if t708=0 then (if (x11.length:Int)=0 then (if x12=6 then ((nl_awake.f k).bind fun t709=>(some t709)) else (some false)) else (some false)) else (nl_RulesReaches.l1 k x7 x8 x11 x12 t708 0)))
noncomputable def nl_RulesReaches.l1:Nat→List (S94)→ByteArray→List ByteArray→Int→Int→Int→Option (Bool)
 | 0,_,_,_,_,_,_=>none
 | k+1,x7,x8,x11,x12,x17,x18=>if x18 < (x11.length:Int) then (if 0≤x18 then ((nr_Term.f k (rdOf ByteArray.empty x11 x18)).bind fun t711=>(if t711=true then (nl_RulesReaches.l1 k x7 x8 x11 x12 x17 (wrap64 (x18+1))) else (some false))) else (none)) else (if (x11.length:Int)=(wrap64 (x17+1)) then (if 0 < (x11.length:Int) then (if (rdOf ByteArray.empty x11 0).toList=x8.toList then ((nr_Loop.f k x7 x11).bind fun t713=>(if t713=true then (if x12=0 then ((nl_awake.f k).bind fun t714=>(some t714)) else (some false)) else (some false))) else (some false)) else (none)) else (some false))
end
noncomputable def nl_RulesReaches.f (k:Nat) (l0:List (S94)) (a1:ByteArray) (a2:Int):Option (Bool):=(nl_laws.f k l0).bind fun t681=>((nl_short.f a1).bind fun t684=>((rules_Reach.f t681 t684 a2).bind fun bt685=>((rules_Loop.f t681 t684 a2).bind fun bt689=>((nr_Rules.f k t681).bind fun t693=>(if t693=true then ((nr_Term.f k t684).bind fun t695=>(if t695=true then (if a2 < 0 then (nl_RulesReaches.j0 k a2 t681 t684 bt685.1 bt685.2 bt689.1 bt689.2 true) else (nl_RulesReaches.j0 k a2 t681 t684 bt685.1 bt685.2 bt689.1 bt689.2 (decide (a2 > 5)))) else (if (bt685.1.length:Int)=0 then (if bt685.2=4 then (if (bt689.1.length:Int)=0 then (if bt689.2=4 then ((nl_awake.f k).bind fun t696=>(some t696)) else (some false)) else (some false)) else (some false)) else (some false)))) else (if (bt685.1.length:Int)=0 then (if bt685.2=2 then (if (bt689.1.length:Int)=0 then (if bt689.2=2 then ((nl_awake.f k).bind fun t694=>(some t694)) else (some false)) else (some false)) else (some false)) else (some false)))))))
theorem nl_RulesReaches.j2_no:∀ k y0 y1 y2 y3 y4,nl_RulesReaches.j2 k y0 y1 y2 y3 y4 true≠some true:=by intro k y0 y1 y2 y3 y4;cases k<;>simp [nl_RulesReaches.j2]
set_option maxHeartbeats 8000000 in
set_option maxRecDepth 100000 in
theorem nl_RulesReaches.calls (k:Nat) (A0:Option Addr) (c0:Nat) (l0:List (S94)) (a1:ByteArray) (a2:Int) (r:Bool) (w:World) (hr0:Kd.C k94 w A0 l0.length l0) (hc0:l0.length≤c0) (h:nl_RulesReaches.f k l0 a1 a2=some r) (ht:r=true:=by rfl) :
  Calls Tryz.prog 15 #[.slice A0 l0.length c0,.string a1,.int .i64 a2] w fun e w'=>e=.returned (.bool r)∧Below w.heap.size w w':=by
 have HT0_:=Aside0.mk ht
 clear ht
 have HR0:=Aside0.mk hr0
 have HC0:=Aside0.mk hc0
 clear hr0 hc0
 have HB:=Aside0.mk (Below.refl w.heap.size w)
 have H:((nl_laws.f k l0).bind fun t681=>((nl_short.f a1).bind fun t684=>((rules_Reach.f t681 t684 a2).bind fun bt685=>((rules_Loop.f t681 t684 a2).bind fun bt689=>((nr_Rules.f k t681).bind fun t693=>(if t693=true then ((nr_Term.f k t684).bind fun t695=>(if t695=true then (if a2 < 0 then (nl_RulesReaches.j0 k a2 t681 t684 bt685.1 bt685.2 bt689.1 bt689.2 true) else (nl_RulesReaches.j0 k a2 t681 t684 bt685.1 bt685.2 bt689.1 bt689.2 (decide (a2 > 5)))) else (if (bt685.1.length:Int)=0 then (if bt685.2=4 then (if (bt689.1.length:Int)=0 then (if bt689.2=4 then ((nl_awake.f k).bind fun t696=>(some t696)) else (some false)) else (some false)) else (some false)) else (some false)))) else (if (bt685.1.length:Int)=0 then (if bt685.2=2 then (if (bt689.1.length:Int)=0 then (if bt689.2=2 then ((nl_awake.f k).bind fun t694=>(some t694)) else (some false)) else (some false)) else (some false)) else (some false))))))))=some r:=h
 clear h
 replace H:=Option.bind_eq_some_iff.mp H
 obtain ⟨t681,A40,H⟩:=H
 replace H:((nl_short.f a1).bind fun t684=>((rules_Reach.f t681 t684 a2).bind fun bt685=>((rules_Loop.f t681 t684 a2).bind fun bt689=>((nr_Rules.f k t681).bind fun t693=>(if t693=true then ((nr_Term.f k t684).bind fun t695=>(if t695=true then (if a2 < 0 then (nl_RulesReaches.j0 k a2 t681 t684 bt685.1 bt685.2 bt689.1 bt689.2 true) else (nl_RulesReaches.j0 k a2 t681 t684 bt685.1 bt685.2 bt689.1 bt689.2 (decide (a2 > 5)))) else (if (bt685.1.length:Int)=0 then (if bt685.2=4 then (if (bt689.1.length:Int)=0 then (if bt689.2=4 then ((nl_awake.f k).bind fun t696=>(some t696)) else (some false)) else (some false)) else (some false)) else (some false)))) else (if (bt685.1.length:Int)=0 then (if bt685.2=2 then (if (bt689.1.length:Int)=0 then (if bt689.2=2 then ((nl_awake.f k).bind fun t694=>(some t694)) else (some false)) else (some false)) else (some false)) else (some false)))))))=some r:=H
 have A4:=Aside0.mk A40
 clear A40
 replace H:=Option.bind_eq_some_iff.mp H
 obtain ⟨t684,A50,H⟩:=H
 replace H:((rules_Reach.f t681 t684 a2).bind fun bt685=>((rules_Loop.f t681 t684 a2).bind fun bt689=>((nr_Rules.f k t681).bind fun t693=>(if t693=true then ((nr_Term.f k t684).bind fun t695=>(if t695=true then (if a2 < 0 then (nl_RulesReaches.j0 k a2 t681 t684 bt685.1 bt685.2 bt689.1 bt689.2 true) else (nl_RulesReaches.j0 k a2 t681 t684 bt685.1 bt685.2 bt689.1 bt689.2 (decide (a2 > 5)))) else (if (bt685.1.length:Int)=0 then (if bt685.2=4 then (if (bt689.1.length:Int)=0 then (if bt689.2=4 then ((nl_awake.f k).bind fun t696=>(some t696)) else (some false)) else (some false)) else (some false)) else (some false)))) else (if (bt685.1.length:Int)=0 then (if bt685.2=2 then (if (bt689.1.length:Int)=0 then (if bt689.2=2 then ((nl_awake.f k).bind fun t694=>(some t694)) else (some false)) else (some false)) else (some false)) else (some false))))))=some r:=H
 have A5:=Aside0.mk A50
 clear A50
 replace H:=Option.bind_eq_some_iff.mp H
 obtain ⟨⟨t685,t686⟩,A60,H⟩:=H
 replace H:((rules_Loop.f t681 t684 a2).bind fun bt689=>((nr_Rules.f k t681).bind fun t693=>(if t693=true then ((nr_Term.f k t684).bind fun t695=>(if t695=true then (if a2 < 0 then (nl_RulesReaches.j0 k a2 t681 t684 t685 t686 bt689.1 bt689.2 true) else (nl_RulesReaches.j0 k a2 t681 t684 t685 t686 bt689.1 bt689.2 (decide (a2 > 5)))) else (if (t685.length:Int)=0 then (if t686=4 then (if (bt689.1.length:Int)=0 then (if bt689.2=4 then ((nl_awake.f k).bind fun t696=>(some t696)) else (some false)) else (some false)) else (some false)) else (some false)))) else (if (t685.length:Int)=0 then (if t686=2 then (if (bt689.1.length:Int)=0 then (if bt689.2=2 then ((nl_awake.f k).bind fun t694=>(some t694)) else (some false)) else (some false)) else (some false)) else (some false)))))=some r:=H
 have A6:=Aside0.mk A60
 clear A60
 replace H:=Option.bind_eq_some_iff.mp H
 obtain ⟨⟨t689,t690⟩,A70,H⟩:=H
 replace H:((nr_Rules.f k t681).bind fun t693=>(if t693=true then ((nr_Term.f k t684).bind fun t695=>(if t695=true then (if a2 < 0 then (nl_RulesReaches.j0 k a2 t681 t684 t685 t686 t689 t690 true) else (nl_RulesReaches.j0 k a2 t681 t684 t685 t686 t689 t690 (decide (a2 > 5)))) else (if (t685.length:Int)=0 then (if t686=4 then (if (t689.length:Int)=0 then (if t690=4 then ((nl_awake.f k).bind fun t696=>(some t696)) else (some false)) else (some false)) else (some false)) else (some false)))) else (if (t685.length:Int)=0 then (if t686=2 then (if (t689.length:Int)=0 then (if t690=2 then ((nl_awake.f k).bind fun t694=>(some t694)) else (some false)) else (some false)) else (some false)) else (some false))))=some r:=H
 have A7:=Aside0.mk A70
 clear A70
 replace H:=Option.bind_eq_some_iff.mp H
 obtain ⟨t693,A80,H⟩:=H
 replace H:(if t693=true then ((nr_Term.f k t684).bind fun t695=>(if t695=true then (if a2 < 0 then (nl_RulesReaches.j0 k a2 t681 t684 t685 t686 t689 t690 true) else (nl_RulesReaches.j0 k a2 t681 t684 t685 t686 t689 t690 (decide (a2 > 5)))) else (if (t685.length:Int)=0 then (if t686=4 then (if (t689.length:Int)=0 then (if t690=4 then ((nl_awake.f k).bind fun t696=>(some t696)) else (some false)) else (some false)) else (some false)) else (some false)))) else (if (t685.length:Int)=0 then (if t686=2 then (if (t689.length:Int)=0 then (if t690=2 then ((nl_awake.f k).bind fun t694=>(some t694)) else (some false)) else (some false)) else (some false)) else (some false)))=some r:=H
 have A8:=Aside0.mk A80
 clear A80
 by_cases c9:t693=true
 ·subst c9
  have H1:((nr_Term.f k t684).bind fun t695=>(if t695=true then (if a2 < 0 then (nl_RulesReaches.j0 k a2 t681 t684 t685 t686 t689 t690 true) else (nl_RulesReaches.j0 k a2 t681 t684 t685 t686 t689 t690 (decide (a2 > 5)))) else (if (t685.length:Int)=0 then (if t686=4 then (if (t689.length:Int)=0 then (if t690=4 then ((nl_awake.f k).bind fun t696=>(some t696)) else (some false)) else (some false)) else (some false)) else (some false))))=some r:=by rw [if_pos rfl] at H;exact H
  clear H
  have H:=H1
  clear H1
  replace H:=Option.bind_eq_some_iff.mp H
  obtain ⟨t695,A100,H⟩:=H
  replace H:(if t695=true then (if a2 < 0 then (nl_RulesReaches.j0 k a2 t681 t684 t685 t686 t689 t690 true) else (nl_RulesReaches.j0 k a2 t681 t684 t685 t686 t689 t690 (decide (a2 > 5)))) else (if (t685.length:Int)=0 then (if t686=4 then (if (t689.length:Int)=0 then (if t690=4 then ((nl_awake.f k).bind fun t696=>(some t696)) else (some false)) else (some false)) else (some false)) else (some false)))=some r:=H
  have A10:=Aside0.mk A100
  clear A100
  by_cases c11:t695=true
  ·subst c11
   have H1:(if a2 < 0 then (nl_RulesReaches.j0 k a2 t681 t684 t685 t686 t689 t690 true) else (nl_RulesReaches.j0 k a2 t681 t684 t685 t686 t689 t690 (decide (a2 > 5))))=some r:=by rw [if_pos rfl] at H;exact H
   clear H
   have H:=H1
   clear H1
   have HC12:=Aside0.mk H
   clear H
   go_enter Tryz.func15,Tryz.ntmps15
   go_upto_region 8 with (first|((with_reducible refine gate_callee (f:=28) rfl ?_);refine goesL_ (some 20) rfl rfl Tryz.func28 (by kernel_rfl) rfl #[.slice A0 l0.length c0] rfl tM_ ?_;(with_reducible refine (nl_laws.calls k _ _ l0 t681 _ ?side1 ?side2 A4.out).mono ?_);(case side1=>repeat (first|exact HR0.out|(with_reducible refine Kd.C_alloc ?_ _)|(with_reducible refine Kd.C_drewN ?_ _)|(with_reducible refine Kd.C_drew ?_)));(case side2=>exact HC0.out);rintro e w13 ⟨v682,rfl,ho0,hb⟩;refine ⟨_,rfl,?_⟩;have n0_:=Aside0.mk (Kd.R_lower ho0 (below_size (tB_ HB)));have n1_:=Aside0.mk (below_step (tB_ HB) hb);clear HB;have HO683:=n0_;have HB:=n1_;clear n0_ n1_;(try clear hb);(try clear hb2);(try clear hk);(try clear hi);(try clear ho0))|((with_reducible refine gate_callee (f:=21) rfl ?_);refine goesL_ (some 22) rfl rfl Tryz.func21 (by kernel_rfl) rfl #[.string a1] rfl tM_ ?_;(with_reducible refine (nl_short.calls a1 t684 _ A5.out).mono ?_);rintro e w14 ⟨rfl,hb⟩;refine ⟨_,rfl,?_⟩;have n0_:=Aside0.mk (Kd.R_below (tR_ HO683) hb);have n1_:=Aside0.mk (below_step (tB_ HB) hb);clear HO683;clear HB;have HO683:=n0_;have HB:=n1_;clear n0_ n1_;(try clear hb);(try clear hb2);(try clear hk);(try clear hi);obtain ⟨Ao15,co15,eo15⟩:=Kd.R_slice HO683.out;subst eo15)|((with_reducible refine gate_callee (f:=56) rfl ?_);refine goesL_ (some 27) rfl rfl Tryz.func56 (by kernel_rfl) rfl #[.slice Ao15 t681.length co15,.string t684,.int .i64 a2] rfl tM_ ?_;(with_reducible refine (rules_Reach.calls _ _ t681 t684 a2 t685 t686 _ ?side1 ?side2 A6.out).mono ?_);(case side1=>repeat (first|exact (Kd.R_reads' HO683.out).2.2|(with_reducible refine Kd.C_alloc ?_ _)|(with_reducible refine Kd.C_drewN ?_ _)|(with_reducible refine Kd.C_drew ?_)));(case side2=>exact (Kd.R_reads' HO683.out).2.1);rintro e w16 ⟨v687,rfl,ho0,hb⟩;refine ⟨_,rfl,?_⟩;have n0_:=Aside0.mk (Kd.R_below (tR_ HO683) hb);have n1_:=Aside0.mk (Kd.R_lower ho0 (below_size (tB_ HB)));have n2_:=Aside0.mk (below_step (tB_ HB) hb);clear HO683;clear HB;have HO683:=n0_;have HO688:=n1_;have HB:=n2_;clear n0_ n1_ n2_;(try clear hb);(try clear hb2);(try clear hk);(try clear hi);(try clear ho0))|((with_reducible refine gate_callee (f:=57) rfl ?_);refine goesL_ (some 34) rfl rfl Tryz.func57 (by kernel_rfl) rfl #[.slice Ao15 t681.length co15,.string t684,.int .i64 a2] rfl tM_ ?_;(with_reducible refine (rules_Loop.calls _ _ t681 t684 a2 t689 t690 _ ?side1 ?side2 A7.out).mono ?_);(case side1=>repeat (first|exact (Kd.R_reads' HO683.out).2.2|(with_reducible refine Kd.C_alloc ?_ _)|(with_reducible refine Kd.C_drewN ?_ _)|(with_reducible refine Kd.C_drew ?_)));(case side2=>exact (Kd.R_reads' HO683.out).2.1);rintro e w17 ⟨v691,rfl,ho0,hb⟩;refine ⟨_,rfl,?_⟩;have n0_:=Aside0.mk (Kd.R_below (tR_ HO683) hb);have n1_:=Aside0.mk (Kd.R_elder' (tR_ HO688) (Kd.R_base ho0) hb);have n2_:=Aside0.mk (Kd.R_lower (Kd.R_new' ho0 (Kd.R_lt (tR_ HO688))) (below_size (tB_ HB)));have n3_:=Aside0.mk (below_step (tB_ HB) hb);clear HO683;clear HO688;clear HB;have HO683:=n0_;have HO688:=n1_;have HO692:=n2_;have HB:=n3_;clear n0_ n1_ n2_ n3_;(try clear hb);(try clear hb2);(try clear hk);(try clear hi);(try clear ho0))|((with_reducible refine gate_callee (f:=31) rfl ?_);refine goesL_ (some 38) rfl rfl Tryz.func31 (by kernel_rfl) rfl #[.slice Ao15 t681.length co15] rfl tM_ ?_;(with_reducible refine (nr_Rules.calls k _ _ t681 true _ ?side1 ?side2 A8.out).mono ?_);(case side1=>repeat (first|exact (Kd.R_reads' HO683.out).2.2|(with_reducible refine Kd.C_alloc ?_ _)|(with_reducible refine Kd.C_drewN ?_ _)|(with_reducible refine Kd.C_drew ?_)));(case side2=>exact (Kd.R_reads' HO683.out).2.1);rintro e w' ⟨rfl,⟨nd,rfl⟩⟩;refine ⟨_,rfl,?_⟩)|((with_reducible refine gate_callee (f:=25) rfl ?_);refine goesL_ (some 60) rfl rfl Tryz.func25 (by kernel_rfl) rfl #[.string t684] rfl tM_ ?_;(with_reducible refine (nr_Term.calls k t684 true _ A10.out).mono ?_);rintro e w' ⟨rfl,⟨nd,rfl⟩⟩;refine ⟨_,rfl,?_⟩))
   (try simp only [Act.put,List.setIfInBounds_toArray,List.set_cons_zero,List.set_cons_succ])
   go_cut [86] (fun v86 wc=>∃ (kq:Nat) (x86_11:Bool),v86=.bool x86_11∧Aside0 (nl_RulesReaches.j0 kq a2 t681 t684 t685 t686 t689 t690 x86_11=some r)∧Aside0 (kq≤k)∧Aside0 (Kd.R k94 94 wc w.heap.size (fun _=>True) (.slice Ao15 t681.length co15) t681)∧Aside0 (Kd.R Kd.string 9 wc w.heap.size (fun k_=>some k_≠(v691:Value).ownBlock) v687 t685)∧Aside0 (Kd.R Kd.string 9 wc w.heap.size (fun k_=>some k_≠(v687:Value).ownBlock) v691 t689)∧Aside0 (Below w.heap.size w wc))
   case first =>
    have H:=HC12.out
    clear HC12
    by_cases c18:a2 < 0
    ·rw [if_pos c18] at H
     have c18b0:decide (a2 < 0)=true:=decide_eq_true c18
     clear c18
     (first|rw [c18b0]|(simp only [i64_w,i32_w];rw [c18b0])|skip)
     have H':=Aside0.mk H
     clear H
     go_wp2
     go_meet
     case rel=>exact ⟨_,(true),tS_,H',⟨by first|omega|exact Nat.le_refl _⟩,⟨tR_ HO683⟩,⟨by (with_reducible repeat (first|apply Kd.R_alloc|apply Kd.R_drewN|apply Kd.R_drew));exact Kd.R_mono HO688.out (fun _ hk=>hk.2)⟩,⟨by (with_reducible repeat (first|apply Kd.R_alloc|apply Kd.R_drewN|apply Kd.R_drew));exact Kd.R_mono HO692.out (fun _ hk=>hk.2)⟩,⟨tB_ HB⟩⟩
    ·rw [if_neg c18] at H
     have c18b0:decide (a2 < 0)=false:=decide_eq_false c18
     clear c18
     (first|rw [c18b0]|(simp only [i64_w,i32_w];rw [c18b0])|skip)
     have H':=Aside0.mk H
     clear H
     go_wp2
     go_meet
     case rel=>exact ⟨_,(decide (a2 > 5)),tS_,H',⟨by first|omega|exact Nat.le_refl _⟩,⟨tR_ HO683⟩,⟨by (with_reducible repeat (first|apply Kd.R_alloc|apply Kd.R_drewN|apply Kd.R_drew));exact Kd.R_mono HO688.out (fun _ hk=>hk.2)⟩,⟨by (with_reducible repeat (first|apply Kd.R_alloc|apply Kd.R_drewN|apply Kd.R_drew));exact Kd.R_mono HO692.out (fun _ hk=>hk.2)⟩,⟨tB_ HB⟩⟩
   case rest =>
    clear HC12
    try clear c1
    try clear c2
    try clear p2
    try clear c3
    try clear c5
    try clear c9
    try clear c11
    try clear c15
    try clear c18
    try clear c18b0
    obtain ⟨kq,x86_11,rfl,HA,HJ11,HO_7,HO_9,HO_11,HB⟩:=hcut
    cases kq with
    | zero=>exact absurd HA.out (by simp [nl_RulesReaches.j0])
    | succ kj11 =>
     have H:=HA.out
     clear HA
     simp only [nl_RulesReaches.j0] at H
     by_cases c19:x86_11=true
     ·subst c19
      have H1:(if (t685.length:Int)=0 then (if t686=2 then (if (t689.length:Int)=0 then (if t690=2 then ((nl_awake.f kj11).bind fun t697=>(some t697)) else (some false)) else (some false)) else (some false)) else (some false))=some r:=by rw [if_pos rfl] at H;exact H
      clear H
      have H:=H1
      clear H1
      by_cases c20:(t685.length:Int)=0
      ·rw [if_pos c20] at H
       have c20b0:((t685.length:Int) == 0)=true:=beq_iff_eq.mpr c20
       have c20b1:((t685.length:Int) != 0)=false:=bne_eq_false_iff_eq.mpr c20
       clear c20
       by_cases c21:t686=2
       ·rw [if_pos c21] at H
        have c21b0:(t686 == 2)=true:=beq_iff_eq.mpr c21
        have c21b1:(t686 != 2)=false:=bne_eq_false_iff_eq.mpr c21
        clear c21
        by_cases c22:(t689.length:Int)=0
        ·rw [if_pos c22] at H
         have c22b0:((t689.length:Int) == 0)=true:=beq_iff_eq.mpr c22
         have c22b1:((t689.length:Int) != 0)=false:=bne_eq_false_iff_eq.mpr c22
         clear c22
         by_cases c23:t690=2
         ·rw [if_pos c23] at H
          have c23b0:(t690 == 2)=true:=beq_iff_eq.mpr c23
          have c23b1:(t690 != 2)=false:=bne_eq_false_iff_eq.mpr c23
          clear c23
          replace H:=Option.bind_eq_some_iff.mp H
          obtain ⟨t697,A240,H⟩:=H
          replace H:(some t697)=some r:=H
          have A24:=Aside0.mk A240
          clear A240
          obtain rfl:=Option.some.inj H
          obtain ⟨Ao25,co25,eo25⟩:=Kd.R_slice HO_9.out
          subst eo25
          obtain ⟨Ao26,co26,eo26⟩:=Kd.R_slice HO_11.out
          subst eo26
          go_wp2_with (first|(go_at_call 24;(with_reducible refine (nl_awake.calls kj11  t697 _ A24.out).mono ?_);rintro e w27 ⟨rfl,hb⟩;have n0_:=Aside0.mk (Kd.R_below (tR_ HO_7) hb);have n1_:=Aside0.mk (Kd.R_below (tR_ HO_9) hb);have n2_:=Aside0.mk (Kd.R_below (tR_ HO_11) hb);have n3_:=Aside0.mk (below_step (tB_ HB) hb);clear HO_7;clear HO_9;clear HO_11;clear HB;have HO_7:=n0_;have HO_9:=n1_;have HO_11:=n2_;have HB:=n3_;clear n0_ n1_ n2_ n3_;(try clear hb);(try clear hb2);(try clear hk);(try clear hi)))
          go_ret
          exact ⟨tE_,tB_ HB⟩
         ·rw [if_neg c23] at H
          exact absurd (H.trans (congrArg some HT0_.out)) (by simp)
        ·rw [if_neg c22] at H
         exact absurd (H.trans (congrArg some HT0_.out)) (by simp)
       ·rw [if_neg c21] at H
        exact absurd (H.trans (congrArg some HT0_.out)) (by simp)
      ·rw [if_neg c20] at H
       exact absurd (H.trans (congrArg some HT0_.out)) (by simp)
     ·replace c19:=Bool.eq_false_iff.mpr c19
      subst c19
      have H1:((nr_Reach.f kj11 t681 t684 a2).bind fun bt698=>(if bt698.2=true then (nl_RulesReaches.l0 kj11 a2 t681 t684 t685 t686 t689 t690 bt698.1 ([]:List ByteArray) 0) else (if (t685.length:Int)=0 then (if t686=5 then (if (t689.length:Int)=0 then (if t690=5 then ((nl_awake.f kj11).bind fun t702=>(some t702)) else (some false)) else (some false)) else (some false)) else (some false))))=some r:=by rw [if_neg (show ¬ (false=true) by decide)] at H;exact H
      clear H
      have H:=H1
      clear H1
      replace H:=Option.bind_eq_some_iff.mp H
      obtain ⟨⟨t698,t701⟩,A340,H⟩:=H
      replace H:(if t701=true then (nl_RulesReaches.l0 kj11 a2 t681 t684 t685 t686 t689 t690 t698 ([]:List ByteArray) 0) else (if (t685.length:Int)=0 then (if t686=5 then (if (t689.length:Int)=0 then (if t690=5 then ((nl_awake.f kj11).bind fun t702=>(some t702)) else (some false)) else (some false)) else (some false)) else (some false)))=some r:=H
      have A34:=Aside0.mk A340
      clear A340
      by_cases c35:t701=true
      ·subst c35
       have H1:(nl_RulesReaches.l0 kj11 a2 t681 t684 t685 t686 t689 t690 t698 ([]:List ByteArray) 0)=some r:=by rw [if_pos rfl] at H;exact H
       clear H
       have H:=H1
       clear H1
       have H':=Aside0.mk H
       clear H
       go_wp2_with (first|((with_reducible refine gate_callee (f:=58) rfl ?_);refine goesL_ (some 110) rfl rfl Tryz.func58 (by kernel_rfl) rfl #[.slice Ao15 t681.length co15,.string t684,.int .i64 a2] rfl tM_ ?_;(with_reducible refine (nr_Reach.calls kj11 _ _ t681 t684 a2 t698 true _ ?side1 ?side2 A34.out).mono ?_);(case side1=>repeat (first|exact (Kd.R_reads' HO_7.out).2.2|(with_reducible refine Kd.C_alloc ?_ _)|(with_reducible refine Kd.C_drewN ?_ _)|(with_reducible refine Kd.C_drew ?_)));(case side2=>exact (Kd.R_reads' HO_7.out).2.1);rintro e w36 ⟨v699,rfl,ho0,hb⟩;refine ⟨_,rfl,?_⟩;have n0_:=Aside0.mk (Kd.R_below (tR_ HO_7) hb);have n1_:=Aside0.mk (Kd.R_below (tR_ HO_9) hb);have n2_:=Aside0.mk (Kd.R_below (tR_ HO_11) hb);have n3_:=Aside0.mk (Kd.N_lower (Kd.N_mono (ok':=fun k_=>some k_≠(.slice Ao15 t681.length co15:Value).ownBlock∧some k_≠(v687:Value).ownBlock∧some k_≠(v691:Value).ownBlock) ho0 (fun k_ hk_=>⟨(Kd.fresh' (Kd.R_lt (tR_ HO_7)) k_ hk_),(Kd.fresh' (Kd.R_lt (tR_ HO_9)) k_ hk_),(Kd.fresh' (Kd.R_lt (tR_ HO_11)) k_ hk_)⟩)) (below_size (tB_ HB)));have n4_:=Aside0.mk (below_step (tB_ HB) hb);clear HO_7;clear HO_9;clear HO_11;clear HB;have HO_7:=n0_;have HO_9:=n1_;have HO_11:=n2_;have HO700:=n3_;have HB:=n4_;clear n0_ n1_ n2_ n3_ n4_;(try clear hb);(try clear hb2);(try clear hk);(try clear hi);(try clear ho0)))
       go_loopg [15,16] kj11 (fun kq v15 v16 w'=>∃ (x15_2:List ByteArray) (x16_2:Int),v16=.int .i64 x16_2∧Aside0 (nl_RulesReaches.l0 kq a2 t681 t684 t685 t686 t689 t690 t698 x15_2 x16_2=some r)∧Aside0 (kq≤kj11)∧Aside0 (Kd.R k94 94 w' w.heap.size (fun _=>True) (.slice Ao15 t681.length co15) t681)∧Aside0 (Kd.R Kd.string 9 w' w.heap.size (fun k_=>some k_≠(v691:Value).ownBlock∧some k_≠(v15:Value).ownBlock) v687 t685)∧Aside0 (Kd.R Kd.string 9 w' w.heap.size (fun k_=>some k_≠(v687:Value).ownBlock∧some k_≠(v15:Value).ownBlock) v691 t689)∧Aside0 (Kd.N (Kd.slice 9 Kd.string) 36 w' w.heap.size (fun k_=>some k_≠((.slice Ao15 t681.length co15):Value).ownBlock∧some k_≠(v687:Value).ownBlock∧some k_≠(v691:Value).ownBlock∧some k_≠(v15:Value).ownBlock) v699 t698)∧Aside0 (Kd.R Kd.string 9 w' w.heap.size (fun k_=>some k_≠(v687:Value).ownBlock∧some k_≠(v691:Value).ownBlock) v15 x15_2)∧Aside0 (Below w.heap.size w w'))
       case atStart=>exact ⟨(([]:List ByteArray)),(0),tS_,H',⟨Nat.le_refl _⟩,⟨tR_ HO_7⟩,⟨by (with_reducible repeat (first|apply Kd.R_alloc|apply Kd.R_drewN|apply Kd.R_drew));exact Kd.R_mono HO_9.out (fun _ hk=>⟨hk,(by simp [Value.ownBlock])⟩)⟩,⟨by (with_reducible repeat (first|apply Kd.R_alloc|apply Kd.R_drewN|apply Kd.R_drew));exact Kd.R_mono HO_11.out (fun _ hk=>⟨hk,(by simp [Value.ownBlock])⟩)⟩,⟨by (with_reducible repeat (first|apply Kd.N_alloc|apply Kd.N_drewN|apply Kd.N_drew));exact Kd.N_mono HO700.out (fun _ hk=>⟨hk.1,⟨hk.2.1,⟨hk.2.2,(by simp [Value.ownBlock])⟩⟩⟩)⟩,⟨by first|exact Kd.R_nil _ _ _ _ _|exact Kd.N_nil _ _ _ _ _|exact Kd.V_nil _ _ _ _ _|exact Kd.Q_nil _ _ _ _ _|exact Kd.S_nil _ _ _ _ _⟩,⟨tB_ HB⟩⟩
       case round =>
        clear H'
        try clear c1
        try clear c2
        try clear p2
        try clear c3
        try clear c5
        try clear c9
        try clear c11
        try clear c15
        try clear c18
        try clear c18b0
        try clear c19
        try clear c20
        try clear c20b0
        try clear c20b1
        try clear c20b2
        try clear c21
        try clear c21b0
        try clear c21b1
        try clear c22
        try clear c22b0
        try clear c22b1
        try clear c22b2
        try clear c23
        try clear c23b0
        try clear c23b1
        try clear c25
        try clear c28
        try clear c31
        try clear c35
        try clear p2
        obtain ⟨x15_2,x16_2,rfl,HA,HK2,HO_7,HO_9,HO_11,HO_13,HO_15,HB⟩:=hrel
        cases gk with
        | zero=>exact absurd HA.out (by simp [nl_RulesReaches.l0])
        | succ k2 =>
         have H:=HA.out
         clear HA
         simp only [nl_RulesReaches.l0] at H
         by_cases c37:x16_2 < (t698.length:Int)
         ·rw [if_pos c37] at H
          have c37b0:decide (x16_2 < (t698.length:Int))=true:=decide_eq_true c37
          clear c37
          by_cases c38:0≤x16_2
          ·rw [if_pos c38] at H
           have c38b0:decide (0≤x16_2)=true:=decide_eq_true c38
           clear c38
           by_cases c39:x15_2.length+(rd_L7 t698 x16_2).length < 8796093022208
           ·rw [if_pos c39] at H
            have LMc39:=Aside0.mk c39
            clear c39
            obtain ⟨y704,hy704⟩:∃ y_:List ByteArray,y_=(x15_2++(rd_L7 t698 x16_2)):=⟨_,rfl⟩
            replace H:(nl_RulesReaches.l0 k2 a2 t681 t684 t685 t686 t689 t690 t698 y704 (wrap64 (x16_2+1)))=some r:=by first|(rw [hy704];with_reducible exact H)|(have H2_:=(Option.bind_some _ _).symm.trans H;rw [hy704];with_reducible exact H2_)|(have H2_:=(Option.bind_some _ _).symm.trans H;with_reducible exact H2_)|with_reducible exact H|(rw [hy704];exact H)|exact H
            have Ny704:=Aside0.mk hy704
            clear hy704
            have H':=Aside0.mk H
            clear H
            obtain ⟨Ao40,co40,eo40⟩:=Kd.N_slice HO_13.out
            subst eo40
            have p703:0≤(x16_2:Int):=oT_
            have q703:x16_2 < (t698.length:Int):=oT_
            obtain ⟨ad703,A703_0,c703_0,e703,hx703_0,hl703_0,hi703_0⟩:=at_L7 (Kd.N_reads' HO_13.out).2.2 x16_2 p703 q703
            cases e703
            obtain ⟨ce703,hce703,hMe703,hcc703⟩:=Kd.N_get HO_13.out [] x16_2 p703 (by first|exact q703|exact oT_|(have e_:=(Kd.N_reads' HO_13.out).1;omega))
            obtain ⟨ua703_0,uc703_0,rfl,ul703_0,ge703_0⟩:=Kd.FK_slice_open hMe703
            have hv703_0:=hcc703 0 _ rfl
            rw [Nat.add_zero,show ((Kd.slice 9 Kd.string)).sz=1 from rfl,Nat.mul_one] at hv703_0
            replace hv703_0:=Option.some.inj (hv703_0.symm.trans hx703_0)
            injection hv703_0 with hva_ hvn_ hvc_
            rw [hva_] at ge703_0
            rw [hvc_] at ul703_0
            have HL703_0:=Aside0.mk (show Kd.V Kd.string 9 _ w.heap.size _ _ (rd_L7 t698 x16_2) from Kd.V_mk ul703_0 ge703_0)
            clear hva_ hvn_ hvc_ ge703_0 ul703_0
            clear hcc703 hce703
            have HR703_0:=Aside0.mk hi703_0
            have HC703_0:=Aside0.mk hl703_0
            clear hi703_0 hl703_0
            replace p703:=eq_true p703
            replace q703:=eq_true q703
            go_wp2_with (first|((with_reducible refine gate_builtin (b:=.append) (xs:=#[.tmp 140,.tmp 144]) rfl ?_);(try (refine gate_guard (by rfl) ?_;dsimp only));at_builtin;refine Kd.R_append_rows Kd.string (w0:=w) w.heap.size rfl (.tmp 140) (.tmp 144) 36 9 (.string ⟨#[]⟩) 16 rfl Tryz.underlying36 info9 rfl (by decide) (by omega) u15 x15_2 (rd_L7 t698 x16_2) _ _ _ (fun k_=>some k_≠(v687:Value).ownBlock∧some k_≠(v691:Value).ownBlock) (fun _=>False) rfl rfl ?aO ?aR (fun _ _ h=>h) (fun _ h=>h.elim) ?aF ?aB ?aS ?aL ?_;(case aR=>repeat (first|exact (by repeat (first|(with_reducible exact HR703_0.out)|(with_reducible refine Kd.C_alloc ?_ _)|(with_reducible refine Kd.C_drewN ?_ _)|(with_reducible refine Kd.C_drew ?_)|exact HR703_0.out))|(with_reducible refine Kd.C_alloc ?_ _)|(with_reducible refine Kd.C_drewN ?_ _)|(with_reducible refine Kd.C_drew ?_)));(case aB=>exact (tB_ HB));(case aF=>exact (fun k_ hk=>⟨Kd.fresh' (Kd.R_lt (tR_ HO_9)) k_ hk,Kd.fresh' (Kd.R_lt (tR_ HO_11)) k_ hk⟩));(case aO=>exact (tR_ HO_15));(case aS=>exact (below_size (tB_ HB)));(case aL=>have:=LMc39.out;omega);intro v705 w41 ho hb hg hat;rw [←Ny704.out] at ho;have n0_:=Aside0.mk (Kd.R_over' (tR_ HO_7) (Kd.R_typed (tR_ HO_15)) (by decide) hg);have n1_:=Aside0.mk (Kd.R_after (ok:=(fun k_=>some k_≠(v691:Value).ownBlock)) (tR_ HO_9) hg hat);have n2_:=Aside0.mk (Kd.R_after (ok:=(fun k_=>some k_≠(v687:Value).ownBlock)) (tR_ HO_11) hg hat);have n3_:=Aside0.mk (Kd.N_afterv (ok:=(fun k_=>some k_≠(.slice Ao15 t681.length co15:Value).ownBlock∧some k_≠(v687:Value).ownBlock∧some k_≠(v691:Value).ownBlock)) (by (with_reducible repeat (first|apply Kd.N_alloc|apply Kd.N_drewN|apply Kd.N_drew));exact Kd.N_mono HO_13.out (fun _ hk=>⟨⟨hk.1,⟨hk.2.1,hk.2.2.1⟩⟩,hk.2.2.2⟩)) hg hat);have n4_:=Aside0.mk (Kd.V_afterv (ok:=(fun k_=>some k_≠(.slice Ao15 t681.length co15:Value).ownBlock∧some k_≠(v687:Value).ownBlock∧some k_≠(v691:Value).ownBlock∧some k_≠(.slice (some ad703) t698.length co40:Value).ownBlock)) (by (with_reducible repeat (first|apply Kd.V_alloc|apply Kd.V_drewN|apply Kd.V_drew));exact Kd.V_mono HL703_0.out (fun _ hk=>⟨⟨hk.1.1,⟨hk.1.2.1,⟨hk.1.2.2.1,hk.2⟩⟩⟩,hk.1.2.2.2⟩)) hg hat);have n5_:=Aside0.mk (hb);have n6_:=Aside0.mk (ho);clear HO_7;clear HO_9;clear HO_11;clear HO_13;clear HL703_0;clear HB;clear HO_15;have HO_7:=n0_;have HO_9:=n1_;have HO_11:=n2_;have HO_13:=n3_;have HL703_0:=n4_;have HB:=n5_;have HO706:=n6_;clear n0_ n1_ n2_ n3_ n4_ n5_ n6_;clear ho hb hg hat))
            go_roundg k2
            case measure=>have:=HJ11.out;have:=HK2.out;omega
            case rel=>exact ⟨(y704),(wrap64 (x16_2+1)),tS_,H',⟨by have:=HJ11.out;have:=HK2.out;omega⟩,⟨tR_ HO_7⟩,⟨tR_ HO_9⟩,⟨tR_ HO_11⟩,⟨by (with_reducible repeat (first|apply Kd.N_alloc|apply Kd.N_drewN|apply Kd.N_drew));exact Kd.N_mono HO_13.out (fun _ hk=>⟨hk.1.1,⟨hk.1.2.1,⟨hk.1.2.2,hk.2⟩⟩⟩)⟩,⟨tR_ HO706⟩,⟨tB_ HB⟩⟩
           ·rw [if_neg c39] at H
            exact absurd H (by simp)
          ·rw [if_neg c38] at H
           exact absurd H (by simp)
         ·rw [if_neg c37] at H
          have c37b0:decide (x16_2 < (t698.length:Int))=false:=decide_eq_false c37
          clear c37
          have HC42:=Aside0.mk H
          clear H
          obtain ⟨Ao43,co43,eo43⟩:=Kd.N_slice HO_13.out
          subst eo43
          go_upto_region 18 with (fail)
          go_cut [153] (fun v153 wc=>∃ (kq:Nat) (x153_41:Bool),v153=.bool x153_41∧Aside0 (nl_RulesReaches.j2 kq a2 t681 t684 t689 t690 x153_41=some r)∧Aside0 (kq≤k2)∧Aside0 (Kd.R k94 94 wc w.heap.size (fun _=>True) (.slice Ao15 t681.length co15) t681)∧Aside0 (Kd.R Kd.string 9 wc w.heap.size (fun _=>True) v691 t689)∧Aside0 (Below w.heap.size w wc))
          case first =>
           have H:=HC42.out
           clear HC42
           replace H:=Option.bind_eq_some_iff.mp H
           obtain ⟨t707,A440,H⟩:=H
           replace H:(if t707=true then (nl_RulesReaches.j2 k2 a2 t681 t684 t689 t690 (t686 != 0)) else (nl_RulesReaches.j2 k2 a2 t681 t684 t689 t690 true))=some r:=H
           have A44:=Aside0.mk A440
           clear A440
           by_cases c45:t707=true
           ·subst c45
            have H1:(nl_RulesReaches.j2 k2 a2 t681 t684 t689 t690 (t686 != 0))=some r:=by rw [if_pos rfl] at H;exact H
            clear H
            have H:=H1
            clear H1
            have H':=Aside0.mk H
            clear H
            obtain ⟨Ao46,co46,eo46⟩:=Kd.R_slice HO_9.out
            subst eo46
            obtain ⟨Ao47,co47,eo47⟩:=Kd.R_slice HO_15.out
            subst eo47
            go_wp2_with (first|((with_reducible refine gate_callee (f:=53) rfl ?_);refine goesL_ (some 148) rfl rfl Tryz.func53 (by kernel_rfl) rfl #[.slice Ao46 t685.length co46,.slice Ao47 x15_2.length co47] rfl tM_ ?_;(with_reducible refine (nl_texts.calls k2 _ _ t685 _ _ x15_2 true _ ?side1 ?side2 ?side3 ?side4 A44.out).mono ?_);(case side1=>repeat (first|exact (Kd.R_reads' HO_9.out).2.2|(with_reducible refine Kd.C_alloc ?_ _)|(with_reducible refine Kd.C_drewN ?_ _)|(with_reducible refine Kd.C_drew ?_)));(case side2=>exact (Kd.R_reads' HO_9.out).2.1);(case side3=>repeat (first|exact (Kd.R_reads' HO_15.out).2.2|(with_reducible refine Kd.C_alloc ?_ _)|(with_reducible refine Kd.C_drewN ?_ _)|(with_reducible refine Kd.C_drew ?_)));(case side4=>exact (Kd.R_reads' HO_15.out).2.1);rintro e w' ⟨rfl,⟨nd,rfl⟩⟩;refine ⟨_,rfl,?_⟩))
            go_meet
            case rel=>exact ⟨_,((t686 != 0)),tS_,H',⟨by have:=HJ11.out;have:=HK2.out;first|omega|exact Nat.le_refl _⟩,⟨tR_ HO_7⟩,⟨by (with_reducible repeat (first|apply Kd.R_alloc|apply Kd.R_drewN|apply Kd.R_drew));exact Kd.R_mono HO_11.out (fun _ hk=>trivial)⟩,⟨tB_ HB⟩⟩
           ·replace c45:=Bool.eq_false_iff.mpr c45
            subst c45
            have H1:(nl_RulesReaches.j2 k2 a2 t681 t684 t689 t690 true)=some r:=by rw [if_neg (show ¬ (false=true) by decide)] at H;exact H
            exact absurd (H1.trans (congrArg some HT0_.out)) (nl_RulesReaches.j2_no _ _ _ _ _ _)
          case rest =>
           clear HC42
           try clear c1
           try clear c2
           try clear p2
           try clear c3
           try clear c4
           try clear c5
           try clear p6
           try clear c7
           try clear p7
           try clear q7
           try clear hx7
           try clear c9
           try clear c11
           try clear c15
           try clear c18
           try clear c18b0
           try clear c19
           try clear c20
           try clear c20b0
           try clear c20b1
           try clear c20b2
           try clear c21
           try clear c21b0
           try clear c21b1
           try clear c22
           try clear c22b0
           try clear c22b1
           try clear c22b2
           try clear c23
           try clear c23b0
           try clear c23b1
           try clear c25
           try clear c28
           try clear c31
           try clear c35
           try clear c37
           try clear c37b0
           try clear c38
           try clear c38b0
           try clear c39
           try clear c45
           try clear hx703_0
           try clear p2
           try clear p703
           try clear q703
           obtain ⟨kq,x153_41,rfl,HA,HJ41,HO_7,HO_11,HB⟩:=hcut
           cases kq with
           | zero=>exact absurd HA.out (by simp [nl_RulesReaches.j2])
           | succ kj41 =>
            have H:=HA.out
            clear HA
            simp only [nl_RulesReaches.j2] at H
            by_cases c50:x153_41=true
            ·subst c50
             have H1:(some false)=some r:=by rw [if_pos rfl] at H;exact H
             exact absurd (H1.trans (congrArg some HT0_.out)) (by simp)
            ·replace c50:=Bool.eq_false_iff.mpr c50
             subst c50
             have H1:((nr_Shortest.f kj41 t681 t684 a2).bind fun t708=>(if t708=0 then (if (t689.length:Int)=0 then (if t690=6 then ((nl_awake.f kj41).bind fun t709=>(some t709)) else (some false)) else (some false)) else (nl_RulesReaches.l1 kj41 t681 t684 t689 t690 t708 0)))=some r:=by rw [if_neg (show ¬ (false=true) by decide)] at H;exact H
             clear H
             have H:=H1
             clear H1
             replace H:=Option.bind_eq_some_iff.mp H
             obtain ⟨t708,A510,H⟩:=H
             replace H:(if t708=0 then (if (t689.length:Int)=0 then (if t690=6 then ((nl_awake.f kj41).bind fun t709=>(some t709)) else (some false)) else (some false)) else (nl_RulesReaches.l1 kj41 t681 t684 t689 t690 t708 0))=some r:=H
             have A51:=Aside0.mk A510
             clear A510
             by_cases c52:t708=0
             ·rw [if_pos c52] at H
              have c52b0:(t708 == 0)=true:=beq_iff_eq.mpr c52
              have c52b1:(t708 != 0)=false:=bne_eq_false_iff_eq.mpr c52
              clear c52
              by_cases c53:(t689.length:Int)=0
              ·rw [if_pos c53] at H
               have c53b0:((t689.length:Int) == 0)=true:=beq_iff_eq.mpr c53
               have c53b1:((t689.length:Int) != 0)=false:=bne_eq_false_iff_eq.mpr c53
               clear c53
               by_cases c54:t690=6
               ·rw [if_pos c54] at H
                have c54b0:(t690 == 6)=true:=beq_iff_eq.mpr c54
                have c54b1:(t690 != 6)=false:=bne_eq_false_iff_eq.mpr c54
                clear c54
                replace H:=Option.bind_eq_some_iff.mp H
                obtain ⟨t709,A550,H⟩:=H
                replace H:(some t709)=some r:=H
                have A55:=Aside0.mk A550
                clear A550
                obtain rfl:=Option.some.inj H
                go_wp2_with (first|((with_reducible refine gate_callee (f:=59) rfl ?_);refine goesL_ (some 157) rfl rfl Tryz.func59 (by kernel_rfl) rfl #[.slice Ao15 t681.length co15,.string t684,.int .i64 a2] rfl tM_ ?_;(with_reducible refine (nr_Shortest.calls kj41 _ _ t681 t684 a2 t708 _ ?side1 ?side2 A51.out).mono ?_);(case side1=>repeat (first|exact (Kd.R_reads' HO_7.out).2.2|(with_reducible refine Kd.C_alloc ?_ _)|(with_reducible refine Kd.C_drewN ?_ _)|(with_reducible refine Kd.C_drew ?_)));(case side2=>exact (Kd.R_reads' HO_7.out).2.1);rintro e w56 ⟨rfl,hb⟩;refine ⟨_,rfl,?_⟩;have n0_:=Aside0.mk (Kd.R_below (tR_ HO_7) hb);have n1_:=Aside0.mk (Kd.R_below (tR_ HO_11) hb);have n2_:=Aside0.mk (below_step (tB_ HB) hb);clear HO_7;clear HO_11;clear HB;have HO_7:=n0_;have HO_11:=n1_;have HB:=n2_;clear n0_ n1_ n2_;(try clear hb);(try clear hb2);(try clear hk);(try clear hi);obtain ⟨Ao57,co57,eo57⟩:=Kd.R_slice HO_11.out;subst eo57)|(go_at_call 24;(with_reducible refine (nl_awake.calls kj41  t709 _ A55.out).mono ?_);rintro e w58 ⟨rfl,hb⟩;have n0_:=Aside0.mk (Kd.R_below (tR_ HO_7) hb);have n1_:=Aside0.mk (Kd.R_below (tR_ HO_11) hb);have n2_:=Aside0.mk (below_step (tB_ HB) hb);clear HO_7;clear HO_11;clear HB;have HO_7:=n0_;have HO_11:=n1_;have HB:=n2_;clear n0_ n1_ n2_;(try clear hb);(try clear hb2);(try clear hk);(try clear hi)))
                go_ret
                exact ⟨tE_,tB_ HB⟩
               ·rw [if_neg c54] at H
                exact absurd (H.trans (congrArg some HT0_.out)) (by simp)
              ·rw [if_neg c53] at H
               exact absurd (H.trans (congrArg some HT0_.out)) (by simp)
             ·rw [if_neg c52] at H
              have c52b0:(t708 == 0)=false:=beq_eq_false_iff_ne.mpr c52
              have c52b1:(t708 != 0)=true:=bne_iff_ne.mpr c52
              have H':=Aside0.mk H
              clear H
              go_wp2_with (first|((with_reducible refine gate_callee (f:=59) rfl ?_);refine goesL_ (some 157) rfl rfl Tryz.func59 (by kernel_rfl) rfl #[.slice Ao15 t681.length co15,.string t684,.int .i64 a2] rfl tM_ ?_;(with_reducible refine (nr_Shortest.calls kj41 _ _ t681 t684 a2 t708 _ ?side1 ?side2 A51.out).mono ?_);(case side1=>repeat (first|exact (Kd.R_reads' HO_7.out).2.2|(with_reducible refine Kd.C_alloc ?_ _)|(with_reducible refine Kd.C_drewN ?_ _)|(with_reducible refine Kd.C_drew ?_)));(case side2=>exact (Kd.R_reads' HO_7.out).2.1);rintro e w63 ⟨rfl,hb⟩;refine ⟨_,rfl,?_⟩;have n0_:=Aside0.mk (Kd.R_below (tR_ HO_7) hb);have n1_:=Aside0.mk (Kd.R_below (tR_ HO_11) hb);have n2_:=Aside0.mk (below_step (tB_ HB) hb);clear HO_7;clear HO_11;clear HB;have HO_7:=n0_;have HO_11:=n1_;have HB:=n2_;clear n0_ n1_ n2_;(try clear hb);(try clear hb2);(try clear hk);(try clear hi)))
              go_loopg [18] kj41 (fun kq v18 w'=>∃ (x18_4:Int),v18=.int .i64 x18_4∧Aside0 (nl_RulesReaches.l1 kq t681 t684 t689 t690 t708 x18_4=some r)∧Aside0 (kq≤kj41)∧Aside0 (Kd.R k94 94 w' w.heap.size (fun _=>True) (.slice Ao15 t681.length co15) t681)∧Aside0 (Kd.R Kd.string 9 w' w.heap.size (fun _=>True) v691 t689)∧Aside0 (Below w.heap.size w w'))
              case atStart=>exact ⟨(0),tS_,H',⟨Nat.le_refl _⟩,⟨tR_ HO_7⟩,⟨tR_ HO_11⟩,⟨tB_ HB⟩⟩
              case round =>
               clear H'
               try clear c1
               try clear c2
               try clear p2
               try clear c3
               try clear c4
               try clear c5
               try clear p6
               try clear c7
               try clear p7
               try clear q7
               try clear hx7
               try clear c9
               try clear c11
               try clear c15
               try clear c18
               try clear c18b0
               try clear c19
               try clear c20
               try clear c20b0
               try clear c20b1
               try clear c20b2
               try clear c21
               try clear c21b0
               try clear c21b1
               try clear c22
               try clear c22b0
               try clear c22b1
               try clear c22b2
               try clear c23
               try clear c23b0
               try clear c23b1
               try clear c25
               try clear c28
               try clear c31
               try clear c35
               try clear c37
               try clear c37b0
               try clear c38
               try clear c38b0
               try clear c39
               try clear c45
               try clear c50
               try clear c52
               try clear c52b0
               try clear c52b1
               try clear c53
               try clear c53b0
               try clear c53b1
               try clear c53b2
               try clear c54
               try clear c54b0
               try clear c54b1
               try clear c56
               try clear c57
               try clear c58
               try clear c59
               try clear hx703_0
               try clear p2
               try clear p6
               try clear p7
               try clear p703
               try clear q7
               try clear q703
               obtain ⟨x18_4,rfl,HA,HK4,HO_7,HO_11,HB⟩:=hrel
               cases gk with
               | zero=>exact absurd HA.out (by simp [nl_RulesReaches.l1])
               | succ k4 =>
                have H:=HA.out
                clear HA
                simp only [nl_RulesReaches.l1] at H
                by_cases c64:x18_4 < (t689.length:Int)
                ·rw [if_pos c64] at H
                 have c64b0:decide (x18_4 < (t689.length:Int))=true:=decide_eq_true c64
                 clear c64
                 by_cases c65:0≤x18_4
                 ·rw [if_pos c65] at H
                  have c65b0:decide (0≤x18_4)=true:=decide_eq_true c65
                  clear c65
                  replace H:=Option.bind_eq_some_iff.mp H
                  obtain ⟨t711,A660,H⟩:=H
                  replace H:(if t711=true then (nl_RulesReaches.l1 k4 t681 t684 t689 t690 t708 (wrap64 (x18_4+1))) else (some false))=some r:=H
                  have A66:=Aside0.mk A660
                  clear A660
                  by_cases c67:t711=true
                  ·subst c67
                   have H1:(nl_RulesReaches.l1 k4 t681 t684 t689 t690 t708 (wrap64 (x18_4+1)))=some r:=by rw [if_pos rfl] at H;exact H
                   clear H
                   have H:=H1
                   clear H1
                   have H':=Aside0.mk H
                   clear H
                   obtain ⟨Ao68,co68,eo68⟩:=Kd.R_slice HO_11.out
                   subst eo68
                   have p710:0≤(x18_4:Int):=oT_
                   have q710:x18_4 < (t689.length:Int):=oT_
                   obtain ⟨ad710,e710,hx710_0⟩:=Kd.at_string (Kd.R_reads' HO_11.out).2.2 x18_4 p710 q710
                   cases e710
                   replace p710:=eq_true p710
                   replace q710:=eq_true q710
                   go_wp2_with (first|((with_reducible refine gate_callee (f:=25) rfl ?_);refine goesL_ (some 180) rfl rfl Tryz.func25 (by kernel_rfl) rfl #[.string (rdOf ByteArray.empty t689 x18_4)] rfl tM_ ?_;(with_reducible refine (nr_Term.calls k4 (rdOf ByteArray.empty t689 x18_4) true _ A66.out).mono ?_);rintro e w' ⟨rfl,⟨nd,rfl⟩⟩;refine ⟨_,rfl,?_⟩))
                   go_roundg k4
                   case measure=>have:=HJ11.out;have:=HK2.out;have:=HJ41.out;have:=HK4.out;omega
                   case rel=>exact ⟨(wrap64 (x18_4+1)),tS_,H',⟨by have:=HJ11.out;have:=HK2.out;have:=HJ41.out;have:=HK4.out;omega⟩,⟨tR_ HO_7⟩,⟨tR_ HO_11⟩,⟨tB_ HB⟩⟩
                  ·replace c67:=Bool.eq_false_iff.mpr c67
                   subst c67
                   have H1:(some false)=some r:=by rw [if_neg (show ¬ (false=true) by decide)] at H;exact H
                   exact absurd (H1.trans (congrArg some HT0_.out)) (by simp)
                 ·rw [if_neg c65] at H
                  exact absurd H (by simp)
                ·rw [if_neg c64] at H
                 have c64b0:decide (x18_4 < (t689.length:Int))=false:=decide_eq_false c64
                 clear c64
                 by_cases c70:(t689.length:Int)=(wrap64 (t708+1))
                 ·rw [if_pos c70] at H
                  have c70b0:((t689.length:Int) == (wrap64 (t708+1)))=true:=beq_iff_eq.mpr c70
                  have c70b1:((t689.length:Int) != (wrap64 (t708+1)))=false:=bne_eq_false_iff_eq.mpr c70
                  clear c70
                  by_cases c71:0 < (t689.length:Int)
                  ·rw [if_pos c71] at H
                   have c71b0:decide (0 < (t689.length:Int))=true:=decide_eq_true c71
                   have c71b1:decide (0 < t689.length)=true:=decide_eq_true (by omega)
                   clear c71
                   by_cases c72:(rdOf ByteArray.empty t689 0).toList=t684.toList
                   ·rw [if_pos c72] at H
                    have c72b0:((rdOf ByteArray.empty t689 0).toList == t684.toList)=true:=beq_iff_eq.mpr c72
                    have c72b1:((rdOf ByteArray.empty t689 0).toList != t684.toList)=false:=bne_eq_false_iff_eq.mpr c72
                    clear c72
                    replace H:=Option.bind_eq_some_iff.mp H
                    obtain ⟨t713,A730,H⟩:=H
                    replace H:(if t713=true then (if t690=0 then ((nl_awake.f k4).bind fun t714=>(some t714)) else (some false)) else (some false))=some r:=H
                    have A73:=Aside0.mk A730
                    clear A730
                    by_cases c74:t713=true
                    ·subst c74
                     have H1:(if t690=0 then ((nl_awake.f k4).bind fun t714=>(some t714)) else (some false))=some r:=by rw [if_pos rfl] at H;exact H
                     clear H
                     have H:=H1
                     clear H1
                     by_cases c75:t690=0
                     ·rw [if_pos c75] at H
                      have c75b0:(t690 == 0)=true:=beq_iff_eq.mpr c75
                      have c75b1:(t690 != 0)=false:=bne_eq_false_iff_eq.mpr c75
                      clear c75
                      replace H:=Option.bind_eq_some_iff.mp H
                      obtain ⟨t714,A760,H⟩:=H
                      replace H:(some t714)=some r:=H
                      have A76:=Aside0.mk A760
                      clear A760
                      obtain rfl:=Option.some.inj H
                      obtain ⟨Ao77,co77,eo77⟩:=Kd.R_slice HO_11.out
                      subst eo77
                      have p712:0≤(0:Int):=(by omega)
                      have q712:0 < (t689.length:Int):=oT_
                      obtain ⟨ad712,e712,hx712_0⟩:=Kd.at_string (Kd.R_reads' HO_11.out).2.2 0 p712 q712
                      cases e712
                      have qi712:(0 < t689.length)=True:=eq_true (by omega)
                      (try rw [show ((0:Int)).toNat=0 from rfl] at hx712_0)
                      (try rw [Addr.add_zero'] at hx712_0)
                      replace p712:=eq_true p712
                      replace q712:=eq_true q712
                      go_wp2_with (first|(go_at_call 32;(with_reducible refine (nr_Loop.calls k4 _ _ t681 _ _ t689 true _ ?side1 ?side2 ?side3 ?side4 A73.out).mono ?_);(case side1=>repeat (first|exact (Kd.R_reads' HO_7.out).2.2|(with_reducible refine Kd.C_alloc ?_ _)|(with_reducible refine Kd.C_drewN ?_ _)|(with_reducible refine Kd.C_drew ?_)));(case side2=>exact (Kd.R_reads' HO_7.out).2.1);(case side3=>repeat (first|exact (Kd.R_reads' HO_11.out).2.2|(with_reducible refine Kd.C_alloc ?_ _)|(with_reducible refine Kd.C_drewN ?_ _)|(with_reducible refine Kd.C_drew ?_)));(case side4=>exact (Kd.R_reads' HO_11.out).2.1);rintro e w78 ⟨rfl,hb⟩;have n0_:=Aside0.mk (Kd.R_below (tR_ HO_7) hb);have n1_:=Aside0.mk (Kd.R_below (tR_ HO_11) hb);have n2_:=Aside0.mk (below_step (tB_ HB) hb);clear HO_7;clear HO_11;clear HB;have HO_7:=n0_;have HO_11:=n1_;have HB:=n2_;clear n0_ n1_ n2_;(try clear hb);(try clear hb2);(try clear hk);(try clear hi))|(go_at_call 24;(with_reducible refine (nl_awake.calls k4  t714 _ A76.out).mono ?_);rintro e w79 ⟨rfl,hb⟩;have n0_:=Aside0.mk (Kd.R_below (tR_ HO_7) hb);have n1_:=Aside0.mk (Kd.R_below (tR_ HO_11) hb);have n2_:=Aside0.mk (below_step (tB_ HB) hb);clear HO_7;clear HO_11;clear HB;have HO_7:=n0_;have HO_11:=n1_;have HB:=n2_;clear n0_ n1_ n2_;(try clear hb);(try clear hb2);(try clear hk);(try clear hi)))
                      go_ret
                      exact ⟨tE_,tB_ HB⟩
                     ·rw [if_neg c75] at H
                      exact absurd (H.trans (congrArg some HT0_.out)) (by simp)
                    ·replace c74:=Bool.eq_false_iff.mpr c74
                     subst c74
                     have H1:(some false)=some r:=by rw [if_neg (show ¬ (false=true) by decide)] at H;exact H
                     exact absurd (H1.trans (congrArg some HT0_.out)) (by simp)
                   ·rw [if_neg c72] at H
                    exact absurd (H.trans (congrArg some HT0_.out)) (by simp)
                  ·rw [if_neg c71] at H
                   exact absurd H (by simp)
                 ·rw [if_neg c70] at H
                  exact absurd (H.trans (congrArg some HT0_.out)) (by simp)
      ·replace c35:=Bool.eq_false_iff.mpr c35
       subst c35
       have H1:(if (t685.length:Int)=0 then (if t686=5 then (if (t689.length:Int)=0 then (if t690=5 then ((nl_awake.f kj11).bind fun t702=>(some t702)) else (some false)) else (some false)) else (some false)) else (some false))=some r:=by rw [if_neg (show ¬ (false=true) by decide)] at H;exact H
       clear H
       have H:=H1
       clear H1
       by_cases c86:(t685.length:Int)=0
       ·rw [if_pos c86] at H
        have c86b0:((t685.length:Int) == 0)=true:=beq_iff_eq.mpr c86
        have c86b1:((t685.length:Int) != 0)=false:=bne_eq_false_iff_eq.mpr c86
        clear c86
        by_cases c87:t686=5
        ·rw [if_pos c87] at H
         have c87b0:(t686 == 5)=true:=beq_iff_eq.mpr c87
         have c87b1:(t686 != 5)=false:=bne_eq_false_iff_eq.mpr c87
         clear c87
         by_cases c88:(t689.length:Int)=0
         ·rw [if_pos c88] at H
          have c88b0:((t689.length:Int) == 0)=true:=beq_iff_eq.mpr c88
          have c88b1:((t689.length:Int) != 0)=false:=bne_eq_false_iff_eq.mpr c88
          clear c88
          by_cases c89:t690=5
          ·rw [if_pos c89] at H
           have c89b0:(t690 == 5)=true:=beq_iff_eq.mpr c89
           have c89b1:(t690 != 5)=false:=bne_eq_false_iff_eq.mpr c89
           clear c89
           replace H:=Option.bind_eq_some_iff.mp H
           obtain ⟨t702,A900,H⟩:=H
           replace H:(some t702)=some r:=H
           have A90:=Aside0.mk A900
           clear A900
           obtain rfl:=Option.some.inj H
           go_wp2_with (first|((with_reducible refine gate_callee (f:=58) rfl ?_);refine goesL_ (some 110) rfl rfl Tryz.func58 (by kernel_rfl) rfl #[.slice Ao15 t681.length co15,.string t684,.int .i64 a2] rfl tM_ ?_;(with_reducible refine (nr_Reach.calls kj11 _ _ t681 t684 a2 t698 false _ ?side1 ?side2 A34.out).mono ?_);(case side1=>repeat (first|exact (Kd.R_reads' HO_7.out).2.2|(with_reducible refine Kd.C_alloc ?_ _)|(with_reducible refine Kd.C_drewN ?_ _)|(with_reducible refine Kd.C_drew ?_)));(case side2=>exact (Kd.R_reads' HO_7.out).2.1);rintro e w91 ⟨v699,rfl,ho0,hb⟩;refine ⟨_,rfl,?_⟩;have n0_:=Aside0.mk (Kd.R_below (tR_ HO_7) hb);have n1_:=Aside0.mk (Kd.R_below (tR_ HO_9) hb);have n2_:=Aside0.mk (Kd.R_below (tR_ HO_11) hb);have n3_:=Aside0.mk (Kd.N_lower (Kd.N_mono (ok':=fun k_=>some k_≠(.slice Ao15 t681.length co15:Value).ownBlock∧some k_≠(v687:Value).ownBlock∧some k_≠(v691:Value).ownBlock) ho0 (fun k_ hk_=>⟨(Kd.fresh' (Kd.R_lt (tR_ HO_7)) k_ hk_),(Kd.fresh' (Kd.R_lt (tR_ HO_9)) k_ hk_),(Kd.fresh' (Kd.R_lt (tR_ HO_11)) k_ hk_)⟩)) (below_size (tB_ HB)));have n4_:=Aside0.mk (below_step (tB_ HB) hb);clear HO_7;clear HO_9;clear HO_11;clear HB;have HO_7:=n0_;have HO_9:=n1_;have HO_11:=n2_;have HO700:=n3_;have HB:=n4_;clear n0_ n1_ n2_ n3_ n4_;(try clear hb);(try clear hb2);(try clear hk);(try clear hi);(try clear ho0);obtain ⟨Ao92,co92,eo92⟩:=Kd.R_slice HO_9.out;subst eo92;obtain ⟨Ao93,co93,eo93⟩:=Kd.R_slice HO_11.out;subst eo93)|(go_at_call 24;(with_reducible refine (nl_awake.calls kj11  t702 _ A90.out).mono ?_);rintro e w94 ⟨rfl,hb⟩;have n0_:=Aside0.mk (Kd.R_below (tR_ HO_7) hb);have n1_:=Aside0.mk (Kd.R_below (tR_ HO_9) hb);have n2_:=Aside0.mk (Kd.R_below (tR_ HO_11) hb);have n3_:=Aside0.mk (Kd.N_below (by (with_reducible repeat (first|apply Kd.N_alloc|apply Kd.N_drewN|apply Kd.N_drew));exact HO700.out) hb);have n4_:=Aside0.mk (below_step (tB_ HB) hb);clear HO_7;clear HO_9;clear HO_11;clear HO700;clear HB;have HO_7:=n0_;have HO_9:=n1_;have HO_11:=n2_;have HO700:=n3_;have HB:=n4_;clear n0_ n1_ n2_ n3_ n4_;(try clear hb);(try clear hb2);(try clear hk);(try clear hi)))
           go_ret
           exact ⟨tE_,tB_ HB⟩
          ·rw [if_neg c89] at H
           exact absurd (H.trans (congrArg some HT0_.out)) (by simp)
         ·rw [if_neg c88] at H
          exact absurd (H.trans (congrArg some HT0_.out)) (by simp)
        ·rw [if_neg c87] at H
         exact absurd (H.trans (congrArg some HT0_.out)) (by simp)
       ·rw [if_neg c86] at H
        exact absurd (H.trans (congrArg some HT0_.out)) (by simp)
  ·replace c11:=Bool.eq_false_iff.mpr c11
   subst c11
   have H1:(if (t685.length:Int)=0 then (if t686=4 then (if (t689.length:Int)=0 then (if t690=4 then ((nl_awake.f k).bind fun t696=>(some t696)) else (some false)) else (some false)) else (some false)) else (some false))=some r:=by rw [if_neg (show ¬ (false=true) by decide)] at H;exact H
   clear H
   have H:=H1
   clear H1
   by_cases c105:(t685.length:Int)=0
   ·rw [if_pos c105] at H
    have c105b0:((t685.length:Int) == 0)=true:=beq_iff_eq.mpr c105
    have c105b1:((t685.length:Int) != 0)=false:=bne_eq_false_iff_eq.mpr c105
    clear c105
    by_cases c106:t686=4
    ·rw [if_pos c106] at H
     have c106b0:(t686 == 4)=true:=beq_iff_eq.mpr c106
     have c106b1:(t686 != 4)=false:=bne_eq_false_iff_eq.mpr c106
     clear c106
     by_cases c107:(t689.length:Int)=0
     ·rw [if_pos c107] at H
      have c107b0:((t689.length:Int) == 0)=true:=beq_iff_eq.mpr c107
      have c107b1:((t689.length:Int) != 0)=false:=bne_eq_false_iff_eq.mpr c107
      clear c107
      by_cases c108:t690=4
      ·rw [if_pos c108] at H
       have c108b0:(t690 == 4)=true:=beq_iff_eq.mpr c108
       have c108b1:(t690 != 4)=false:=bne_eq_false_iff_eq.mpr c108
       clear c108
       replace H:=Option.bind_eq_some_iff.mp H
       obtain ⟨t696,A1090,H⟩:=H
       replace H:(some t696)=some r:=H
       have A109:=Aside0.mk A1090
       clear A1090
       obtain rfl:=Option.some.inj H
       go_enter Tryz.func15,Tryz.ntmps15
       go_wp2_with (first|((with_reducible refine gate_callee (f:=28) rfl ?_);refine goesL_ (some 20) rfl rfl Tryz.func28 (by kernel_rfl) rfl #[.slice A0 l0.length c0] rfl tM_ ?_;(with_reducible refine (nl_laws.calls k _ _ l0 t681 _ ?side1 ?side2 A4.out).mono ?_);(case side1=>repeat (first|exact HR0.out|(with_reducible refine Kd.C_alloc ?_ _)|(with_reducible refine Kd.C_drewN ?_ _)|(with_reducible refine Kd.C_drew ?_)));(case side2=>exact HC0.out);rintro e w110 ⟨v682,rfl,ho0,hb⟩;refine ⟨_,rfl,?_⟩;have n0_:=Aside0.mk (Kd.R_lower ho0 (below_size (tB_ HB)));have n1_:=Aside0.mk (below_step (tB_ HB) hb);clear HB;have HO683:=n0_;have HB:=n1_;clear n0_ n1_;(try clear hb);(try clear hb2);(try clear hk);(try clear hi);(try clear ho0))|((with_reducible refine gate_callee (f:=21) rfl ?_);refine goesL_ (some 22) rfl rfl Tryz.func21 (by kernel_rfl) rfl #[.string a1] rfl tM_ ?_;(with_reducible refine (nl_short.calls a1 t684 _ A5.out).mono ?_);rintro e w111 ⟨rfl,hb⟩;refine ⟨_,rfl,?_⟩;have n0_:=Aside0.mk (Kd.R_below (tR_ HO683) hb);have n1_:=Aside0.mk (below_step (tB_ HB) hb);clear HO683;clear HB;have HO683:=n0_;have HB:=n1_;clear n0_ n1_;(try clear hb);(try clear hb2);(try clear hk);(try clear hi);obtain ⟨Ao112,co112,eo112⟩:=Kd.R_slice HO683.out;subst eo112)|((with_reducible refine gate_callee (f:=56) rfl ?_);refine goesL_ (some 27) rfl rfl Tryz.func56 (by kernel_rfl) rfl #[.slice Ao112 t681.length co112,.string t684,.int .i64 a2] rfl tM_ ?_;(with_reducible refine (rules_Reach.calls _ _ t681 t684 a2 t685 t686 _ ?side1 ?side2 A6.out).mono ?_);(case side1=>repeat (first|exact (Kd.R_reads' HO683.out).2.2|(with_reducible refine Kd.C_alloc ?_ _)|(with_reducible refine Kd.C_drewN ?_ _)|(with_reducible refine Kd.C_drew ?_)));(case side2=>exact (Kd.R_reads' HO683.out).2.1);rintro e w113 ⟨v687,rfl,ho0,hb⟩;refine ⟨_,rfl,?_⟩;have n0_:=Aside0.mk (Kd.R_below (tR_ HO683) hb);have n1_:=Aside0.mk (Kd.R_lower ho0 (below_size (tB_ HB)));have n2_:=Aside0.mk (below_step (tB_ HB) hb);clear HO683;clear HB;have HO683:=n0_;have HO688:=n1_;have HB:=n2_;clear n0_ n1_ n2_;(try clear hb);(try clear hb2);(try clear hk);(try clear hi);(try clear ho0))|((with_reducible refine gate_callee (f:=57) rfl ?_);refine goesL_ (some 34) rfl rfl Tryz.func57 (by kernel_rfl) rfl #[.slice Ao112 t681.length co112,.string t684,.int .i64 a2] rfl tM_ ?_;(with_reducible refine (rules_Loop.calls _ _ t681 t684 a2 t689 t690 _ ?side1 ?side2 A7.out).mono ?_);(case side1=>repeat (first|exact (Kd.R_reads' HO683.out).2.2|(with_reducible refine Kd.C_alloc ?_ _)|(with_reducible refine Kd.C_drewN ?_ _)|(with_reducible refine Kd.C_drew ?_)));(case side2=>exact (Kd.R_reads' HO683.out).2.1);rintro e w114 ⟨v691,rfl,ho0,hb⟩;refine ⟨_,rfl,?_⟩;have n0_:=Aside0.mk (Kd.R_below (tR_ HO683) hb);have n1_:=Aside0.mk (Kd.R_elder' (tR_ HO688) (Kd.R_base ho0) hb);have n2_:=Aside0.mk (Kd.R_lower (Kd.R_new' ho0 (Kd.R_lt (tR_ HO688))) (below_size (tB_ HB)));have n3_:=Aside0.mk (below_step (tB_ HB) hb);clear HO683;clear HO688;clear HB;have HO683:=n0_;have HO688:=n1_;have HO692:=n2_;have HB:=n3_;clear n0_ n1_ n2_ n3_;(try clear hb);(try clear hb2);(try clear hk);(try clear hi);(try clear ho0))|((with_reducible refine gate_callee (f:=31) rfl ?_);refine goesL_ (some 38) rfl rfl Tryz.func31 (by kernel_rfl) rfl #[.slice Ao112 t681.length co112] rfl tM_ ?_;(with_reducible refine (nr_Rules.calls k _ _ t681 true _ ?side1 ?side2 A8.out).mono ?_);(case side1=>repeat (first|exact (Kd.R_reads' HO683.out).2.2|(with_reducible refine Kd.C_alloc ?_ _)|(with_reducible refine Kd.C_drewN ?_ _)|(with_reducible refine Kd.C_drew ?_)));(case side2=>exact (Kd.R_reads' HO683.out).2.1);rintro e w' ⟨rfl,⟨nd,rfl⟩⟩;refine ⟨_,rfl,?_⟩)|((with_reducible refine gate_callee (f:=25) rfl ?_);refine goesL_ (some 60) rfl rfl Tryz.func25 (by kernel_rfl) rfl #[.string t684] rfl tM_ ?_;(with_reducible refine (nr_Term.calls k t684 false _ A10.out).mono ?_);rintro e w' ⟨rfl,⟨nd,rfl⟩⟩;refine ⟨_,rfl,?_⟩;obtain ⟨Ao115,co115,eo115⟩:=Kd.R_slice HO688.out;subst eo115;obtain ⟨Ao116,co116,eo116⟩:=Kd.R_slice HO692.out;subst eo116)|(go_at_call 24;(with_reducible refine (nl_awake.calls k  t696 _ A109.out).mono ?_);rintro e w117 ⟨rfl,hb⟩;have n0_:=Aside0.mk (Kd.R_below (tR_ HO683) hb);have n1_:=Aside0.mk (Kd.R_below (tR_ HO688) hb);have n2_:=Aside0.mk (Kd.R_below (tR_ HO692) hb);have n3_:=Aside0.mk (below_step (tB_ HB) hb);clear HO683;clear HO688;clear HO692;clear HB;have HO683:=n0_;have HO688:=n1_;have HO692:=n2_;have HB:=n3_;clear n0_ n1_ n2_ n3_;(try clear hb);(try clear hb2);(try clear hk);(try clear hi)))
       go_ret
       exact ⟨tE_,tB_ HB⟩
      ·rw [if_neg c108] at H
       exact absurd (H.trans (congrArg some HT0_.out)) (by simp)
     ·rw [if_neg c107] at H
      exact absurd (H.trans (congrArg some HT0_.out)) (by simp)
    ·rw [if_neg c106] at H
     exact absurd (H.trans (congrArg some HT0_.out)) (by simp)
   ·rw [if_neg c105] at H
    exact absurd (H.trans (congrArg some HT0_.out)) (by simp)
 ·replace c9:=Bool.eq_false_iff.mpr c9
  subst c9
  have H1:(if (t685.length:Int)=0 then (if t686=2 then (if (t689.length:Int)=0 then (if t690=2 then ((nl_awake.f k).bind fun t694=>(some t694)) else (some false)) else (some false)) else (some false)) else (some false))=some r:=by rw [if_neg (show ¬ (false=true) by decide)] at H;exact H
  clear H
  have H:=H1
  clear H1
  by_cases c144:(t685.length:Int)=0
  ·rw [if_pos c144] at H
   have c144b0:((t685.length:Int) == 0)=true:=beq_iff_eq.mpr c144
   have c144b1:((t685.length:Int) != 0)=false:=bne_eq_false_iff_eq.mpr c144
   clear c144
   by_cases c145:t686=2
   ·rw [if_pos c145] at H
    have c145b0:(t686 == 2)=true:=beq_iff_eq.mpr c145
    have c145b1:(t686 != 2)=false:=bne_eq_false_iff_eq.mpr c145
    clear c145
    by_cases c146:(t689.length:Int)=0
    ·rw [if_pos c146] at H
     have c146b0:((t689.length:Int) == 0)=true:=beq_iff_eq.mpr c146
     have c146b1:((t689.length:Int) != 0)=false:=bne_eq_false_iff_eq.mpr c146
     clear c146
     by_cases c147:t690=2
     ·rw [if_pos c147] at H
      have c147b0:(t690 == 2)=true:=beq_iff_eq.mpr c147
      have c147b1:(t690 != 2)=false:=bne_eq_false_iff_eq.mpr c147
      clear c147
      replace H:=Option.bind_eq_some_iff.mp H
      obtain ⟨t694,A1480,H⟩:=H
      replace H:(some t694)=some r:=H
      have A148:=Aside0.mk A1480
      clear A1480
      obtain rfl:=Option.some.inj H
      go_enter Tryz.func15,Tryz.ntmps15
      go_wp2_with (first|((with_reducible refine gate_callee (f:=28) rfl ?_);refine goesL_ (some 20) rfl rfl Tryz.func28 (by kernel_rfl) rfl #[.slice A0 l0.length c0] rfl tM_ ?_;(with_reducible refine (nl_laws.calls k _ _ l0 t681 _ ?side1 ?side2 A4.out).mono ?_);(case side1=>repeat (first|exact HR0.out|(with_reducible refine Kd.C_alloc ?_ _)|(with_reducible refine Kd.C_drewN ?_ _)|(with_reducible refine Kd.C_drew ?_)));(case side2=>exact HC0.out);rintro e w149 ⟨v682,rfl,ho0,hb⟩;refine ⟨_,rfl,?_⟩;have n0_:=Aside0.mk (Kd.R_lower ho0 (below_size (tB_ HB)));have n1_:=Aside0.mk (below_step (tB_ HB) hb);clear HB;have HO683:=n0_;have HB:=n1_;clear n0_ n1_;(try clear hb);(try clear hb2);(try clear hk);(try clear hi);(try clear ho0))|((with_reducible refine gate_callee (f:=21) rfl ?_);refine goesL_ (some 22) rfl rfl Tryz.func21 (by kernel_rfl) rfl #[.string a1] rfl tM_ ?_;(with_reducible refine (nl_short.calls a1 t684 _ A5.out).mono ?_);rintro e w150 ⟨rfl,hb⟩;refine ⟨_,rfl,?_⟩;have n0_:=Aside0.mk (Kd.R_below (tR_ HO683) hb);have n1_:=Aside0.mk (below_step (tB_ HB) hb);clear HO683;clear HB;have HO683:=n0_;have HB:=n1_;clear n0_ n1_;(try clear hb);(try clear hb2);(try clear hk);(try clear hi);obtain ⟨Ao151,co151,eo151⟩:=Kd.R_slice HO683.out;subst eo151)|((with_reducible refine gate_callee (f:=56) rfl ?_);refine goesL_ (some 27) rfl rfl Tryz.func56 (by kernel_rfl) rfl #[.slice Ao151 t681.length co151,.string t684,.int .i64 a2] rfl tM_ ?_;(with_reducible refine (rules_Reach.calls _ _ t681 t684 a2 t685 t686 _ ?side1 ?side2 A6.out).mono ?_);(case side1=>repeat (first|exact (Kd.R_reads' HO683.out).2.2|(with_reducible refine Kd.C_alloc ?_ _)|(with_reducible refine Kd.C_drewN ?_ _)|(with_reducible refine Kd.C_drew ?_)));(case side2=>exact (Kd.R_reads' HO683.out).2.1);rintro e w152 ⟨v687,rfl,ho0,hb⟩;refine ⟨_,rfl,?_⟩;have n0_:=Aside0.mk (Kd.R_below (tR_ HO683) hb);have n1_:=Aside0.mk (Kd.R_lower ho0 (below_size (tB_ HB)));have n2_:=Aside0.mk (below_step (tB_ HB) hb);clear HO683;clear HB;have HO683:=n0_;have HO688:=n1_;have HB:=n2_;clear n0_ n1_ n2_;(try clear hb);(try clear hb2);(try clear hk);(try clear hi);(try clear ho0))|((with_reducible refine gate_callee (f:=57) rfl ?_);refine goesL_ (some 34) rfl rfl Tryz.func57 (by kernel_rfl) rfl #[.slice Ao151 t681.length co151,.string t684,.int .i64 a2] rfl tM_ ?_;(with_reducible refine (rules_Loop.calls _ _ t681 t684 a2 t689 t690 _ ?side1 ?side2 A7.out).mono ?_);(case side1=>repeat (first|exact (Kd.R_reads' HO683.out).2.2|(with_reducible refine Kd.C_alloc ?_ _)|(with_reducible refine Kd.C_drewN ?_ _)|(with_reducible refine Kd.C_drew ?_)));(case side2=>exact (Kd.R_reads' HO683.out).2.1);rintro e w153 ⟨v691,rfl,ho0,hb⟩;refine ⟨_,rfl,?_⟩;have n0_:=Aside0.mk (Kd.R_below (tR_ HO683) hb);have n1_:=Aside0.mk (Kd.R_elder' (tR_ HO688) (Kd.R_base ho0) hb);have n2_:=Aside0.mk (Kd.R_lower (Kd.R_new' ho0 (Kd.R_lt (tR_ HO688))) (below_size (tB_ HB)));have n3_:=Aside0.mk (below_step (tB_ HB) hb);clear HO683;clear HO688;clear HB;have HO683:=n0_;have HO688:=n1_;have HO692:=n2_;have HB:=n3_;clear n0_ n1_ n2_ n3_;(try clear hb);(try clear hb2);(try clear hk);(try clear hi);(try clear ho0))|((with_reducible refine gate_callee (f:=31) rfl ?_);refine goesL_ (some 38) rfl rfl Tryz.func31 (by kernel_rfl) rfl #[.slice Ao151 t681.length co151] rfl tM_ ?_;(with_reducible refine (nr_Rules.calls k _ _ t681 false _ ?side1 ?side2 A8.out).mono ?_);(case side1=>repeat (first|exact (Kd.R_reads' HO683.out).2.2|(with_reducible refine Kd.C_alloc ?_ _)|(with_reducible refine Kd.C_drewN ?_ _)|(with_reducible refine Kd.C_drew ?_)));(case side2=>exact (Kd.R_reads' HO683.out).2.1);rintro e w' ⟨rfl,⟨nd,rfl⟩⟩;refine ⟨_,rfl,?_⟩;obtain ⟨Ao154,co154,eo154⟩:=Kd.R_slice HO688.out;subst eo154;obtain ⟨Ao155,co155,eo155⟩:=Kd.R_slice HO692.out;subst eo155)|(go_at_call 24;(with_reducible refine (nl_awake.calls k  t694 _ A148.out).mono ?_);rintro e w156 ⟨rfl,hb⟩;have n0_:=Aside0.mk (Kd.R_below (tR_ HO683) hb);have n1_:=Aside0.mk (Kd.R_below (tR_ HO688) hb);have n2_:=Aside0.mk (Kd.R_below (tR_ HO692) hb);have n3_:=Aside0.mk (below_step (tB_ HB) hb);clear HO683;clear HO688;clear HO692;clear HB;have HO683:=n0_;have HO688:=n1_;have HO692:=n2_;have HB:=n3_;clear n0_ n1_ n2_ n3_;(try clear hb);(try clear hb2);(try clear hk);(try clear hi)))
      go_ret
      exact ⟨tE_,tB_ HB⟩
     ·rw [if_neg c147] at H
      exact absurd (H.trans (congrArg some HT0_.out)) (by simp)
    ·rw [if_neg c146] at H
     exact absurd (H.trans (congrArg some HT0_.out)) (by simp)
   ·rw [if_neg c145] at H
    exact absurd (H.trans (congrArg some HT0_.out)) (by simp)
  ·rw [if_neg c144] at H
   exact absurd (H.trans (congrArg some HT0_.out)) (by simp)
end Go.Proofs.YtaafeallcaiooaaGreat.Pr
