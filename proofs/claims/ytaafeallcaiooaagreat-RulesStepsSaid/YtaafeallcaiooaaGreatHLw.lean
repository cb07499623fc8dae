/- newLaws: the rules, or an error. -/
import Derived.Test.YtaafeallcaiooaaGreatHLe
namespace Go.Proofs.YtaafeallcaiooaaGreat.Pr
open Go.RowKit Go.Maps Go.Proofs.Zw Go.Proofs.Zl Go.Proofs.Zm
set_option linter.unusedVariables false
set_option linter.unusedSimpArgs false
theorem pL_goods {f:ByteArray→Int→Option (Tm × ByteArray × Int)} (hf:∀ s n t s' n',f s n=some (t,s',n')→t.good∧n+t.size=n'):∀ m i s n l s' n',pL f m i s n=some (l,s',n')→Tm.goods l∧n+Tm.sizes l=n'
 | 0,i,s,n,l,s',n',h=>by
  rw [pL] at h
  injection h with h
  injection h with h1 h2
  injection h2 with h2 h3
  subst h1 h3
  rw [Tm.goods,Tm.sizes]
  exact ⟨trivial,by omega⟩
 | m+1,i,s,n,l,s',n',h=>by
  rw [pL] at h
  split at h
  ·cases hr:f (tlB s) n with
   | none=>rw [hr] at h;cases h
   | some r =>
    obtain ⟨t,s2,n2⟩:=r
    rw [hr,Option.bind_some] at h
    cases hr2:pL f m (i+1) s2 n2 with
    | none=>rw [hr2] at h;cases h
    | some r2 =>
     obtain ⟨l2,s3,n3⟩:=r2
     rw [hr2] at h
     injection h with h
     injection h with h1 h2
     injection h2 with h2 h3
     have a:=hf _ _ _ _ _ hr
     have b:=pL_goods hf m (i+1) s2 n2 l2 s3 n3 hr2
     subst h1 h3
     rw [Tm.goods,Tm.sizes]
     dsimp only at a b ⊢
     exact ⟨⟨a.1,b.1⟩,by omega⟩
  ·cases h
theorem pT_good:∀ q s n t s' n',pT q s n=some (t,s',n')→t.good∧n+t.size=n'
 | 0,s,n,t,s',n',h=>by cases h
 | q+1,s,n,t,s',n',h=>by
  rw [pT] at h
  split at h
  ·cases h
  ·split at h
   ·rename_i hv
    injection h with h
    injection h with h1 h2
    injection h2 with h2 h3
    subst h1
    rw [Tm.good,Tm.size]
    exact ⟨hv,by omega⟩
   ·split at h
    ·rename_i hl
     have hnp:0≤nParts (hdB s):=by unfold nParts;omega
     cases hr:pL (pT q) (nParts (hdB s)).toNat 0 (tlB s) (n+1) with
     | none=>rw [hr] at h;cases h
     | some r =>
      obtain ⟨l,s2,n2⟩:=r
      have a:=pL_goods (pT_good q) _ _ _ _ _ _ _ hr
      have b:=pL_n (pT_n q) _ _ _ _ _ _ _ hr
      rw [hr,Option.bind_some] at h
      dsimp only at h
      have hgo:Tm.good (.app (hdB s) l)∧n+(Tm.app (hdB s) l).size=n2:=by
       rw [Tm.good,Tm.size]
       exact ⟨⟨hl,by omega,a.1⟩,by omega⟩
      split at h
      ·split at h
       ·injection h with h
        injection h with h1 h2
        injection h2 with h2 h3
        subst h1 h3
        exact hgo
       ·cases h
      ·injection h with h
       injection h with h1 h2
       injection h2 with h2 h3
       subst h1 h3
       exact hgo
    ·cases h
theorem readT_good {s:ByteArray} {t:Tm} (h:readT s=some t):t.good∧t.size≤60:=by
 unfold readT at h
 cases hp:pT 61 s 0 with
 | none=>rw [hp] at h;cases h
 | some r =>
  obtain ⟨t2,s2,n2⟩:=r
  rw [hp,Option.bind_some] at h
  dsimp only at h
  split at h
  ·injection h with h
   subst h
   have a:=pT_good _ _ _ _ _ _ hp
   have b:=pT_n _ _ _ _ _ _ hp
   exact ⟨a.1,by omega⟩
  ·cases h
set_option maxRecDepth 100000 in
theorem guard_keeps (F:Nat) (he:Enters Tryz.prog F) (cap:Array Value) (w:World) (Q:Int→World→Prop)
  (h:Calls Tryz.prog F cap (w.alloc (.cells #[.int .i64 0] 26)) fun e w1=>w1.heap[w.heap.size]?=some (.cells #[.int .i64 0] 26 (0,0))∧((e=.returned (.tuple #[])∧Q 0 w1)∨∃ c,e=troubled c∧Q c w1)) :
  Calls Tryz.prog 65 #[.func (.func F) #[] cap] w fun e w'=>∃ c w1,e=.returned (.int .i64 c)∧Q c w1∧But w.heap.size w1 w':=by
 have hmf:∀ (fn:Fn) (first cap:Array Value) (w:World),(Instr.makeFunc fn first cap).run Tryz.prog w=.ok (.func fn first cap) w:=fun _ _ _ _=>rfl
 have he2:∀ args w,(callFunc F args).run Tryz.prog w=.ok (.enter F args) w:=he
 go_enter_defers Tryz.func65,Tryz.ntmps65
 go_wp2_with (refine h.mono ?_;rintro e w1 ⟨hk,hq⟩;have hc:w1.cell? ⟨w.heap.size,0,none⟩=some (.int .i64 0):=blk_cell hk 0;have hz:w1.frozen? ⟨w.heap.size,0,none⟩=false:=(by simp [World.frozen?,hk]);rcases hq with ⟨rfl,hq⟩|⟨c,rfl,hq⟩)
 ·refine leaves_cons (f:=116) (args:=#[.pointer (some ⟨w.heap.size,0,none⟩)]) (by simp) (by simp [go_sem]) ?_
  refine (catch_idle ⟨w.heap.size,0,none⟩ _).mono ?_
  rintro e u' w'' ⟨rfl,rfl,rfl⟩
  have hcc:(w1.setCell ⟨w.heap.size,0,none⟩ (.int .i64 0)).cell? ⟨w.heap.size,0,none⟩=some (.int .i64 0):=World.cell?_setCell_same' w1 _ _ (by rw [hc];rfl)
  simp [Leaves,settle,results,Tryz.results65,go_sem,hcc]
  exact ⟨w1,hq,But.set w1 0 _⟩
 ·have hlt:=(gl_ hk)
  have hh2:=blk_setCell hk (.int .i64 c)
  refine leaves_cons (f:=116) (args:=#[.pointer (some ⟨w.heap.size,0,none⟩)]) (by simp) (by simp [go_sem]) ?_
  refine (catch_panicking w.heap.size 0 c [] _ hk).mono ?_
  rintro e u' w'' ⟨rfl,rfl,rfl⟩
  have hcc:=blk_cell (blk_alloc hh2 (.cells #[.int .i64 c] 156)) 0
  simp only [List.getElem?_toArray] at hcc
  simp [Leaves,settle,results,Tryz.results65,go_sem,hcc]
  exact ⟨_,hq,(But.set w1 0 _).trans (But.of_below (below_alloc (Below.refl _ _) _))⟩
def readL (L R:ByteArray):Option (Tm × Tm):=(readT L).bind fun a=>(readT R).map fun b=>(a,b)
def OutL (lb:Nat) (w:World) (R:Option (Tm × Tm)) (e:Ending) (w':World):Prop :=
 match R with
 | none=>e=troubled 4∧Below w.heap.size w w'
 | some r=>e=.returned (.tuple #[])∧But lb w w'∧∃ p q,w'.heap[lb]?=some (.cells #[encI p,encI q] 144 (0,0))∧Has w' (fun k=>w.heap.size≤k) r.1 p∧Has w' (fun k=>w.heap.size≤k) r.2 q
set_option maxRecDepth 100000 in
set_option maxHeartbeats 1000000 in
theorem law1_calls (r lb:Nat) (L R:ByteArray) (w:World) (hr:w.heap[r]?=some (.cells #[.string L,.string R] 94 (0,0))) (hlb:w.heap[lb]?=some (.cells #[.nilIface,.nilIface] 144 (0,0))) :
  Calls Tryz.prog 120 #[.pointer (some ⟨r,0,none⟩),.pointer (some ⟨lb,0,none⟩)] w (OutL lb w (readL L R)):=by
 have hrl:=(gl_ hr)
 have hll:=(gl_ hlb)
 have hN:Aside0 (∀ w',(readT L=none∨readT R=none)→Below w.heap.size w w'→OutL lb w (readL L R) (troubled 4) w'):=⟨by
  intro w' h hb
  have:readL L R=none:=by
   unfold readL
   rcases h with h|h
   ·rw [h];rfl
   ·rw [h];cases readT L<;>rfl
  rw [this]
  exact ⟨rfl,hb⟩⟩
 have hY:Aside0 (∀ a b w',readT L=some a→readT R=some b→OutL lb w (some (a,b)) (.returned (.tuple #[])) w'→OutL lb w (readL L R) (.returned (.tuple #[])) w'):=⟨by
  intro a b w' h1 h2 h
  have:readL L R=some (a,b):=by
   unfold readL
   rw [h1,h2];rfl
  rw [this]
  exact h⟩
 generalize readL L R=RR at *
 go_enter Tryz.func120,Tryz.ntmps120
 go_wp2
 refine start_ (n:=8) (S:=fun w'=>w'.cell? ⟨r,0,none⟩=some (.string L)∧w'.cell? ⟨r,1,none⟩=some (.string R)) (ds:=[7]) (bm 8 0) (by kernel_rfl) rfl rfl ⟨(blk_cell (blk_drew hr) 0),(blk_cell (blk_drew hr) 1)⟩ (fun hHeld=>?_)
 refine pk_ 0 2 (bm 8 1) ?_
 refine pk_ 3 5 (bm 8 9) ?_
 refine take_ (i:=1) (N:=some 3) (v:=?_) (a':=?_) (bm 8 11) rfl rfl (by kernel_rfl) (fun _ _ _ h=>h) (Or.inl ⟨by rfl,?_⟩) hHeld ?_ ?_;rotate_left;(rintro w' ⟨s0,s1⟩;go_simp;with_reducible rfl);rotate_left;exact tP_
 refine take_ (i:=4) (N:=some 6) (v:=?_) (a':=?_) (bm 8 27) rfl rfl (by kernel_rfl) (fun _ _ _ h=>h) (Or.inl ⟨by rfl,?_⟩) hHeld ?_ ?_;rotate_left;(rintro w' ⟨s0,s1⟩;go_simp;with_reducible rfl);rotate_left;exact tP_
 refine one_ (i:=2) (N:=some 4) (bm 8 31) rfl rfl (by kernel_rfl) (by decide) (fun K hK=>?_)
 refine goesD_ Tryz.func69 (by kernel_rfl) rfl #[.string L] (by rfl) rfl rfl (by simp only [List.map_toArray,List.map_cons,List.map_nil];rfl) ?_
 refine (read_calls (fun k=>w.heap.size≤k) L w.drew (fun k hk=>hk)).mono ?_
 rintro e wa hh1
 rcases hL:readT L with _|a
 ·rw [hL] at hh1
  obtain ⟨hb1,rfl⟩:=hh1
  refine .inr ⟨_,rfl,?_⟩
  have hbq:Below w.heap.size w wa:=⟨hb1.os,hb1.tape,hb1.output,hb1.size,hb1.block⟩
  exact ⟨rfl,hN.out _ (Or.inl hL) hbq⟩
 rw [hL] at hh1
 obtain ⟨hb1,⟨t1,p1⟩,rfl,hp1⟩:=hh1
 refine .inl ⟨.iface t1 p1,rfl,?_⟩
 have hbw1:Below w.heap.size w wa:=⟨hb1.os,hb1.tape,hb1.output,hb1.size,hb1.block⟩
 have hra:=(hbw1.block r hrl).trans hr
 have hc10:=blk_cell hra 0
 have hc11:=blk_cell hra 1
 refine hK.out _ _ ⟨hc10,hc11⟩ (fun hHeld=>?_)
 clear hK K
 refine norm_ (a':=?_) ?_ ?_;rotate_left;(show Act.put _ (some 4) _=_;exact tP_)
 refine one_ (i:=5) (N:=some 7) (bm 8 63) rfl rfl (by kernel_rfl) (by decide) (fun K hK=>?_)
 refine goesD_ Tryz.func69 (by kernel_rfl) rfl #[.string R] (by rfl) rfl rfl (by simp only [List.map_toArray,List.map_cons,List.map_nil];rfl) ?_
 refine (read_calls (fun k=>w.heap.size≤k) R wa (fun k hk=>Nat.le_trans hbw1.size hk)).mono ?_
 rintro e wb hh2
 rcases hR:readT R with _|b
 ·rw [hR] at hh2
  obtain ⟨hb2,rfl⟩:=hh2
  refine .inr ⟨_,rfl,?_⟩
  have hbq:Below w.heap.size w wb:=below_step hbw1 hb2
  exact ⟨rfl,hN.out _ (Or.inr hR) hbq⟩
 rw [hR] at hh2
 obtain ⟨hb2,⟨t2,p2⟩,rfl,hp2⟩:=hh2
 refine .inl ⟨.iface t2 p2,rfl,?_⟩
 have hbw2:Below w.heap.size w wb:=below_step hbw1 hb2
 have hrb:=(hbw2.block r hrl).trans hr
 have hc20:=blk_cell hrb 0
 have hc21:=blk_cell hrb 1
 have hlb2:=(hbw2.block lb hll).trans hlb
 have hcl0:=blk_cell hlb2 0
 have hcl1:=blk_cell hlb2 1
 have hzl0:wb.frozen? ⟨lb,0,none⟩=false:=by simp [World.frozen?,hlb2]
 have hzl1:wb.frozen? ⟨lb,1,none⟩=false:=by simp [World.frozen?,hlb2]
 refine hK.out _ _ ⟨hc20,hc21⟩ (fun hHeld=>?_)
 clear hK K
 refine norm_ (a':=?_) ?_ ?_;rotate_left;(show Act.put _ (some 7) _=_;exact tP_)
 refine pk_ 6 8 (bm 8 127) ?_
 refine last_ (i:=7) (N:=none) (bm 8 255) rfl rfl (by kernel_rfl) (by decide) (fun K hK=>?_)
 refine skip_ (w1:=?_) (by rfl) rfl ?_ ?_
 rotate_left
 ·go_simp
  rfl
 refine hK.out _ _ ?_
 clear hK K
 refine done_ (by kernel_rfl) ?_
 have hlne:∀ k,w.heap.size≤k→k≠lb:=fun k hk=>by omega
 have hbb:But lb wb ((wb.setCell ⟨lb,0,none⟩ (.iface t1 p1)).setCell ⟨lb,1,none⟩ (.iface t2 p2)):=(But.set wb 0 _).trans (But.set _ 1 _)
 have hfin:=hY.out a b ((wb.setCell ⟨lb,0,none⟩ (.iface t1 p1)).setCell ⟨lb,1,none⟩ (.iface t2 p2)) hL hR ⟨rfl,(But.of_below hbw2).trans hbb,(t1,p1),(t2,p2),(blk_set2 (blk_set2 hlb2 (.iface t1 p1)).1 _).2,(hp1.below hb2).but hbb hlne,hp2.but hbb hlne⟩
 simp [bodyPost,results,Tryz.results120]
 exact hfin
def kLw:Kd ((Nat × Value) × (Nat × Value)):=Kd.pair kI kI
theorem info144:(Tryz.prog.info? 144).map (fun i=>(i.zero,i.size,i.bytes))=some (some (.agg #[.nilIface,.nilIface]),2,32):=by kernel_rfl
theorem kLw_open {w:World} {x:(Nat × Value) × (Nat × Value)} {cs:List Value} (h:kLw.K w x cs):cs=[encI x.1,encI x.2]:=by
 obtain ⟨_,_,rfl,rfl,rfl⟩:=h
 exact rfl
theorem kLw_mkM (w:World) (base:Nat) (ok:Nat→Prop) (x:(Nat × Value) × (Nat × Value)):kLw.M w base ok x [encI x.1,encI x.2]:=⟨[encI x.1],[encI x.2],rfl,rfl,rfl⟩
theorem hasW_of_R {w:World} {base:Nat} {okr ok:Nat→Prop} {v:Value} {vs:List ((Nat × Value) × (Nat × Value))} {acc:List (Tm × Tm)} (h:Kd.R kLw 144 w base okr v vs) (hl:acc.length=vs.length) (ht:∀ j (h1:j < acc.length) (h2:j < vs.length),Has w ok acc[j].1 vs[j].1∧Has w ok acc[j].2 vs[j].2) (hk:∀ k,v.ownBlock=some k→ok k) :
  ∃ A cap,v=.slice A acc.length cap∧HasW w ok acc A:=by
 by_cases hz:0 < vs.length
 ·obtain ⟨g,cap,rfl,hb,hlt,cells,hc⟩:=Kd.R_form h hz
  obtain ⟨e1,e2,hC⟩:=Kd.R_reads' h
  refine ⟨some ⟨g,0,none⟩,cap,by rw [hl],fun j hj=>?_⟩
  have hj2:j < vs.length:=by omega
  obtain ⟨ad,c,ea,_,hK,hget⟩:=Kd.C_get hC ((0,.nilIface),(0,.nilIface)) (j:Int) (by omega) (by omega)
  have ea2:ad=⟨g,0,none⟩:=by injection ea with ea;exact ea.symm
  subst ea2
  have hK2:=kLw_open hK
  rw [Int.toNat_natCast,List.getD_eq_getElem?_getD,List.getElem?_eq_getElem hj2] at hK2
  have g0:=hget 0 (encI vs[j].1) (by rw [hK2];rfl)
  have g1:=hget 1 (encI vs[j].2) (by rw [hK2];rfl)
  have h4:∀ m,w.cell? ⟨g,m,none⟩=cells[m]?:=fun m=>blk_cell hc m
  have hsz:kLw.sz=2:=rfl
  rw [hsz] at g0 g1
  simp [Addr.add] at g0 g1
  refine ⟨g,cells,vs[j].1,vs[j].2,rfl,hk g (by simp [Value.ownBlock]),hc,?_,?_,(ht j hj hj2).1,(ht j hj hj2).2⟩
  ·rw [←h4]
   by_cases hj0:j=0
   ·subst hj0
    simpa using g0
   ·rw [if_neg (by omega)] at g0
    exact g0
  ·rw [←h4]
   simpa using g1
 ·have e0:vs=[]:=List.length_eq_zero_iff.1 (by omega)
  subst e0
  have e1:acc=[]:=List.length_eq_zero_iff.1 (by simpa using hl)
  subst e1
  obtain ⟨A,c,rfl⟩:=Kd.R_slice h
  exact ⟨A,c,rfl,fun j hj=>absurd hj (by simp)⟩
def isV:Tm→Bool
 | .var _=>true
 | .app _ _=>false
def okVar (a b:Tm) (c:Int):Bool:=!occT c b || occT c a
def okLaw (a b:Tm):Bool:=!isV a && (decide (a.size≤12) && (decide (b.size≤12) && (okVar a b 120 && (okVar a b 121 && okVar a b 122))))
def lawT (x:S94):Option (Tm × Tm):=(readL x.f0 x.f1).bind fun r=>if okLaw r.1 r.2 then some r else none
def lawsT:List S94→Option (List (Tm × Tm))
 | []=>some []
 | x :: xs=>(lawT x).bind fun l=>(lawsT xs).map fun r=>l :: r
def newLawsT (rs:List S94):Option (List (Tm × Tm)):=if rs.length≤6 then lawsT rs else none
theorem lawT_good {x:S94} {l:Tm × Tm} (h:lawT x=some l):l.1.good∧l.2.good∧l.1.size≤12∧l.2.size≤12:=by
 unfold lawT readL at h
 cases ha:readT x.f0 with
 | none=>rw [ha] at h;cases h
 | some a =>
  cases hb:readT x.f1 with
  | none=>rw [ha,hb] at h;cases h
  | some b =>
   rw [ha,hb] at h
   simp only [Option.bind_some,Option.map_some] at h
   split at h
   ·rename_i hk
    injection h with h
    subst h
    unfold okLaw at hk
    simp only [Bool.and_eq_true,decide_eq_true_eq] at hk
    exact ⟨(readT_good ha).1,(readT_good hb).1,hk.2.1,hk.2.2.1⟩
   ·cases h
theorem lawsT_good:∀ {rs:List S94} {ls:List (Tm × Tm)},lawsT rs=some ls→LawsGood ls∧ls.length=rs.length
 | [],ls,h=>by
  rw [lawsT] at h
  injection h with h
  subst h
  exact ⟨fun l hl=>by simp at hl,rfl⟩
 | x :: xs,ls,h=>by
  rw [lawsT] at h
  cases hx:lawT x with
  | none=>rw [hx] at h;cases h
  | some l =>
   rw [hx,Option.bind_some] at h
   cases hr:lawsT xs with
   | none=>rw [hr] at h;cases h
   | some r =>
    rw [hr] at h
    injection h with h
    subst h
    have hi:=lawsT_good hr
    refine ⟨fun l' hl'=>?_,by rw [List.length_cons,List.length_cons,hi.2]⟩
    rcases List.mem_cons.1 hl' with rfl|hl'
    ·exact lawT_good hx
    ·exact hi.1 l' hl'
theorem newLawsT_good {rs:List S94} {ls:List (Tm × Tm)} (h:newLawsT rs=some ls):LawsGood ls∧ls.length≤6:=by
 unfold newLawsT at h
 split at h
 ·have:=lawsT_good h
  exact ⟨this.1,by omega⟩
 ·cases h
theorem lawsT_no {rs:List S94} {acc:List (Tm × Tm)} {i:Nat} {R:Option (List (Tm × Tm))} (hlt:i < rs.length) (h:R=(lawsT (rs.drop i)).map fun r=>acc++r) (hn:lawT rs[i]=none):R=none:=by
 rw [h,List.drop_eq_getElem_cons hlt,lawsT,hn]
 rfl
theorem lawsT_step {rs:List S94} {acc:List (Tm × Tm)} {l:Tm × Tm} {i:Nat} {R:Option (List (Tm × Tm))} (hlt:i < rs.length) (h:R=(lawsT (rs.drop i)).map fun r=>acc++r) (hn:lawT rs[i]=some l):R=(lawsT (rs.drop (i+1))).map fun r=>(acc++[l])++r:=by
 rw [h,List.drop_eq_getElem_cons hlt,lawsT,hn,Option.bind_some]
 cases lawsT (rs.drop (i+1)) with
 | none=>rfl
 | some r=>simp
theorem snocW {w3 w6:World} {ok:Nat→Prop} {v v6:Value} {acc:List (Tm × Tm)} {vs:List ((Nat × Value) × (Nat × Value))} {t:Tm × Tm} {p:(Nat × Value) × (Nat × Value)} (hl:acc.length=vs.length) (hT:∀ j (h1:j < acc.length) (h2:j < vs.length),Has w3 (fun k=>ok k∧some k≠v.ownBlock) acc[j].1 vs[j].1∧Has w3 (fun k=>ok k∧some k≠v.ownBlock) acc[j].2 vs[j].2) (hp:Has w3 (fun k=>ok k∧some k≠v.ownBlock) t.1 p.1∧Has w3 (fun k=>ok k∧some k≠v.ownBlock) t.2 p.2)
  (hg:w3.grownBy w6 v.ownBlock) (hat:v6.ownBlock=v.ownBlock∨∃ b,v6.ownBlock=some b∧w3.heap.size≤b):∀ j (h1:j < (acc++[t]).length) (h2:j < (vs++[p]).length),Has w6 (fun k=>ok k∧some k≠v6.ownBlock) (acc++[t])[j].1 (vs++[p])[j].1∧Has w6 (fun k=>ok k∧some k≠v6.ownBlock) (acc++[t])[j].2 (vs++[p])[j].2:=by
 have hst:∀ {t':Tm} {p':Nat × Value},Has w3 (fun k=>ok k∧some k≠v.ownBlock) t' p'→Has w6 (fun k=>ok k∧some k≠v6.ownBlock) t' p':=by
  intro t' p' hh
  refine Has.step (fun k hk hl=>⟨⟨hk.1,?_⟩,hg.block k hl hk.2⟩) hh
  intro e
  rcases hat with h6|⟨b,h6,h7⟩
  ·exact hk.2 (e.trans h6)
  ·rw [h6] at e
   injection e with e
   omega
 intro j h1 h2
 by_cases hj:j < acc.length
 ·have hj2:j < vs.length:=by omega
  rw [List.getElem_append_left hj,List.getElem_append_left hj2]
  exact ⟨hst (hT j hj hj2).1,hst (hT j hj hj2).2⟩
 ·have hj1:j=acc.length:=by rw [List.length_append] at h1;simp at h1;omega
  have hj2:j=vs.length:=by omega
  rw [List.getElem_append_right (by omega),List.getElem_append_right (by omega)]
  simp only [hj1,Nat.sub_self,show acc.length - vs.length=0 by omega,List.getElem_cons_zero]
  exact ⟨hst hp.1,hst hp.2⟩
def OutLs (w:World) (R:Option (List (Tm × Tm))) (e:Ending) (w':World):Prop :=
 Below w.heap.size w w'∧match R with
 | none=>e=troubled 2
 | some ls=>∃ A cap,e=.returned (.slice A ls.length cap)∧HasW w' (fun k=>w.heap.size≤k) ls A
theorem size_app (s:Int) (l:List Tm) (A:Option Addr) (cap:Nat) (w:World) (ok:Nat→Prop) (h:Has w ok (.app s l) (149,.agg #[.int .u8 s,.slice A l.length cap])) (hs:(Tm.app s l).size≤1000000):Calls Tryz.prog 192 #[.agg #[.int .u8 s,.slice A l.length cap]] w fun e w'=>e=.returned (.int .i64 (Tm.app s l).size)∧Below w.heap.size w w':=size_calls _ _ _ _ h hs
theorem enters120:∀ args w,(callFunc 120 args).run Tryz.prog w=.ok (.enter 120 args) w:=fun args w=>enters_ Tryz.func120 (by kernel_rfl) rfl args w
section
attribute [local go_sem] asVV asVC asCC asCV
set_option maxRecDepth 100000 in
set_option maxHeartbeats 4000000 in
theorem newLaws_calls (rs:List S94) (A:Option Addr) (cap:Nat) (w:World) (hC:Kd.C k94 w A rs.length rs) :
  Calls Tryz.prog 77 #[.slice A rs.length cap] w (OutLs w (newLawsT rs)):=by
 by_cases h6:rs.length≤6
 ·have hd6:decide ((rs.length:Int)≤6)=true:=decide_eq_true (by omega)
  obtain ⟨R,hR⟩:∃ R,R=newLawsT rs:=⟨_,rfl⟩
  have hRl:R=lawsT rs:=by rw [hR];unfold newLawsT;rw [if_pos h6]
  rw [←hR]
  have HP:=Aside0.mk (And.intro hC (And.intro hRl h6))
  clear hC hRl hR h6
  go_enter Tryz.func77,Tryz.ntmps77
  go_wp2_with (go_at_call 67;refine (demand_ok 2 _).mono ?_;rintro e w8 ⟨rfl,h8⟩;subst w8)
  go_loopw [3,16] (fun v3 v16 wr=>∃ (i:Nat) (acc:List (Tm × Tm)) (vs:List ((Nat × Value) × (Nat × Value))),v16=.int .i64 (i:Int)∧Aside0 (i≤rs.length∧acc.length=i∧vs.length=i)∧Aside0 (R=(lawsT (rs.drop i)).map fun r=>acc++r)∧Aside0 (Kd.R kLw 144 wr w.heap.size (fun _=>True) v3 vs)∧Aside0 (∀ j (h1:j < acc.length) (h2:j < vs.length),Has wr (fun k=>w.heap.size≤k∧some k≠v3.ownBlock) acc[j].1 vs[j].1∧Has wr (fun k=>w.heap.size≤k∧some k≠v3.ownBlock) acc[j].2 vs[j].2)∧Aside0 (Below w.heap.size w wr)) (fun _ v16 _=>rs.length - (intOf v16).toNat)
  case atStart =>
   obtain ⟨hC,hRl,h6⟩:=HP.out
   exact ⟨0,[],[],rfl,⟨Nat.zero_le _,rfl,rfl⟩,⟨by rw [List.drop_zero,hRl];cases lawsT rs<;>rfl⟩,⟨Kd.R_nil _ _ _ _ _⟩,⟨fun j h=>absurd h (by simp)⟩,⟨Below.refl _ _⟩⟩
  case round =>
   obtain ⟨i,acc,vs,rfl,HI,HR,HO,HT,HB⟩:=hrel
   obtain ⟨hC,hRl,h6⟩:=HP.out
   by_cases hlt:i < rs.length
   ·have hlb:decide ((i:Int) < (rs.length:Int))=true:=decide_eq_true (by omega)
    obtain ⟨ad,rfl,hc0,hc1⟩:=at_T94 (Kd.C_below hC HB.out) (i:Int) (by omega) (by omega)
    have hrd:rd_T94 rs (i:Int)=rs[i]:=by simp [rd_T94,hlt]
    rw [hrd] at hc0 hc1
    have hno:=lawsT_no hlt HR.out
    have hst:=fun l=>lawsT_step (l:=l) hlt HR.out
    obtain ⟨x,hx⟩:∃ x,x=rs[i]:=⟨_,rfl⟩
    rw [←hx] at hc0 hc1 hno hst
    obtain ⟨L,Rr⟩:=x
    dsimp only at hc0 hc1
    rw [Int.toNat_natCast] at hc0 hc1
    have hbr:((wr.alloc (.cells #[.string L,.string Rr] 94)).alloc (.cells #[.nilIface,.nilIface] 144)).heap[wr.heap.size]?=some (.cells #[.string L,.string Rr] 94 (0,0)):=blk_alloc (blk_new wr _) _
    have hbl:((wr.alloc (.cells #[.string L,.string Rr] 94)).alloc (.cells #[.nilIface,.nilIface] 144)).heap[wr.heap.size+1]?=some (.cells #[.nilIface,.nilIface] 144 (0,0)):=by
     have:=blk_new (wr.alloc (.cells #[.string L,.string Rr] 94)) (.cells #[.nilIface,.nilIface] 144)
     simpa using this
    have hz2:((wr.alloc (.cells #[.string L,.string Rr] 94)).alloc (.cells #[.nilIface,.nilIface] 144)).heap.size=wr.heap.size+2:=by simp
    have hbW:Below wr.heap.size wr ((wr.alloc (.cells #[.string L,.string Rr] 94)).alloc (.cells #[.nilIface,.nilIface] 144)):=below_alloc (below_alloc (Below.refl _ _) _) _
    have hlaw:=law1_calls wr.heap.size (wr.heap.size+1) L Rr (((wr.alloc (.cells #[.string L,.string Rr] 94)).alloc (.cells #[.nilIface,.nilIface] 144)).alloc (.cells #[.int .i64 0] 26)) (blk_alloc hbr _) (blk_alloc hbl _)
    have hw0:=HB.out.size
    cases hRL:readL L Rr with
    | none =>
     rw [hRL] at hlaw
     have hg:=guard_calls 120 enters120 #[.pointer (some ⟨wr.heap.size,0,none⟩),.pointer (some ⟨wr.heap.size+1,0,none⟩)] ((wr.alloc (.cells #[.string L,.string Rr] 94)).alloc (.cells #[.nilIface,.nilIface] 144)) (fun c w1=>c=4∧Below wr.heap.size wr w1) (hlaw.mono (fun e w1 hh=>by
      obtain ⟨rfl,hb⟩:=hh
      exact ⟨(hb.block _ (by simp)).trans (blk_new _ _),.inr ⟨4,rfl,rfl,below_step (below_alloc hbW _) hb⟩⟩))
     have hlt0:lawT ⟨L,Rr⟩=none:=by unfold lawT;rw [hRL];rfl
     have hR0:=hno hlt0
     have HG:=Aside0.mk hg
     have HH:=Aside0.mk (And.intro hR0 hw0)
     clear hC hRl h6 hno hst hbr hbl hz2 hbW hlaw hg hlt0 hR0 hw0 hx hrd hRL
     go_wp2_with (first
      | (go_at_call 65;refine HG.out.mono ?_;rintro e w2 ⟨c,w1,rfl,⟨rfl,hb1⟩,hb2⟩;have H2:=Aside0.mk (hb1.trans (hb2.mono (by simp;omega)));clear hb1 hb2)
      | (go_at_call 67;refine (demand_no 2 _).mono ?_;rintro e w8 ⟨rfl,h8⟩;subst w8))
     rw [HH.out.1]
     exact ⟨rfl,below_step HB.out H2.out,rfl⟩
    | some ab =>
     obtain ⟨a,b⟩:=ab
     rw [hRL] at hlaw
     have hg:=guard_keeps 120 enters120 #[.pointer (some ⟨wr.heap.size,0,none⟩),.pointer (some ⟨wr.heap.size+1,0,none⟩)] ((wr.alloc (.cells #[.string L,.string Rr] 94)).alloc (.cells #[.nilIface,.nilIface] 144)) (fun c w1=>c=0∧But (wr.heap.size+1) (((wr.alloc (.cells #[.string L,.string Rr] 94)).alloc (.cells #[.nilIface,.nilIface] 144)).alloc (.cells #[.int .i64 0] 26)) w1∧∃ p q,w1.heap[wr.heap.size+1]?=some (.cells #[encI p,encI q] 144 (0,0))∧Has w1 (fun k=>(((wr.alloc (.cells #[.string L,.string Rr] 94)).alloc (.cells #[.nilIface,.nilIface] 144)).alloc (.cells #[.int .i64 0] 26)).heap.size≤k) a p∧Has w1 (fun k=>(((wr.alloc (.cells #[.string L,.string Rr] 94)).alloc (.cells #[.nilIface,.nilIface] 144)).alloc (.cells #[.int .i64 0] 26)).heap.size≤k) b q) (hlaw.mono (fun e w1 hh=>by
      obtain ⟨rfl,hb,hh⟩:=hh
      exact ⟨(hb.block _ (by simp) (by simp)).trans (blk_new _ _),.inl ⟨rfl,rfl,hb,hh⟩⟩))
     have hw2:∀ (w1 w2:World) (p q:Nat × Value),But (wr.heap.size+1) (((wr.alloc (.cells #[.string L,.string Rr] 94)).alloc (.cells #[.nilIface,.nilIface] 144)).alloc (.cells #[.int .i64 0] 26)) w1→But ((wr.alloc (.cells #[.string L,.string Rr] 94)).alloc (.cells #[.nilIface,.nilIface] 144)).heap.size w1 w2→w1.heap[wr.heap.size+1]?=some (.cells #[encI p,encI q] 144 (0,0))→Has w1 (fun k=>(((wr.alloc (.cells #[.string L,.string Rr] 94)).alloc (.cells #[.nilIface,.nilIface] 144)).alloc (.cells #[.int .i64 0] 26)).heap.size≤k) a p→Has w1 (fun k=>(((wr.alloc (.cells #[.string L,.string Rr] 94)).alloc (.cells #[.nilIface,.nilIface] 144)).alloc (.cells #[.int .i64 0] 26)).heap.size≤k) b q →
       w2.heap[wr.heap.size+1]?=some (.cells #[encI p,encI q] 144 (0,0))∧Has w2 (fun k=>wr.heap.size+3≤k) a p∧Has w2 (fun k=>wr.heap.size+3≤k) b q∧Below wr.heap.size wr w2:=by
      intro w1 w2 p q h1 h2 h3 h4 h5
      have hz3:(((wr.alloc (.cells #[.string L,.string Rr] 94)).alloc (.cells #[.nilIface,.nilIface] 144)).alloc (.cells #[.int .i64 0] 26)).heap.size=wr.heap.size+3:=by simp
      refine ⟨(h2.block _ (gl_ h3) (by simp)).trans h3,?_,?_,?_⟩
      ·exact (h4.but h2 (fun k hk=>by omega)).mono (fun k hk=>by omega)
      ·exact (h5.but h2 (fun k hk=>by omega)).mono (fun k hk=>by omega)
      ·exact ((below_alloc hbW _).trans (h1.below (by omega) (by omega))).trans (h2.below (by omega) (by have:=h1.size;omega))
     have hgab:a.good∧a.size≤60∧b.good∧b.size≤60:=by
      unfold readL at hRL
      cases ha:readT L with
      | none=>rw [ha] at hRL;cases hRL
      | some a' =>
       cases hb':readT Rr with
       | none=>rw [ha,hb'] at hRL;cases hRL
       | some b' =>
        rw [ha,hb'] at hRL
        cases hRL
        exact ⟨(readT_good ha).1,(readT_good ha).2,(readT_good hb').1,(readT_good hb').2⟩
     have hlT:lawT ⟨L,Rr⟩=if okLaw a b then some (a,b) else none:=by unfold lawT;rw [hRL];rfl
     have HG:=Aside0.mk hg
     have HW2:=Aside0.mk hw2
     have HN:=Aside0.mk hno
     have HS:=Aside0.mk hst
     have HLT:=Aside0.mk (And.intro hlT (And.intro hgab hw0))
     clear hC hRl h6 hno hst hbr hbl hz2 hbW hlaw hg hw0 hx hrd hRL hw2 hgab hlT
     cases a with
     | var c0 =>
      have hR0:=HN.out (HLT.out.1.trans (by rw [if_neg (by simp [okLaw,isV])]))
      have HR0:=Aside0.mk hR0
      clear hR0
      go_wp2_with (first
       | (go_at_call 65;refine HG.out.mono ?_;rintro e w2 ⟨c,w1,rfl,⟨rfl,hb1,⟨t1,p1⟩,⟨t2,p2⟩,hq1,hq2,hq3⟩,hb2⟩;have H2:=Aside0.mk (HW2.out w1 w2 (t1,p1) (t2,p2) hb1 hb2 hq1 hq2 hq3);clear hb1 hb2 hq1 hq2 hq3;have hl0:w2.cell? ⟨wr.heap.size+1,0,none⟩=some (.iface t1 p1):=blk_cell H2.out.1 0;have hl1:w2.cell? ⟨wr.heap.size+1,1,none⟩=some (.iface t2 p2):=blk_cell H2.out.1 1;obtain ⟨rfl,rfl⟩:t1=131∧p1=.int .u8 c0:=(by have:=Has.var_.1 H2.out.2.1;injection this with h1 h2;exact ⟨h1,h2⟩))
       | (go_at_call 67;first|(refine (demand_ok 2 _).mono ?_;rintro e w8 ⟨rfl,h8⟩;subst w8)|(refine (demand_no 2 _).mono ?_;rintro e w8 ⟨rfl,h8⟩;subst w8)))
      rw [HR0.out]
      exact ⟨rfl,below_step HB.out H2.out.2.2.2,rfl⟩
     | app s0 l0 =>
      by_cases ha:(Tm.app s0 l0).size≤12
      ·have hda:decide ((Tm.app s0 l0).size≤12)=true:=decide_eq_true ha
       by_cases hb:b.size≤12
       ·have hdb:decide (b.size≤12)=true:=decide_eq_true hb
        have hlT2:lawT ⟨L,Rr⟩=if (okVar (.app s0 l0) b 120 && (okVar (.app s0 l0) b 121 && okVar (.app s0 l0) b 122)) then some (.app s0 l0,b) else none:=by
         rw [HLT.out.1]
         unfold okLaw
         rw [hda,hdb]
         simp [isV]
        have HL2:=Aside0.mk hlT2
        clear hlT2 ha hb
        go_wp2_with (first
         | (go_at_call 65;refine HG.out.mono ?_;rintro e w2 ⟨c,w1,rfl,⟨rfl,hb1,⟨t1,p1⟩,⟨t2,p2⟩,hq1,hq2,hq3⟩,hb2⟩;have H2:=Aside0.mk (HW2.out w1 w2 (t1,p1) (t2,p2) hb1 hb2 hq1 hq2 hq3);clear hb1 hb2 hq1 hq2 hq3;have hl0:w2.cell? ⟨wr.heap.size+1,0,none⟩=some (.iface t1 p1):=blk_cell H2.out.1 0;have hl1:w2.cell? ⟨wr.heap.size+1,1,none⟩=some (.iface t2 p2):=blk_cell H2.out.1 1;obtain ⟨A1,cap1,hv1,_⟩:=Has.app_.1 H2.out.2.1;obtain ⟨rfl,rfl⟩:t1=149∧p1=.agg #[.int .u8 s0,.slice A1 l0.length cap1]:=(by injection hv1 with h1 h2;exact ⟨h1,h2⟩);clear hv1;have hm3:∀ w,(method 337 t2 p2 "numnah/rules.size").run Tryz.prog w=.ok (szF (t2,p2),p2) w:=meth_size H2.out.2.2.1;have hm4:∀ args w,(callFunc (szF (t2,p2)) args).run Tryz.prog w=.ok (.enter (szF (t2,p2)) args) w:=enters_size H2.out.2.2.1;have hm1:∀ w,(method 337 149 (.agg #[.int .u8 s0,.slice A1 l0.length cap1]) "numnah/rules.size").run Tryz.prog w=.ok (192,.agg #[.int .u8 s0,.slice A1 l0.length cap1]) w:=meth_size H2.out.2.1)
         | (go_at_call 192;refine (size_app s0 l0 A1 cap1 _ _ H2.out.2.1 (by have:=HLT.out.2.1.2.1;omega)).mono ?_;rintro e w3 ⟨rfl,hb3⟩;have H3:=Aside0.mk hb3;have hl3:w3.cell? ⟨wr.heap.size+1,1,none⟩=some (.iface t2 p2):=blk_cell ((hb3.block _ (gl_ H2.out.1)).trans H2.out.1) 1;clear hb3)
         | (refine (size_calls b (t2,p2) _ _ (H2.out.2.2.1.below H3.out) (by have:=HLT.out.2.1.2.2.2;omega)).mono ?_;rintro e w4 ⟨rfl,hb4⟩;have H4:=Aside0.mk (below_step H3.out hb4);clear hb4)
         | (go_at_call 67;first|(refine (demand_ok 2 _).mono ?_;rintro e w8 ⟨rfl,h8⟩;subst w8)|(refine (demand_no 2 _).mono ?_;rintro e w8 ⟨rfl,h8⟩;subst w8)))
        obtain ⟨wo,rfl⟩:∃ wo,wo=wr:=⟨_,rfl⟩
        go_loopw [9] (fun v9 wr=>∃ c:Nat,v9=.int .u8 (120+(c:Int))∧Aside0 (c≤3)∧Aside0 (∀ d:Nat,d < c→okVar (.app s0 l0) b (120+(d:Int))=true)∧Aside0 (Below w4.heap.size w4 wr)) (fun v9 _=>3 - (intOf v9 - 120).toNat)
        case atStart=>exact ⟨0,rfl,⟨by omega⟩,⟨fun d hd=>absurd hd (by omega)⟩,⟨Below.refl _ _⟩⟩
        case round =>
         obtain ⟨c,rfl,HCc,HOK,HB4⟩:=hrel
         have hblk4:=(H4.out.block _ (gl_ H2.out.1)).trans H2.out.1
         have hblk:=(HB4.out.block _ (gl_ hblk4)).trans hblk4
         have hb24:Below w2.heap.size w2 wr:=below_step H4.out HB4.out
         have hi0:wr.cell? ⟨wo.heap.size+1,0,none⟩=some (.iface 149 (.agg #[.int .u8 s0,.slice A1 l0.length cap1])):=blk_cell hblk 0
         have hi1:wr.cell? ⟨wo.heap.size+1,1,none⟩=some (.iface t2 p2):=blk_cell hblk 1
         have hqa:=H2.out.2.1.below hb24
         have hqb:=H2.out.2.2.1.below hb24
         have HBK:=Aside0.mk hblk
         have HQ:=Aside0.mk (And.intro hqa (And.intro hqb hb24))
         by_cases hc3:c < 3
         ·have hle:decide (120+(c:Int)≤122)=true:=decide_eq_true (by omega)
          have hw8:IntKind.u8.wrap (120+(c:Int)+1)=120+((c+1:Nat):Int):=by rw [Go.IntWalk.u8_in _ (by omega)];omega
          have ho1:=occurs_calls (120+(c:Int)) b (t2,p2) wr _ hqb HLT.out.2.1.2.2.1 (by have:=HLT.out.2.1.2.2.2;omega)
          have ho2:=fun (w5:World) (hb:Below wr.heap.size wr w5)=>occurs_calls (120+(c:Int)) (.app s0 l0) (149,.agg #[.int .u8 s0,.slice A1 l0.length cap1]) w5 _ (hqa.below hb) HLT.out.2.1.1 (by have:=HLT.out.2.1.2.1;omega)
          unfold encI at ho1 ho2
          dsimp only at ho1 ho2
          have HO1:=Aside0.mk ho1
          have HO2:=Aside0.mk ho2
          have hok:okVar (.app s0 l0) b (120+(c:Int))=(!occT (120+(c:Int)) b || occT (120+(c:Int)) (.app s0 l0)):=rfl
          have HK:=Aside0.mk hok
          clear ho1 ho2 hok hblk4 hblk hb24 hqa hqb
          generalize occT (120+(c:Int)) b=ob at *
          generalize occT (120+(c:Int)) (.app s0 l0)=oa at *
          cases ob with
          | false =>
           go_wp2_with (first
            | (go_at_call 121;(with_reducible refine HO1.out.mono ?_);rintro e w5 ⟨rfl,hb5⟩;have H5:=Aside0.mk hb5;have hi5:w5.cell? ⟨wo.heap.size+1,0,none⟩=some (.iface 149 (.agg #[.int .u8 s0,.slice A1 l0.length cap1])):=blk_cell ((hb5.block _ (gl_ HBK.out)).trans HBK.out) 0;clear HO1 hb5)
            | (go_at_call 67;first|(refine (demand_ok 2 _).mono ?_;rintro e w8 ⟨rfl,h8⟩;subst w8)|(refine (demand_no 2 _).mono ?_;rintro e w8 ⟨rfl,h8⟩;subst w8)))
           skip
           refine ⟨⟨c+1,by simp,⟨by omega⟩,⟨fun d hd=>?_⟩,⟨below_step HB4.out H5.out⟩⟩,?_⟩
           ·by_cases hdc:d < c
            ·exact HOK.out d hdc
            ·obtain rfl:d=c:=by omega
             rw [HK.out];rfl
           ·simp only [intOf]
            omega
          | true =>
           cases oa with
           | false =>
            have hR0:=HN.out (HL2.out.trans (by
             have hcc:c=0∨c=1∨c=2:=by omega
             have hk:=HK.out
             rw [if_neg]
             rcases hcc with rfl|rfl|rfl
             ·have h2:okVar (.app s0 l0) b 120=false:=hk
              rw [h2];simp
             ·have h2:okVar (.app s0 l0) b 121=false:=hk
              rw [h2];simp
             ·have h2:okVar (.app s0 l0) b 122=false:=hk
              rw [h2];simp))
            have HR0:=Aside0.mk hR0
            clear hR0
            go_wp2_with (first
             | (go_at_call 121;(with_reducible refine HO1.out.mono ?_);rintro e w5 ⟨rfl,hb5⟩;have H5:=Aside0.mk hb5;have hi5:w5.cell? ⟨wo.heap.size+1,0,none⟩=some (.iface 149 (.agg #[.int .u8 s0,.slice A1 l0.length cap1])):=blk_cell ((hb5.block _ (gl_ HBK.out)).trans HBK.out) 0;clear HO1 hb5)
             | (go_at_call 121;(with_reducible refine (HO2.out _ H5.out).mono ?_);rintro e w6 ⟨rfl,hb6⟩;have H6:=Aside0.mk hb6;clear hb6)
             | (go_at_call 67;first|(refine (demand_ok 2 _).mono ?_;rintro e w8 ⟨rfl,h8⟩;subst w8)|(refine (demand_no 2 _).mono ?_;rintro e w8 ⟨rfl,h8⟩;subst w8)))
            rw [HR0.out]
            exact ⟨rfl,below_step HB.out (below_step (below_step (below_step (H2.out.2.2.2) HQ.out.2.2) H5.out) H6.out),rfl⟩
           | true =>
            go_wp2_with (first
             | (go_at_call 121;(with_reducible refine HO1.out.mono ?_);rintro e w5 ⟨rfl,hb5⟩;have H5:=Aside0.mk hb5;have hi5:w5.cell? ⟨wo.heap.size+1,0,none⟩=some (.iface 149 (.agg #[.int .u8 s0,.slice A1 l0.length cap1])):=blk_cell ((hb5.block _ (gl_ HBK.out)).trans HBK.out) 0;clear HO1 hb5)
             | (go_at_call 121;(with_reducible refine (HO2.out _ H5.out).mono ?_);rintro e w6 ⟨rfl,hb6⟩;have H6:=Aside0.mk hb6;clear hb6)
             | (go_at_call 67;first|(refine (demand_ok 2 _).mono ?_;rintro e w8 ⟨rfl,h8⟩;subst w8)|(refine (demand_no 2 _).mono ?_;rintro e w8 ⟨rfl,h8⟩;subst w8)))
            skip
            refine ⟨⟨c+1,by simp,⟨by omega⟩,⟨fun d hd=>?_⟩,⟨below_step (below_step HB4.out H5.out) H6.out⟩⟩,?_⟩
            ·by_cases hdc:d < c
             ·exact HOK.out d hdc
             ·obtain rfl:d=c:=by omega
              rw [HK.out];rfl
            ·simp only [intOf]
             omega
         ·have hle:decide (120+(c:Int)≤122)=false:=decide_eq_false (by omega)
          have hcc:c=3:=by have:=HCc.out;omega
          have hk0:okVar (.app s0 l0) b 120=true:=HOK.out 0 (by omega)
          have hk1:okVar (.app s0 l0) b 121=true:=HOK.out 1 (by omega)
          have hk2:okVar (.app s0 l0) b 122=true:=HOK.out 2 (by omega)
          have hR1:=HS.out (.app s0 l0,b) (HL2.out.trans (by rw [hk0,hk1,hk2];rfl))
          have hbo:Below wo.heap.size wo wr:=below_step H2.out.2.2.2 hb24
          have HE:=Aside0.mk (And.intro hR1 hbo)
          clear hk0 hk1 hk2 hR1 hbo hblk4 hblk hb24 hqa hqb
          have w1i:wrap64 ((i:Int)+1)=(i:Int)+1:=wrS (by omega) (by have:=HI.out;have:=HP.out.2.2;omega)
          go_wp2_with ((with_reducible refine gate_builtin (b:=.append) (xs:=#[.tmp 61,.tmp 63]) rfl ?_);at_builtin;refine Kd.R_append kLw (w0:=w) w.heap.size rfl (.tmp 61) (.tmp 63) 109 144 (.agg #[.nilIface,.nilIface]) 32 rfl Tryz.underlying109 info144 rfl (by decide) (by omega) u3 vs ((149,.agg #[.int .u8 s0,.slice A1 l0.length cap1]),(t2,p2)) [.iface 149 (.agg #[.int .u8 s0,.slice A1 l0.length cap1]),.iface t2 p2] (fun _=>True) (fun _=>False) rfl rfl ?aP (fun _ hk=>hk.elim) ?aF ?aO ?aB ?aS ?aL ?_;(case aP=>exact kLw_mkM _ _ _ _);(case aB=>exact below_step HB.out HE.out.2);(case aF=>exact (fun _ _=>trivial));(case aO=>exact Kd.R_below HO.out HE.out.2);(case aS=>exact Nat.le_trans HB.out.size HE.out.2.size);(case aL=>have h1:=HI.out;have h2:=HP.out.2.2;omega);intro v6 w8 ho hb hg hat;have H8:=Aside0.mk (And.intro ho (And.intro hb (And.intro hg hat)));clear ho hb hg hat)
          obtain ⟨ho8,hb8,hg8,hat8⟩:=H8.out
          obtain ⟨hR1,hbo⟩:=HE.out
          have hown:=HO.out
          have hns:∀ k,wo.heap.size+3≤k→w.heap.size≤k∧some k≠u3.ownBlock:=fun k hk=>⟨by have:=HB.out.size;omega,fun e=>by have:=Kd.R_lt hown k e.symm;omega⟩
          have hT8:=snocW (w3:=wr) (ok:=fun k=>w.heap.size≤k) (t:=(.app s0 l0,b)) (p:=((149,.agg #[.int .u8 s0,.slice A1 l0.length cap1]),(t2,p2))) (by have:=HI.out;omega) (fun j h1 h2=>⟨(HT.out j h1 h2).1.below hbo,(HT.out j h1 h2).2.below hbo⟩) ⟨HQ.out.1.mono hns,HQ.out.2.1.mono hns⟩ hg8 hat8
          rw [w1i]
          refine ⟨⟨i+1,acc++[(.app s0 l0,b)],vs++[((149,.agg #[.int .u8 s0,.slice A1 l0.length cap1]),(t2,p2))],by simp,⟨by have:=HI.out;omega,by simp [HI.out.2.1],by simp [HI.out.2.2]⟩,⟨hR1⟩,⟨ho8⟩,⟨hT8⟩,⟨hb8⟩⟩,?_⟩
          simp only [intOf]
          omega
       ·have hdb:decide (b.size≤12)=false:=decide_eq_false hb
        have hR0:=HN.out (HLT.out.1.trans (by rw [if_neg (by simp [okLaw,hb])]))
        have HR0:=Aside0.mk hR0
        clear hR0 ha hb
        go_wp2_with (first
         | (go_at_call 65;refine HG.out.mono ?_;rintro e w2 ⟨c,w1,rfl,⟨rfl,hb1,⟨t1,p1⟩,⟨t2,p2⟩,hq1,hq2,hq3⟩,hb2⟩;have H2:=Aside0.mk (HW2.out w1 w2 (t1,p1) (t2,p2) hb1 hb2 hq1 hq2 hq3);clear hb1 hb2 hq1 hq2 hq3;have hl0:w2.cell? ⟨wr.heap.size+1,0,none⟩=some (.iface t1 p1):=blk_cell H2.out.1 0;have hl1:w2.cell? ⟨wr.heap.size+1,1,none⟩=some (.iface t2 p2):=blk_cell H2.out.1 1;obtain ⟨A1,cap1,hv1,_⟩:=Has.app_.1 H2.out.2.1;obtain ⟨rfl,rfl⟩:t1=149∧p1=.agg #[.int .u8 s0,.slice A1 l0.length cap1]:=(by injection hv1 with h1 h2;exact ⟨h1,h2⟩);clear hv1;have hm3:∀ w,(method 337 t2 p2 "numnah/rules.size").run Tryz.prog w=.ok (szF (t2,p2),p2) w:=meth_size H2.out.2.2.1;have hm4:∀ args w,(callFunc (szF (t2,p2)) args).run Tryz.prog w=.ok (.enter (szF (t2,p2)) args) w:=enters_size H2.out.2.2.1;have hm1:∀ w,(method 337 149 (.agg #[.int .u8 s0,.slice A1 l0.length cap1]) "numnah/rules.size").run Tryz.prog w=.ok (192,.agg #[.int .u8 s0,.slice A1 l0.length cap1]) w:=meth_size H2.out.2.1)
         | (go_at_call 192;refine (size_app s0 l0 A1 cap1 _ _ H2.out.2.1 (by have:=HLT.out.2.1.2.1;omega)).mono ?_;rintro e w3 ⟨rfl,hb3⟩;have H3:=Aside0.mk hb3;have hl3:w3.cell? ⟨wr.heap.size+1,1,none⟩=some (.iface t2 p2):=blk_cell ((hb3.block _ (gl_ H2.out.1)).trans H2.out.1) 1;clear hb3)
         | (refine (size_calls b (t2,p2) _ _ (H2.out.2.2.1.below H3.out) (by have:=HLT.out.2.1.2.2.2;omega)).mono ?_;rintro e w4 ⟨rfl,hb4⟩;have H4:=Aside0.mk (below_step H3.out hb4);clear hb4)
         | (go_at_call 67;first|(refine (demand_ok 2 _).mono ?_;rintro e w8 ⟨rfl,h8⟩;subst w8)|(refine (demand_no 2 _).mono ?_;rintro e w8 ⟨rfl,h8⟩;subst w8)))
        rw [HR0.out]
        exact ⟨rfl,below_step HB.out (below_step H2.out.2.2.2 H4.out),rfl⟩
      ·have hda:decide ((Tm.app s0 l0).size≤12)=false:=decide_eq_false ha
       have hR0:=HN.out (HLT.out.1.trans (by rw [if_neg (by simp [okLaw,ha])]))
       have HR0:=Aside0.mk hR0
       clear hR0 ha
       go_wp2_with (first
        | (go_at_call 65;refine HG.out.mono ?_;rintro e w2 ⟨c,w1,rfl,⟨rfl,hb1,⟨t1,p1⟩,⟨t2,p2⟩,hq1,hq2,hq3⟩,hb2⟩;have H2:=Aside0.mk (HW2.out w1 w2 (t1,p1) (t2,p2) hb1 hb2 hq1 hq2 hq3);clear hb1 hb2 hq1 hq2 hq3;have hl0:w2.cell? ⟨wr.heap.size+1,0,none⟩=some (.iface t1 p1):=blk_cell H2.out.1 0;have hl1:w2.cell? ⟨wr.heap.size+1,1,none⟩=some (.iface t2 p2):=blk_cell H2.out.1 1;obtain ⟨A1,cap1,hv1,_⟩:=Has.app_.1 H2.out.2.1;obtain ⟨rfl,rfl⟩:t1=149∧p1=.agg #[.int .u8 s0,.slice A1 l0.length cap1]:=(by injection hv1 with h1 h2;exact ⟨h1,h2⟩);clear hv1;have hm3:∀ w,(method 337 t2 p2 "numnah/rules.size").run Tryz.prog w=.ok (szF (t2,p2),p2) w:=meth_size H2.out.2.2.1;have hm4:∀ args w,(callFunc (szF (t2,p2)) args).run Tryz.prog w=.ok (.enter (szF (t2,p2)) args) w:=enters_size H2.out.2.2.1;have hm1:∀ w,(method 337 149 (.agg #[.int .u8 s0,.slice A1 l0.length cap1]) "numnah/rules.size").run Tryz.prog w=.ok (192,.agg #[.int .u8 s0,.slice A1 l0.length cap1]) w:=meth_size H2.out.2.1)
        | (go_at_call 192;refine (size_app s0 l0 A1 cap1 _ _ H2.out.2.1 (by have:=HLT.out.2.1.2.1;omega)).mono ?_;rintro e w3 ⟨rfl,hb3⟩;have H3:=Aside0.mk hb3;have hl3:w3.cell? ⟨wr.heap.size+1,1,none⟩=some (.iface t2 p2):=blk_cell ((hb3.block _ (gl_ H2.out.1)).trans H2.out.1) 1;clear hb3)
        | (go_at_call 67;first|(refine (demand_ok 2 _).mono ?_;rintro e w8 ⟨rfl,h8⟩;subst w8)|(refine (demand_no 2 _).mono ?_;rintro e w8 ⟨rfl,h8⟩;subst w8)))
       rw [HR0.out]
       exact ⟨rfl,below_step HB.out (below_step H2.out.2.2.2 H3.out),rfl⟩
   ·have hlb:decide ((i:Int) < (rs.length:Int))=false:=decide_eq_false (by omega)
    obtain ⟨A2,cap2,e2,hW2⟩:=hasW_of_R (ok:=fun k=>w.heap.size≤k) HO.out (by have:=HI.out;omega) (fun j h1 h2=>⟨(HT.out j h1 h2).1.mono (fun k hk=>hk.1),(HT.out j h1 h2).2.mono (fun k hk=>hk.1)⟩) (fun k hk=>Kd.R_base HO.out k hk)
    have hfin:OutLs w R (.returned u3) wr:=by
     have:=HR.out
     rw [List.drop_of_length_le (by omega),lawsT,Option.map_some,List.append_nil] at this
     rw [this]
     exact ⟨HB.out,A2,cap2,by rw [e2],hW2⟩
    have HF:=Aside0.mk hfin
    clear hC hRl h6 e2 hW2 hfin
    go_wp2
    go_ret
    exact HF.out
 ·have hd6:decide ((rs.length:Int)≤6)=false:=decide_eq_false (by omega)
  have hR:newLawsT rs=none:=by unfold newLawsT;rw [if_neg h6]
  rw [hR]
  clear hR h6
  go_enter Tryz.func77,Tryz.ntmps77
  go_wp2_with (go_at_call 67;refine (demand_no 2 _).mono ?_;rintro e w8 ⟨rfl,h8⟩;subst w8)
  exact ⟨rfl,Below.refl _ _,rfl⟩
end
end Go.Proofs.YtaafeallcaiooaaGreat.Pr
