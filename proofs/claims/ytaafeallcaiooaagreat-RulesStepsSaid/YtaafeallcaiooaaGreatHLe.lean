/- leads: whether a term is a next term of another one. -/
import Derived.Test.YtaafeallcaiooaaGreatHLe0
namespace Go.Proofs.YtaafeallcaiooaaGreat.Pr
open Go.RowKit Go.Maps Go.Proofs.Zw Go.Proofs.Zl Go.Proofs.Zm
set_option linter.unusedVariables false
set_option linter.unusedSimpArgs false
mutual
def leadsT (ls:List (Tm × Tm)):Tm→Tm→Bool
 | .var c,T=>(rootT ls (.var c)).any (fun u=>sameB u T)
 | .app s l,T=>(rootT ls (.app s l)).any (fun u=>sameB u T) || match T with
  | .var _=>false
  | .app s' l'=>if s'=s then leadsL ls s [] l l' (.app s' l') else false
def leadsL (ls:List (Tm × Tm)) (s:Int):List Tm→List Tm→List Tm→Tm→Bool
 | pre,u :: us,v :: vs,T=>(sameB (.app s (pre++v :: us)) T && leadsT ls u v) || leadsL ls s (pre++[u]) us vs T
 | _,[],_,_=>false
 | _,_ :: _,[],_=>false
end
def restB (ls:List (Tm × Tm)) (s:Int) (l:List Tm):Tm→Bool
 | .var _=>false
 | .app s' l'=>if s'=s then leadsL ls s [] l l' (.app s' l') else false
theorem leadsT_app (ls:List (Tm × Tm)) (s:Int) (l:List Tm) (T:Tm):leadsT ls (.app s l) T=((rootT ls (.app s l)).any (fun u=>sameB u T) || restB ls s l T):=by
 cases T<;>(rw [leadsT];rfl)
theorem leadsL_step (ls:List (Tm × Tm)) (s:Int) (l l':List Tm) (T:Tm) (i:Nat) (h:i < l.length) (h':i < l'.length) :
  leadsL ls s (l.take i) (l.drop i) (l'.drop i) T=((sameB (mkT s l i l'[i]) T && leadsT ls l[i] l'[i]) || leadsL ls s (l.take (i+1)) (l.drop (i+1)) (l'.drop (i+1)) T):=by
 rw [List.drop_eq_getElem_cons h,List.drop_eq_getElem_cons h',leadsL,List.take_succ_eq_append_getElem h]
 rfl
theorem goods_app:∀ a b:List Tm,Tm.goods (a++b)↔Tm.goods a∧Tm.goods b
 | [],b=>by simp [Tm.goods]
 | t :: a,b=>by rw [List.cons_append,Tm.goods,Tm.goods,goods_app a b,and_assoc]
theorem mkT_good {s:Int} {l:List Tm} {i:Nat} {v:Tm} (h:i < l.length) (hg:(97≤s∧s≤102)∧(l.length:Int)=nParts s∧Tm.goods l) (hv:v.good):(mkT s l i v).good:=by
 rw [mkT_set s l i v h,Tm.good]
 refine ⟨hg.1,by rw [List.length_set];exact hg.2.1,goods_of (fun t ht=>?_)⟩
 rcases List.mem_or_eq_of_mem_set ht with ht|rfl
 ·exact goods_mem hg.2.2 ht
 ·exact hv
def LdOk (ls:List (Tm × Tm)) (S:Tm):Prop:=∀ (T:Tm) (p q:Nat × Value) (w:World) (ok ok2 okL:Nat→Prop) (AL:Option Addr) (capL:Nat),HasW w okL ls AL→Has w ok S p→Has w ok2 T q→S.good→T.good→S.size≤60→T.size≤60 →
 Calls Tryz.prog 78 #[.slice AL ls.length capL,encI p,encI q] w fun e w'=>e=.returned (.bool (leadsT ls S T))∧Below w.heap.size w w'
section
attribute [local go_sem] asVV asVC asCC asCV
set_option maxHeartbeats 1000000 in
set_option maxRecDepth 100000 in
theorem leads_yes (ls:List (Tm × Tm)) (hls:LawsGood ls) (hln:ls.length≤1000) (S:Tm) (p:Nat × Value) (T:Tm) (q:Nat × Value) (w:World) (ok ok2 okL:Nat→Prop) (AL:Option Addr) (capL:Nat) (hL:HasW w okL ls AL) (hS:Has w ok S p) (hT:Has w ok2 T q) (hgS:S.good) (hgT:T.good) (hsS:S.size≤60) (hsT:T.size≤60) (hany:(rootT ls S).any (fun u=>sameB u T)=true) :
  Calls Tryz.prog 78 #[.slice AL ls.length capL,encI p,encI q] w fun e w'=>e=.returned (.bool true)∧Below w.heap.size w w':=by
 obtain ⟨tq,vq⟩:=q
 have hb1:Below w.heap.size w (w.alloc (.cells #[.iface tq vq] 99)):=below_alloc (Below.refl _ _) _
 have hbox:(w.alloc (.cells #[.iface tq vq] 99)).heap[w.heap.size]?=some (.cells #[.iface tq vq] 99 (0,0)):=blk_new w _
 have hrc:=root_calls ls AL capL S p (w.alloc (.cells #[.iface tq vq] 99)) (fun _=>True) okL (hL.below hb1) ((hS.below hb1).mono (fun _ _=>trivial)) hgS (by omega) hls hln (fun _ _=>trivial)
 have hgr:∀ t,t∈rootT ls S→t.good∧t.size≤1000000:=fun t ht=>⟨rootT_good hls hgS (by omega) ht,by have:=rootT_size hls hsS ht;omega⟩
 have hlr:=rootT_len ls S
 have hcc:=fun (wa:World) (hb:Below (w.alloc (.cells #[.iface tq vq] 99)).heap.size (w.alloc (.cells #[.iface tq vq] 99)) wa) (A5:Option Addr) (c5:Nat) (hL5:HasL wa (fun _=>True) (rootT ls S) A5 0) =>
  contains_calls (rootT ls S) T (tq,vq) w.heap.size A5 c5 wa (fun _=>True) ok2 hL5 ((hT.below hb1).below hb) hgr hgT (by omega) ((hb.block _ (by simp)).trans hbox) (by omega)
 have HC:=Aside0.mk hrc
 have HC2:=Aside0.mk hcc
 have HB1:=Aside0.mk hb1
 have HBOX:=Aside0.mk hbox
 clear hrc hcc hb1 hbox hgr hlr
 have HA:=Aside0.mk hany
 obtain ⟨RT,hRT⟩:∃ RT,RT=rootT ls S:=⟨_,rfl⟩
 rw [←hRT] at HC HC2 HA
 rw [HA.out] at HC2
 unfold encI at HC ⊢
 clear hL hS hT hgS hgT hsS hsT hls hln hany hRT
 go_enter Tryz.func78,Tryz.ntmps78
 go_wp2_with (first|(go_at_call 123;refine HC.out.mono ?_;rintro e wa ⟨v0,rfl,hrow,hba⟩;obtain ⟨A5,c5,rfl,hc5,hL5⟩:=hrow.read (fun _ _=>trivial);have HX:=Aside0.mk (And.intro hba hL5);clear hrow hba hc5 hL5)|(go_at_call 122;refine (HC2.out _ HX.out.1 _ _ HX.out.2).mono ?_;rintro e wc ⟨rfl,hbc⟩;have HY:=Aside0.mk (below_step (below_step HB1.out HX.out.1) hbc);have hbxc:=(hbc.block _ (Nat.lt_of_lt_of_le (by simp) HX.out.1.size)).trans ((HX.out.1.block _ (by simp)).trans HBOX.out);have HBC:=Aside0.mk hbxc;have hcx:=(fun (o:Obj)=>blk_cell (blk_alloc hbxc o) 0);clear hbc hbxc))
 go_ret
 exact ⟨rfl,HY.out⟩
set_option maxHeartbeats 1000000 in
set_option maxRecDepth 100000 in
theorem leads_var (ls:List (Tm × Tm)) (hls:LawsGood ls) (hln:ls.length≤1000) (c:Int) (T:Tm) (q:Nat × Value) (w:World) (ok ok2 okL:Nat→Prop) (AL:Option Addr) (capL:Nat) (hL:HasW w okL ls AL)  (hT:Has w ok2 T q) (hgS:(Tm.var c).good) (hgT:T.good) (hsS:(Tm.var c).size≤60) (hsT:T.size≤60) (hany:(rootT ls (.var c)).any (fun u=>sameB u T)=false) :
  Calls Tryz.prog 78 #[.slice AL ls.length capL,.iface 131 (.int .u8 c),encI q] w fun e w'=>e=.returned (.bool false)∧Below w.heap.size w w':=by
 obtain ⟨tq,vq⟩:=q
 have hb1:Below w.heap.size w (w.alloc (.cells #[.iface tq vq] 99)):=below_alloc (Below.refl _ _) _
 have hbox:(w.alloc (.cells #[.iface tq vq] 99)).heap[w.heap.size]?=some (.cells #[.iface tq vq] 99 (0,0)):=blk_new w _
 have hrc:=root_calls ls AL capL (.var c) (131,.int .u8 c) (w.alloc (.cells #[.iface tq vq] 99)) (fun _=>True) okL (hL.below hb1) (((Has.var_.2 rfl:Has w ok (.var c) (131,.int .u8 c)).below hb1).mono (fun _ _=>trivial)) hgS (by omega) hls hln (fun _ _=>trivial)
 have hgr:∀ t,t∈rootT ls (.var c)→t.good∧t.size≤1000000:=fun t ht=>⟨rootT_good hls hgS (by omega) ht,by have:=rootT_size hls hsS ht;omega⟩
 have hlr:=rootT_len ls (.var c)
 have hcc:=fun (wa:World) (hb:Below (w.alloc (.cells #[.iface tq vq] 99)).heap.size (w.alloc (.cells #[.iface tq vq] 99)) wa) (A5:Option Addr) (c5:Nat) (hL5:HasL wa (fun _=>True) (rootT ls (.var c)) A5 0) =>
  contains_calls (rootT ls (.var c)) T (tq,vq) w.heap.size A5 c5 wa (fun _=>True) ok2 hL5 ((hT.below hb1).below hb) hgr hgT (by omega) ((hb.block _ (by simp)).trans hbox) (by omega)
 have HC:=Aside0.mk hrc
 have HC2:=Aside0.mk hcc
 have HB1:=Aside0.mk hb1
 have HBOX:=Aside0.mk hbox
 clear hrc hcc hb1 hbox hgr hlr
 cases T with
 | var d =>
  have hTv:=Has.var_.1 hT
  cases hTv
  have HA:=Aside0.mk hany
  obtain ⟨RT,hRT⟩:∃ RT,RT=rootT ls (.var c):=⟨_,rfl⟩
  rw [←hRT] at HC HC2 HA
  rw [HA.out] at HC2
  unfold encI at HC ⊢
  clear hL hT hgS hgT hsS hsT hls hln hany hRT
  go_enter Tryz.func78,Tryz.ntmps78
  go_wp2_with (first|(go_at_call 123;refine HC.out.mono ?_;rintro e wa ⟨v0,rfl,hrow,hba⟩;obtain ⟨A5,c5,rfl,hc5,hL5⟩:=hrow.read (fun _ _=>trivial);have HX:=Aside0.mk (And.intro hba hL5);clear hrow hba hc5 hL5)|(go_at_call 122;refine (HC2.out _ HX.out.1 _ _ HX.out.2).mono ?_;rintro e wc ⟨rfl,hbc⟩;have HY:=Aside0.mk (below_step (below_step HB1.out HX.out.1) hbc);have hbxc:=(hbc.block _ (Nat.lt_of_lt_of_le (by simp) HX.out.1.size)).trans ((HX.out.1.block _ (by simp)).trans HBOX.out);have HBC:=Aside0.mk hbxc;have hcx:=(fun (o:Obj)=>blk_cell (blk_alloc hbxc o) 0);clear hbc hbxc))
  go_ret
  exact ⟨rfl,HY.out.trans ((below_alloc (below_alloc (Below.refl _ _) _) _).mono HY.out.size)⟩
 | app s' l' =>
  obtain ⟨A',cap',hTa,hc',hL'⟩:=Has.app_.1 hT
  cases hTa
  have HA:=Aside0.mk hany
  obtain ⟨RT,hRT⟩:∃ RT,RT=rootT ls (.var c):=⟨_,rfl⟩
  rw [←hRT] at HC HC2 HA
  rw [HA.out] at HC2
  unfold encI at HC ⊢
  clear hL hT hgS hgT hsS hsT hls hln hany hRT hL' hc'
  go_enter Tryz.func78,Tryz.ntmps78
  go_wp2_with (first|(go_at_call 123;refine HC.out.mono ?_;rintro e wa ⟨v0,rfl,hrow,hba⟩;obtain ⟨A5,c5,rfl,hc5,hL5⟩:=hrow.read (fun _ _=>trivial);have HX:=Aside0.mk (And.intro hba hL5);clear hrow hba hc5 hL5)|(go_at_call 122;refine (HC2.out _ HX.out.1 _ _ HX.out.2).mono ?_;rintro e wc ⟨rfl,hbc⟩;have HY:=Aside0.mk (below_step (below_step HB1.out HX.out.1) hbc);have hbxc:=(hbc.block _ (Nat.lt_of_lt_of_le (by simp) HX.out.1.size)).trans ((HX.out.1.block _ (by simp)).trans HBOX.out);have HBC:=Aside0.mk hbxc;have hcx:=(fun (o:Obj)=>blk_cell (blk_alloc hbxc o) 0);clear hbc hbxc))
  go_ret
  exact ⟨rfl,HY.out.trans ((below_alloc (below_alloc (Below.refl _ _) _) _).mono HY.out.size)⟩
set_option maxHeartbeats 1000000 in
set_option maxRecDepth 100000 in
theorem leads_app (ls:List (Tm × Tm)) (hls:LawsGood ls) (hln:ls.length≤1000) (s:Int) (l:List Tm) (ih:∀ x,x∈l→LdOk ls x) (A:Option Addr) (cap:Nat) (T:Tm) (q:Nat × Value) (w:World) (ok ok2 okL:Nat→Prop) (AL:Option Addr) (capL:Nat) (hL:HasW w okL ls AL) (hcap:l.length≤cap) (hl:HasL w ok l A 0) (hT:Has w ok2 T q) (hgS:(Tm.app s l).good) (hgT:T.good) (hsS:(Tm.app s l).size≤60) (hsT:T.size≤60) (hany:(rootT ls (.app s l)).any (fun u=>sameB u T)=false) (R:Bool) (hR:R=restB ls s l T) :
  Calls Tryz.prog 78 #[.slice AL ls.length capL,.iface 149 (.agg #[.int .u8 s,.slice A l.length cap]),encI q] w fun e w'=>e=.returned (.bool R)∧Below w.heap.size w w':=by
 obtain ⟨tq,vq⟩:=q
 have hb1:Below w.heap.size w (w.alloc (.cells #[.iface tq vq] 99)):=below_alloc (Below.refl _ _) _
 have hbox:(w.alloc (.cells #[.iface tq vq] 99)).heap[w.heap.size]?=some (.cells #[.iface tq vq] 99 (0,0)):=blk_new w _
 have hrc:=root_calls ls AL capL (.app s l) (149,.agg #[.int .u8 s,.slice A l.length cap]) (w.alloc (.cells #[.iface tq vq] 99)) (fun _=>True) okL (hL.below hb1) (((Has.app_.2 ⟨A,cap,rfl,hcap,hl⟩:Has w ok (.app s l) (149,.agg #[.int .u8 s,.slice A l.length cap])).below hb1).mono (fun _ _=>trivial)) hgS (by omega) hls hln (fun _ _=>trivial)
 have hgr:∀ t,t∈rootT ls (.app s l)→t.good∧t.size≤1000000:=fun t ht=>⟨rootT_good hls hgS (by omega) ht,by have:=rootT_size hls hsS ht;omega⟩
 have hlr:=rootT_len ls (.app s l)
 have hcc:=fun (wa:World) (hb:Below (w.alloc (.cells #[.iface tq vq] 99)).heap.size (w.alloc (.cells #[.iface tq vq] 99)) wa) (A5:Option Addr) (c5:Nat) (hL5:HasL wa (fun _=>True) (rootT ls (.app s l)) A5 0) =>
  contains_calls (rootT ls (.app s l)) T (tq,vq) w.heap.size A5 c5 wa (fun _=>True) ok2 hL5 ((hT.below hb1).below hb) hgr hgT (by omega) ((hb.block _ (by simp)).trans hbox) (by omega)
 have HC:=Aside0.mk hrc
 have HC2:=Aside0.mk hcc
 have HB1:=Aside0.mk hb1
 have HBOX:=Aside0.mk hbox
 clear hrc hcc hb1 hbox hgr hlr
 cases T with
 | var d =>
  have hTv:=Has.var_.1 hT
  cases hTv
  rw [restB] at hR
  subst hR
  have HA:=Aside0.mk hany
  obtain ⟨RT,hRT⟩:∃ RT,RT=rootT ls (.app s l):=⟨_,rfl⟩
  rw [←hRT] at HC HC2 HA
  rw [HA.out] at HC2
  unfold encI at HC ⊢
  clear hL hT hgS hgT hsS hsT hls hln hany hRT ih hcap hl
  go_enter Tryz.func78,Tryz.ntmps78
  go_wp2_with (first|(go_at_call 123;refine HC.out.mono ?_;rintro e wa ⟨v0,rfl,hrow,hba⟩;obtain ⟨A5,c5,rfl,hc5,hL5⟩:=hrow.read (fun _ _=>trivial);have HX:=Aside0.mk (And.intro hba hL5);clear hrow hba hc5 hL5)|(go_at_call 122;refine (HC2.out _ HX.out.1 _ _ HX.out.2).mono ?_;rintro e wc ⟨rfl,hbc⟩;have HY:=Aside0.mk (below_step (below_step HB1.out HX.out.1) hbc);have hbxc:=(hbc.block _ (Nat.lt_of_lt_of_le (by simp) HX.out.1.size)).trans ((HX.out.1.block _ (by simp)).trans HBOX.out);have HBC:=Aside0.mk hbxc;have hcx:=(fun (o:Obj)=>blk_cell (blk_alloc hbxc o) 0);clear hbc hbxc))
  go_ret
  exact ⟨rfl,HY.out.trans ((below_alloc (below_alloc (Below.refl _ _) _) _).mono HY.out.size)⟩
 | app s' l' =>
  obtain ⟨A',cap',hTa,hc',hL'⟩:=Has.app_.1 hT
  cases hTa
  rw [restB] at hR
  by_cases hss:s'=s
  ·rw [if_pos hss] at hR
   subst hss
   have hl2:=good_len hgS
   have hl2':=good_len hgT
   rw [Tm.good] at hgS
   have hgT0:=hgT
   rw [Tm.good] at hgT
   have hll:l.length=l'.length:=by omega
   have HP:=Aside0.mk (And.intro ih (And.intro hl (And.intro hL' (And.intro hgS (And.intro hgT (And.intro hsS (And.intro hsT (And.intro hl2 (And.intro hll (And.intro hR (And.intro hT (And.intro hgT0 (And.intro hL (And.intro hls hln))))))))))))))
   have HA:=Aside0.mk hany
   obtain ⟨RT,hRT⟩:∃ RT,RT=rootT ls (.app s' l):=⟨_,rfl⟩
   rw [←hRT] at HC HC2 HA
   rw [HA.out] at HC2
   unfold encI at HC ⊢
   clear ih hl hL' hgS hgT hsS hsT hl2 hl2' hll hR hT hgT0 hL hls hln hany hRT hcap hc'
   go_enter Tryz.func78,Tryz.ntmps78
   go_wp2_with (first|(go_at_call 123;refine HC.out.mono ?_;rintro e wa ⟨v0,rfl,hrow,hba⟩;obtain ⟨A5,c5,rfl,hc5,hL5⟩:=hrow.read (fun _ _=>trivial);have HX:=Aside0.mk (And.intro hba hL5);clear hrow hba hc5 hL5)|(go_at_call 122;refine (HC2.out _ HX.out.1 _ _ HX.out.2).mono ?_;rintro e wc ⟨rfl,hbc⟩;have HY:=Aside0.mk (below_step (below_step HB1.out HX.out.1) hbc);have hbxc:=(hbc.block _ (Nat.lt_of_lt_of_le (by simp) HX.out.1.size)).trans ((HX.out.1.block _ (by simp)).trans HBOX.out);have HBC:=Aside0.mk hbxc;have hcx:=(fun (o:Obj)=>blk_cell (blk_alloc hbxc o) 0);clear hbc hbxc))
   go_loopw [45] (fun v45 wr=>∃ (i:Nat),v45=.int .i64 (i:Int)∧Aside0 (i≤l.length)∧Aside0 (R=leadsL ls s' (l.take i) (l.drop i) (l'.drop i) (.app s' l'))∧Aside0 (Below ((wc.alloc (.cells #[.int .u8 s',.slice A l.length cap] 149)).alloc (.cells #[.int .u8 s',.slice A' l'.length cap'] 149)).heap.size ((wc.alloc (.cells #[.int .u8 s',.slice A l.length cap] 149)).alloc (.cells #[.int .u8 s',.slice A' l'.length cap'] 149)) wr)) (fun v45 _=>l.length - (intOf v45).toNat)
   case atStart=>exact ⟨0,rfl,⟨Nat.zero_le _⟩,⟨HP.out.2.2.2.2.2.2.2.2.2.1⟩,⟨Below.refl _ _⟩⟩
   case round =>
    obtain ⟨i,rfl,HI,HR,HB⟩:=hrel
    obtain ⟨ih,hl,hL',hgS,hgT,hsS,hsT,hl2,hll,hR,hT,hgT0,hL,hls,hln⟩:=HP.out
    have hbX2:Below w.heap.size w ((wc.alloc (.cells #[.int .u8 s',.slice A l.length cap] 149)).alloc (.cells #[.int .u8 s',.slice A' l'.length cap'] 149)):=HY.out.trans ((below_alloc (below_alloc (Below.refl _ _) _) _).mono HY.out.size)
    have hbw:Below w.heap.size w wr:=hbX2.trans (HB.out.mono hbX2.size)
    have hz2:((wc.alloc (.cells #[.int .u8 s',.slice A l.length cap] 149)).alloc (.cells #[.int .u8 s',.slice A' l'.length cap'] 149)).heap.size=wc.heap.size+2:=by simp
    have hx7:wr.heap[wc.heap.size]?=some (.cells #[.int .u8 s',.slice A l.length cap] 149 (0,0)):=(HB.out.block _ (by omega)).trans (blk_alloc (blk_new wc _) _)
    have hx9:wr.heap[wc.heap.size+1]?=some (.cells #[.int .u8 s',.slice A' l'.length cap'] 149 (0,0)):=(HB.out.block _ (by omega)).trans (by have:=blk_new (wc.alloc (.cells #[.int .u8 s',.slice A l.length cap] 149)) (.cells #[.int .u8 s',.slice A' l'.length cap'] 149);simpa using this)
    have hx0:wr.heap[w.heap.size]?=some (.cells #[.iface 149 (.agg #[.int .u8 s',.slice A' l'.length cap'])] 99 (0,0)):=(HB.out.block _ (by have:=(gl_ HBC.out);omega)).trans (blk_alloc (blk_alloc HBC.out _) _)
    by_cases hlt:i < l.length
    ·have hlb:decide ((i:Int) < (l.length:Int))=true:=decide_eq_true (by omega)
     have hlt':i < l'.length:=by omega
     obtain ⟨g,cs,ps,rfl,hokg,hgc,hps,hpc⟩:=hl.pairs (by omega)
     obtain ⟨g',cs',ps',rfl,hokg',hgc',hps',hpc'⟩:=hL'.pairs (by omega)
     have hgl:=(gl_ hgc)
     have hgl':=(Array.getElem?_eq_some_iff.1 hgc').1
     have hgr:=(hbw.block g hgl).trans hgc
     have hgr':=(hbw.block g' hgl').trans hgc'
     obtain ⟨hc1,hq1⟩:=hpc i hlt (by omega)
     obtain ⟨hc2',hq2⟩:=hpc' i hlt' (by omega)
     obtain ⟨⟨t1,p1⟩,hp1⟩:∃ p,p=ps[i]'(by omega):=⟨_,rfl⟩
     obtain ⟨⟨t2,p2⟩,hp2⟩:∃ p,p=ps'[i]'(by omega):=⟨_,rfl⟩
     rw [←hp1] at hc1 hq1
     rw [←hp2] at hc2' hq2
     have hcell:wr.cell? ⟨g,i,none⟩=some (.iface t1 p1):=(blk_cell hgr i).trans hc1
     have hci2:cs'[i]?=some (.iface t2 p2):=hc2'
     have hps0:0 < ps.length:=by omega
     have hcl:∀ w',Below wr.heap.size wr w'→Calls Tryz.prog 126 #[.slice (some ⟨g,0,none⟩) l.length cap] w' fun e w''=>∃ (g2 cap2:Nat) (cells2:Array Value),e=.returned (.slice (some ⟨g2,0,none⟩) l.length cap2)∧l.length≤cap2∧w'.heap.size≤g2∧w''.heap[g2]?=some (.cells cells2 99 (0,0))∧(∀ j (h:j < ps.length),cells2[j]?=some (encI ps[j]))∧Below w'.heap.size w' w'':=by
      intro w' hb'
      have:=clone_calls ps g cap cs w' ((hb'.block g (gl_ hgr)).trans hgr) (fun j hj=>(hpc j (by omega) hj).1) (by omega)
      rw [hps] at this
      refine this.mono (fun e w'' hh=>?_)
      obtain ⟨v',rfl,hR',hb''⟩:=hh
      obtain ⟨g2,cap2,cells2,hv,hc,hb,hg2,hcs2⟩:=kI_cells hR' hps0
      rw [hps] at hv hc
      exact ⟨g2,cap2,cells2,by rw [hv],hc,hb,hg2,hcs2,hb''⟩
     have hstep:=leadsL_step ls s' l l' (.app s' l') i hlt hlt'
     have hR1:=HR.out.trans hstep
     have hm1:l[i]∈l:=List.getElem_mem hlt
     have hm2:l'[i]∈l':=List.getElem_mem hlt'
     have hsz1:=sizes_mem l _ hm1
     have hsz2:=sizes_mem l' _ hm2
     have hS1:(Tm.app s' l).size=1+Tm.sizes l:=by rw [Tm.size]
     have hS2:(Tm.app s' l').size=1+Tm.sizes l':=by rw [Tm.size]
     have hmg:=mkT_good hlt hgS (goods_mem hgT.2.2 hm2)
     have hms:=mkT_size s' l i l'[i] hlt
     have hsame:=fun (w':World) (pm:Nat × Value) (hh:Has w' (fun _=>True) (mkT s' l i l'[i]) pm) (hb':Below w.heap.size w w') =>
      same_calls (mkT s' l i l'[i]) (.app s' l') pm (149,.agg #[.int .u8 s',.slice (some ⟨g',0,none⟩) l'.length cap']) w' (fun _=>True) ok2 hh (hT.below hb') hmg hgT0 (by omega) (by omega)
     have hlead:=fun (w':World) (hb':Below w.heap.size w w') =>
      ih l[i] hm1 l'[i] (t1,p1) (t2,p2) w' ok ok2 okL AL capL (hL.below hb') (hq1.below hb') (hq2.below hb') (goods_mem hgS.2.2 hm1) (goods_mem hgT.2.2 hm2) (by omega) (by omega)
     have w1i:wrap64 ((i:Int)+1)=(i:Int)+1:=wrp i (by omega)
     have HCL:=Aside0.mk hcl
     have HSM:=Aside0.mk hsame
     have HLD:=Aside0.mk hlead
     have HQ:=Aside0.mk (And.intro hbw (And.intro hps (And.intro hpc (And.intro hq2 (And.intro hR1 (And.intro hx0 (And.intro hx9 (And.intro hgr' (And.intro hl2 (And.intro hgc hgc'))))))))))
     have HBX:=Aside0.mk (And.intro hx7 (gl_ hx7))
     have HPS:=Aside0.mk hps0
     generalize hmT:mkT s' l i l'[i]=mk at *
     have HMT:=Aside0.mk hmT
     clear hmT hcl hsame hlead ih hl hL' hgS hgT hsS hsT hl2 hll hR hT hgT0 hL hls hln hbX2 hbw hz2 hx7 hx9 hx0 hokg hgc hps hpc hokg' hgc' hps' hpc' hgl hgl' hgr hgr' hc1 hq1 hc2' hq2 hp1 hp2 hps0 hstep hR1 hm1 hm2 hsz1 hsz2 hS1 hS2 hmg hms
     unfold encI at HSM HLD
     go_wp2
     have hbx:=HBX.out.1
     have hbxl:=HBX.out.2
     have hps0:=HPS.out
     refine start_ (n:=8) (S:=fun w'=>w'.cell? ⟨wc.heap.size,0,none⟩=some (.int .u8 s')∧w'.cell? ⟨wc.heap.size,1,none⟩=some (.slice (some ⟨g,0,none⟩) l.length cap)) (ds:=[7]) (bm 8 0) (by kernel_rfl) rfl rfl ⟨(blk_cell (blk_drew hbx) 0),(blk_cell (blk_drew hbx) 1)⟩ (fun hHeld=>?_)
     refine pk_ 0 50 (bm 8 1) ?_
     refine pk_ 2 52 (bm 8 5) ?_
     refine take_ (i:=1) (N:=some 51) (v:=?_) (a':=?_) (bm 8 7) rfl rfl (by kernel_rfl) (fun _ _ _ h=>h) (Or.inl ⟨by rfl,?_⟩) hHeld ?_ ?_;rotate_left;(rintro w' ⟨s0,s1⟩;go_simp;with_reducible rfl);rotate_left;exact tP_
     refine take_ (i:=3) (N:=some 53) (v:=?_) (a':=?_) (bm 8 15) rfl rfl (by kernel_rfl) (fun _ _ _ h=>h) (Or.inl ⟨by rfl,?_⟩) hHeld ?_ ?_;rotate_left;(rintro w' ⟨s0,s1⟩;go_simp;with_reducible rfl);rotate_left;exact tP_
     refine join_ (σ:=Nat × Nat × Nat) 1 #[true,true,true,true,true,true,true,false] (fun x=>[(54,.slice (some ⟨x.1,0,none⟩) l.length x.2.1),(55,.agg #[.int .u8 s',.slice (some ⟨x.1,0,none⟩) l.length x.2.1]),(13,.pointer (some ⟨x.2.2,0,none⟩))]) (fun x w'=>∃ cells2:Array Value,w'.heap[x.1]?=some (.cells cells2 99 (0,0))∧(∀ j (h:j < ps.length),cells2[j]?=some (encI ps[j]))∧w'.heap[x.2.2]?=some (.cells #[.int .u8 0,.slice none 0 0] 149 (0,0))∧Below wr.heap.size wr w'∧wr.heap.size≤x.1∧wr.heap.size≤x.2.2∧x.1≠x.2.2∧l.length≤x.2.1) ?_ ?_
     rotate_left
     ·intro hCont
      refine two_ (i:=4) (j:=6) (Ni:=some 54) (Nj:=some 13) #[true,true,true,true,true,false,false,false] #[true,true,true,true,false,false,true,false] rfl rfl rfl rfl (by kernel_rfl) (by decide) (by decide) (fun K hK=>?_) (fun K hK=>?_)
      ·skip
       refine goesD_ Tryz.func126 (by kernel_rfl) rfl #[.slice (some ⟨g,0,none⟩) l.length cap] (by rfl) rfl rfl (by simp only [List.map_toArray,List.map_cons,List.map_nil];rfl) ?_
       refine (HCL.out _ (below_draw _)).mono ?_
       rintro e w4 ⟨g2,cap2,cells2,rfl,hcap2,hbase2,hc2,hcs2,hbc⟩
       refine .inl ⟨_,rfl,?_⟩
       have hbb:wr.heap.size+0≤g2:=by simpa using hbase2
       have hb4:Below wr.heap.size wr w4:=⟨hbc.os,hbc.tape,hbc.output,hbc.size,hbc.block⟩
       have hbx4:=(hb4.block _ hbxl).trans hbx
       have hc40:=blk_cell hbx4 0
       have hc41:=blk_cell hbx4 1
       refine hK.out _ _ ⟨hc40,hc41⟩ (fun hHeld=>?_)
       clear hK K
       refine norm_ (a':=?_) ?_ ?_;rotate_left;(show Act.put _ (some 54) _=_;exact tP_)
       refine pk_ 5 55 (bm 8 63) ?_
       refine one_ (i:=6) (N:=some 13) (bm 8 127) rfl rfl (by kernel_rfl) (by decide) (fun K hK=>?_)
       refine value_ (w1:=?_) (v:=?_) (by rfl) rfl ?_ ?_
       rotate_left 2
       ·go_simp
        constructor
        ·rfl
        ·rfl
       have hc60:=blk_cell (blk_alloc hbx4 (.cells #[.int .u8 0,.slice none 0 0] 149)) 0
       have hc61:=blk_cell (blk_alloc hbx4 (.cells #[.int .u8 0,.slice none 0 0] 149)) 1
       refine hK.out _ _ ⟨hc60,hc61⟩ (fun hHeld=>?_)
       clear hK K
       refine norm_ (a':=?_) ?_ ?_;rotate_left;(show Act.put _ (some 13) _=_;exact tP_)
       exact norm_ (by simp only [putAll,Act.put,List.setIfInBounds_toArray,List.set_cons_zero,List.set_cons_succ]) (hCont (g2,cap2,w4.heap.size) _ ⟨cells2,blk_alloc hc2 _,hcs2,blk_new w4 _,below_step hb4 (below_alloc (Below.refl _ _) _),(show wr.heap.size≤g2 from by omega),hb4.size,(show g2≠w4.heap.size from by have:=(gl_ hc2);omega),hcap2⟩)
      ·skip
       refine value_ (w1:=?_) (v:=?_) (by rfl) rfl ?_ ?_
       rotate_left 2
       ·go_simp
        constructor
        ·rfl
        ·rfl
       have hbz1:Below wr.heap.size wr (wr.drew.alloc (.cells #[.int .u8 0,.slice none 0 0] 149)):=below_alloc (below_draw _) _
       have hnz1:(wr.drew.alloc (.cells #[.int .u8 0,.slice none 0 0] 149)).heap[wr.heap.size]?=some (.cells #[.int .u8 0,.slice none 0 0] 149 (0,0)):=blk_new wr.drew _
       have hlz1:wr.heap.size < (wr.drew.alloc (.cells #[.int .u8 0,.slice none 0 0] 149)).heap.size:=(gl_ hnz1)
       have hbx6:=(hbz1.block _ hbxl).trans hbx
       have hc60:=blk_cell hbx6 0
       have hc61:=blk_cell hbx6 1
       refine hK.out _ _ ⟨hc60,hc61⟩ (fun hHeld=>?_)
       clear hK K
       refine norm_ (a':=?_) ?_ ?_;rotate_left;(show Act.put _ (some 13) _=_;exact tP_)
       refine one_ (i:=4) (N:=some 54) (bm 8 95) rfl rfl (by kernel_rfl) (by decide) (fun K hK=>?_)
       refine goesD_ Tryz.func126 (by kernel_rfl) rfl #[.slice (some ⟨g,0,none⟩) l.length cap] (by rfl) rfl rfl (by simp only [List.map_toArray,List.map_cons,List.map_nil];rfl) ?_
       refine (HCL.out _ hbz1).mono ?_
       rintro e w4 ⟨g2,cap2,cells2,rfl,hcap2,hbase2,hc2,hcs2,hbc⟩
       refine .inl ⟨_,rfl,?_⟩
       have hbb:wr.heap.size+1≤g2:=by simpa using hbase2
       have hb4:Below wr.heap.size wr w4:=below_step hbz1 hbc
       have hbx4:=(hb4.block _ hbxl).trans hbx
       have hc40:=blk_cell hbx4 0
       have hc41:=blk_cell hbx4 1
       refine hK.out _ _ ⟨hc40,hc41⟩ (fun hHeld=>?_)
       clear hK K
       refine norm_ (a':=?_) ?_ ?_;rotate_left;(show Act.put _ (some 54) _=_;exact tP_)
       refine pk_ 5 55 (bm 8 127) ?_
       exact norm_ (by simp only [putAll,Act.put,List.setIfInBounds_toArray,List.set_cons_zero,List.set_cons_succ]) (hCont (g2,cap2,wr.heap.size) _ ⟨cells2,hc2,hcs2,(hbc.block _ hlz1).trans hnz1,hb4,(show wr.heap.size≤g2 from by omega),Nat.le_refl _,(show g2≠wr.heap.size from by omega),hcap2⟩)
     rintro ⟨g2,cap2,by0⟩ w5 ⟨cells2,hc2,hcs2,hy,hb5,hge1,hge2,hne,hcap2⟩
     dsimp only at hc2 hy hge1 hge2 hne hcap2 ⊢
     have hbx5:=(hb5.block _ hbxl).trans hbx
     have hHeld:w5.cell? ⟨wc.heap.size,0,none⟩=some (.int .u8 s')∧w5.cell? ⟨wc.heap.size,1,none⟩=some (.slice (some ⟨g,0,none⟩) l.length cap):=⟨blk_cell hbx5 0,blk_cell hbx5 1⟩
     have hcy0:w5.cell? ⟨by0,0,none⟩=some (.int .u8 0):=blk_cell hy 0
     have hcy1:w5.cell? ⟨by0,1,none⟩=some (.slice none 0 0):=blk_cell hy 1
     have hzy0:w5.frozen? ⟨by0,0,none⟩=false:=by simp [World.frozen?,hy]
     have hzy1:w5.frozen? ⟨by0,1,none⟩=false:=by simp [World.frozen?,hy]
     refine norm_ (a':=?_) ?_ ?_;rotate_left
     ·simp only [putAll,Act.put,List.setIfInBounds_toArray,List.set_cons_zero,List.set_cons_succ]
      rfl
     refine last_ (i:=7) (N:=none) (bm 8 255) rfl rfl (by kernel_rfl) (by decide) (fun K hK=>?_)
     refine skip_ (w1:=?_) (by rfl) rfl ?_ ?_
     rotate_left
     ·go_simp
      rfl
     refine hK.out _ _ ?_
     clear hK K
     refine done_ (by kernel_rfl) ?_
     obtain ⟨hbw,hps,hpc,hq2,hR1,hx0,hx9,hgr',hl2,hgc,hgc'⟩:=HQ.out
     have hy6:((w5.setCell ⟨by0,0,none⟩ (.int .u8 s')).setCell ⟨by0,1,none⟩ (.slice (some ⟨g2,0,none⟩) l.length cap2)).heap[by0]?=some (.cells #[.int .u8 s',.slice (some ⟨g2,0,none⟩) l.length cap2] 149 (0,0)):=(blk_set2 (blk_set2 hy (.int .u8 s')).1 _).2
     have hg6:((w5.setCell ⟨by0,0,none⟩ (.int .u8 s')).setCell ⟨by0,1,none⟩ (.slice (some ⟨g2,0,none⟩) l.length cap2)).heap[g2]?=some (.cells cells2 99 (0,0)):=(Below.heap_setCell _ ⟨by0,1,none⟩ _ g2 hne).trans ((Below.heap_setCell w5 ⟨by0,0,none⟩ _ g2 hne).trans hc2)
     have hb6:Below wr.heap.size wr ((w5.setCell ⟨by0,0,none⟩ (.int .u8 s')).setCell ⟨by0,1,none⟩ (.slice (some ⟨g2,0,none⟩) l.length cap2)):=(hb5.setCell (p:=⟨by0,0,none⟩) hge2 _).setCell (p:=⟨by0,1,none⟩) hge2 _
     obtain ⟨w6,hw6⟩:∃ w6,w6=((w5.setCell ⟨by0,0,none⟩ (.int .u8 s')).setCell ⟨by0,1,none⟩ (.slice (some ⟨g2,0,none⟩) l.length cap2)):=⟨_,rfl⟩
     rw [←hw6] at hy6 hg6 hb6 ⊢
     clear hw6 hcy0 hcy1 hzy0 hzy1 hy hc2 hb5 hHeld hbx5
     have hx96:=(hb6.block _ (gl_ hx9)).trans hx9
     have hgr6:=(hb6.block _ (Array.getElem?_eq_some_iff.1 hgr').1).trans hgr'
     obtain ⟨zi,hci⟩:∃ zi,w6.cell? ⟨g2,i,none⟩=some zi:=⟨_,(blk_cell hg6 i).trans (hcs2 i (by omega))⟩
     have hzi:w6.frozen? ⟨g2,i,none⟩=false:=by simp [World.frozen?,hg6]
     have hisz:i < cells2.size:=(Array.getElem?_eq_some_iff.1 (hcs2 i (by omega))).1
     have H6:=Aside0.mk (And.intro hbw (And.intro hps (And.intro hpc (And.intro hq2 (And.intro hR1 (And.intro hx0 (And.intro hx9 (And.intro hgr' (And.intro hl2 (And.intro hgc (And.intro hgc' (And.intro hg6 (And.intro hb6 (And.intro hisz (And.intro hcs2 (And.intro hge1 (And.intro hge2 (And.intro hne hcap2))))))))))))))))))
     have H62:=Aside0.mk (And.intro hy6 (And.intro hx96 hgr6))
     clear hbw hps hpc hq2 hR1 hx0 hx9 hgr' hl2 hgc hgc' hg6 hb6 hisz hcs2 hge1 hge2 hne hcap2 hy6 hx96 hgr6 hbx hbxl hps0
     go_wp2
     obtain ⟨hy6,hx96,hgr6⟩:=H62.out
     refine start_ (n:=10) (S:=fun w'=>w'.cell? ⟨by0,1,none⟩=some (.slice (some ⟨g2,0,none⟩) l.length cap2)∧w'.cell? ⟨wc.heap.size+1,1,none⟩=some (.slice (some ⟨g',0,none⟩) l'.length cap')∧w'.cell? ⟨g',i,none⟩=some (.iface t2 p2)) (ds:=[9]) (bm 10 0) (by kernel_rfl) rfl rfl ⟨(blk_cell (blk_drew hy6) 1),(blk_cell (blk_drew hx96) 1),((blk_cell (blk_drew hgr6) i).trans hci2)⟩ (fun hHeld=>?_)
     refine pk_ 0 56 (bm 10 1) ?_
     refine pk_ 2 58 (bm 10 5) ?_
     refine pk_ 3 59 (bm 10 13) ?_
     refine pk_ 5 61 (bm 10 45) ?_
     refine take_ (i:=1) (N:=some 57) (v:=?_) (a':=?_) (bm 10 47) rfl rfl (by kernel_rfl) (fun _ _ _ h=>h) (Or.inl ⟨by rfl,?_⟩) hHeld ?_ ?_;rotate_left;(rintro w' ⟨s0,s1,s2⟩;go_simp;with_reducible rfl);rotate_left;exact tP_
     refine take_ (i:=4) (N:=some 60) (v:=?_) (a':=?_) (bm 10 63) rfl rfl (by kernel_rfl) (fun _ _ _ h=>h) (Or.inl ⟨by rfl,?_⟩) hHeld ?_ ?_;rotate_left;(rintro w' ⟨s0,s1,s2⟩;go_simp;with_reducible rfl);rotate_left;exact tP_
     refine pk_ 6 62 (bm 10 127) ?_
     refine take_ (i:=7) (N:=some 63) (v:=?_) (a':=?_) (bm 10 255) rfl rfl (by kernel_rfl) (fun _ _ _ h=>h) (Or.inl ⟨by rfl,?_⟩) hHeld ?_ ?_;rotate_left;(rintro w' ⟨s0,s1,s2⟩;go_simp;with_reducible rfl);rotate_left;exact tP_
     refine pk_ 8 64 (bm 10 511) ?_
     refine last_ (i:=9) (N:=none) (bm 10 1023) rfl rfl (by kernel_rfl) (by decide) (fun K hK=>?_)
     refine skip_ (w1:=?_) (by rfl) rfl ?_ ?_
     rotate_left
     ·go_simp
      rfl
     refine hK.out _ _ ?_
     clear hK K
     refine done_ (by kernel_rfl) ?_
     obtain ⟨hbw,hps,hpc,hq2,hR1,hx0,hx9,hgr',hl2,hgc,hgc',hg6,hb6,hisz,hcs2,hge1,hge2,hne,hcap2⟩:=H6.out
     obtain ⟨cells7,hg7,hs7,ho7⟩:=blk_setN hg6 i hisz (.iface t2 p2)
     have hb7:Below wr.heap.size wr (w6.setCell ⟨g2,i,none⟩ (.iface t2 p2)).drew:=below_step (hb6.setCell (p:=⟨g2,i,none⟩) hge1 _) (below_draw _)
     have hy7:(w6.setCell ⟨g2,i,none⟩ (.iface t2 p2)).drew.heap[by0]?=some (.cells #[.int .u8 s',.slice (some ⟨g2,0,none⟩) l.length cap2] 149 (0,0)):=blk_drew ((Below.heap_setCell w6 ⟨g2,i,none⟩ _ by0 (fun e=>hne e.symm)).trans hy6)
     have hg7:=blk_drew hg7
     obtain ⟨w7,hw7⟩:∃ w7,w7=(w6.setCell ⟨g2,i,none⟩ (.iface t2 p2)).drew:=⟨_,rfl⟩
     rw [←hw7] at hb7 hy7 hg7 ⊢
     have hnew:Has w7 (fun _=>True) mk (149,.agg #[.int .u8 s',.slice (some ⟨g2,0,none⟩) l.length cap2]):=by
      rw [←HMT.out,mkT_set s' l i _ hlt]
      refine Has.app_.2 ⟨some ⟨g2,0,none⟩,cap2,by rw [List.length_set],by rw [List.length_set];exact hcap2,HasL.of trivial hg7 _ 0 (fun j hj=>?_)⟩
      rw [List.length_set] at hj
      rw [Nat.zero_add]
      by_cases hji:j=i
      ·subst hji
       refine ⟨(t2,p2),hs7,?_⟩
       rw [List.getElem_set_self]
       exact ((hq2.below hbw).below hb7).mono (fun _ _=>trivial)
      ·refine ⟨ps[j]'(by omega),(ho7 j hji).trans (hcs2 j (by omega)),?_⟩
       rw [List.getElem_set_ne (fun e=>hji e.symm)]
       exact (((hpc j hj (by omega)).2.below hbw).below hb7).mono (fun _ _=>trivial)
     have hx07:=(hb7.block _ (gl_ hx0)).trans hx0
     have hx97:=(hb7.block _ (gl_ hx9)).trans hx9
     have hgr7:=(hb7.block _ (Array.getElem?_eq_some_iff.1 hgr').1).trans hgr'
     have hsm7:=HSM.out w7 (149,.agg #[.int .u8 s',.slice (some ⟨g2,0,none⟩) l.length cap2]) hnew (below_step hbw hb7)
     dsimp only at hsm7
     have hd0:=blk_cell hy7 0
     have hd1:=blk_cell hy7 1
     have hd2:=blk_cell hx07 0
     have HS7:=Aside0.mk hsm7
     have H7:=Aside0.mk (And.intro hb7 (And.intro hbw (And.intro hx97 (And.intro hgr7 hR1))))
     clear hbw hps hpc hq2 hR1 hx0 hx9 hgr' hl2 hgc hgc' hg6 hb6 hisz hcs2 hge1 hge2 hne hcap2 hg7 hs7 ho7 hb7 hy7 hw7 hnew hx07 hx97 hgr7 hsm7 hy6 hx96 hgr6 hci hzi HMT
     generalize sameB mk (.app s' l')=rS at *
     generalize leadsT ls l[i] l'[i]=rL at *
     cases rS with
     | false =>
      go_wp2_with (go_at_call 125;refine HS7.out.mono ?_;rintro e w8 ⟨rfl,hb8⟩;have H8:=Aside0.mk hb8;clear hb8)
      obtain ⟨hb7,hbw,hx97,hgr7,hR1⟩:=H7.out
      rw [w1i]
      refine ⟨⟨i+1,by simp,⟨by omega⟩,⟨by simpa using hR1⟩,⟨(HB.out.trans (hb7.mono HB.out.size)).trans (H8.out.mono (Nat.le_trans HB.out.size hb7.size))⟩⟩,?_⟩
      simp only [intOf]
      omega
     | true =>
      cases rL with
      | true =>
       go_wp2_with (first
        | (go_at_call 125;refine HS7.out.mono ?_;rintro e w8 ⟨rfl,hb8⟩;have H8:=Aside0.mk hb8;have hx98:=blk_cell ((hb8.block _ (gl_ H7.out.2.2.1)).trans H7.out.2.2.1) 1;have hg8:=(blk_cell ((hb8.block _ (gl_ H7.out.2.2.2.1)).trans H7.out.2.2.2.1) i).trans hci2;clear hb8)
        | (go_at_call 78;refine (HLD.out _ (below_step (below_step H7.out.2.1 H7.out.1) H8.out)).mono ?_;rintro e w9 ⟨rfl,hb9⟩;have H9:=Aside0.mk hb9;clear hb9))
       obtain ⟨hb7,hbw,hx97,hgr7,hR1⟩:=H7.out
       go_ret
       exact ⟨by rw [hR1];rfl,below_step (below_step (below_step hbw hb7) H8.out) H9.out⟩
      | false =>
       go_wp2_with (first
        | (go_at_call 125;refine HS7.out.mono ?_;rintro e w8 ⟨rfl,hb8⟩;have H8:=Aside0.mk hb8;have hx98:=blk_cell ((hb8.block _ (gl_ H7.out.2.2.1)).trans H7.out.2.2.1) 1;have hg8:=(blk_cell ((hb8.block _ (gl_ H7.out.2.2.2.1)).trans H7.out.2.2.2.1) i).trans hci2;clear hb8)
        | (go_at_call 78;refine (HLD.out _ (below_step (below_step H7.out.2.1 H7.out.1) H8.out)).mono ?_;rintro e w9 ⟨rfl,hb9⟩;have H9:=Aside0.mk hb9;clear hb9))
       obtain ⟨hb7,hbw,hx97,hgr7,hR1⟩:=H7.out
       rw [w1i]
       refine ⟨⟨i+1,by simp,⟨by omega⟩,⟨by simpa using hR1⟩,⟨((HB.out.trans (hb7.mono HB.out.size)).trans (H8.out.mono (Nat.le_trans HB.out.size hb7.size))).trans (H9.out.mono (Nat.le_trans (Nat.le_trans HB.out.size hb7.size) H8.out.size))⟩⟩,?_⟩
       simp only [intOf]
       omega
    ·have hlb:decide ((i:Int) < (l.length:Int))=false:=decide_eq_false (by omega)
     have hfin:R=false:=by
      have:=HR.out
      rw [List.drop_of_length_le (by omega)] at this
      rw [this,leadsL]
     subst hfin
     have HE:=Aside0.mk hbw
     clear ih hl hL' hgS hgT hsS hsT hl2 hll hR hT hgT0 hL hls hln hbX2 hbw hz2 hx7 hx9 hx0
     go_wp2
     go_ret
     exact ⟨rfl,HE.out⟩
  ·rw [if_neg hss] at hR
   subst hR
   have hne:(s == s')=false:=beq_eq_false_iff_ne.2 (fun e=>hss e.symm)
   have hne2:(s' == s)=false:=beq_eq_false_iff_ne.2 hss
   have HA:=Aside0.mk hany
   obtain ⟨RT,hRT⟩:∃ RT,RT=rootT ls (.app s l):=⟨_,rfl⟩
   rw [←hRT] at HC HC2 HA
   rw [HA.out] at HC2
   unfold encI at HC ⊢
   clear hL hT hgS hgT hsS hsT hls hln hany hRT ih hcap hl hL' hc'
   go_enter Tryz.func78,Tryz.ntmps78
   go_wp2_with (first|(go_at_call 123;refine HC.out.mono ?_;rintro e wa ⟨v0,rfl,hrow,hba⟩;obtain ⟨A5,c5,rfl,hc5,hL5⟩:=hrow.read (fun _ _=>trivial);have HX:=Aside0.mk (And.intro hba hL5);clear hrow hba hc5 hL5)|(go_at_call 122;refine (HC2.out _ HX.out.1 _ _ HX.out.2).mono ?_;rintro e wc ⟨rfl,hbc⟩;have HY:=Aside0.mk (below_step (below_step HB1.out HX.out.1) hbc);have hbxc:=(hbc.block _ (Nat.lt_of_lt_of_le (by simp) HX.out.1.size)).trans ((HX.out.1.block _ (by simp)).trans HBOX.out);have HBC:=Aside0.mk hbxc;have hcx:=(fun (o:Obj)=>blk_cell (blk_alloc hbxc o) 0);clear hbc hbxc))
   go_ret
   exact ⟨rfl,HY.out.trans ((below_alloc (below_alloc (Below.refl _ _) _) _).mono HY.out.size)⟩
end
theorem leads_calls (ls:List (Tm × Tm)) (hls:LawsGood ls) (hln:ls.length≤1000):∀ S,LdOk ls S:=by
 refine Tm.ind (fun c T p q w ok ok2 okL AL capL hL hS hT hgS hgT hsS hsT=>?_) (fun s l ih T p q w ok ok2 okL AL capL hL hS hT hgS hgT hsS hsT=>?_)
 ·cases hany:(rootT ls (.var c)).any (fun u=>sameB u T) with
  | true =>
   rw [leadsT,hany]
   exact leads_yes ls hls hln (.var c) p T q w ok ok2 okL AL capL hL hS hT hgS hgT hsS hsT hany
  | false =>
   rw [leadsT,hany]
   rw [Has.var_] at hS
   subst hS
   exact leads_var ls hls hln c T q w ok ok2 okL AL capL hL hT hgS hgT hsS hsT hany
 ·cases hany:(rootT ls (.app s l)).any (fun u=>sameB u T) with
  | true =>
   rw [leadsT_app,hany,Bool.true_or]
   exact leads_yes ls hls hln (.app s l) p T q w ok ok2 okL AL capL hL hS hT hgS hgT hsS hsT hany
  | false =>
   rw [leadsT_app,hany,Bool.false_or]
   rw [Has.app_] at hS
   obtain ⟨A,cap,rfl,hc,hl⟩:=hS
   exact leads_app ls hls hln s l ih A cap T q w ok ok2 okL AL capL hL hc hl hT hgS hgT hsS hsT hany _ rfl
end Go.Proofs.YtaafeallcaiooaaGreat.Pr
