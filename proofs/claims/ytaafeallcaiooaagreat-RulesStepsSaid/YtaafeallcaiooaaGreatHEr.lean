/- Reach as the printer takes it. -/
import Derived.Test.YtaafeallcaiooaaGreatHQd
import Derived.Test.YtaafeallcaiooaaGreatHOf
namespace Go.Proofs.YtaafeallcaiooaaGreat.Pr
open Go.RowKit Go.Maps Go.Proofs.Zw Go.Proofs.Zl Go.Proofs.Zm
set_option linter.unusedVariables false
set_option linter.unusedSimpArgs false
theorem below_bs {B m:Nat} {w wa:World} (h:Below B w wa) (hm:B≤m) (hB:B≤wa.heap.size) (o:Obj):Below B w (blockSet wa m o):=h.trans ((but_blockSet wa m o).below hm hB)
theorem R_side {W w1:World} {base:Nat} {ok:Nat→Prop} {u v:Value} {xs:List ByteArray} (h:Kd.R Kd.string 9 W base ok u xs) (hg:W.grownBy w1 v.ownBlock) (hne:∀ k,u.ownBlock=some k→some k≠v.ownBlock):Kd.R Kd.string 9 w1 base ok u xs :=
 Kd.R_of_own (enc:=Value.string) (h1:=fun _=>rfl) (own_move (Kd.own_of_R h) fun k hk=>hg.block k (own_lt (Kd.own_of_R h) k hk) (hne k hk)) h.1
theorem R_bs {W:World} {base m:Nat} {ok:Nat→Prop} {u:Value} {xs:List ByteArray} (h:Kd.R Kd.string 9 W base ok u xs) (hne:∀ k,u.ownBlock=some k→k≠m) (o:Obj):Kd.R Kd.string 9 (blockSet W m o) base ok u xs :=
 Kd.R_of_own (enc:=Value.string) (h1:=fun _=>rfl) (own_blockSet (Kd.own_of_R h) hne) h.1
theorem SetAt.grown {W w1:World} {m:Nat} {kn:List ByteArray} {v:Value} (h:SetAt W m kn) (hg:W.grownBy w1 v.ownBlock) (hne:some m≠v.ownBlock):SetAt w1 m kn:=h.move (hg.block m h.lt hne)
def MB (w:World) (k:Nat):Prop:=w.heap.size≤k∧k≠w.heap.size
theorem Has.bs {w wa:World} {ok:Nat→Prop} {t:Tm} {p:Nat × Value} (h:Has w ok t p) (hb:Below w.heap.size w wa) (o:Obj):Has (blockSet wa w.heap.size o) ok t p:=h.below (below_bs hb (Nat.le_refl _) hb.size o)
set_option maxRecDepth 100000 in
set_option maxHeartbeats 4000000 in
theorem reach_calls (ls:List (Tm × Tm)) (hls:LawsGood ls) (hln:ls.length≤1000) (T:Tm) (hg:T.good) (hs:T.size≤60) (q:Nat × Value) (w:World) (ok okL:Nat→Prop) (AL:Option Addr) (capL:Nat) (hL:HasW w okL ls AL) (hT:Has w ok T q) (n:Nat) (hn:n≤5) :
  Calls Tryz.prog 106 #[.slice AL ls.length capL,encI q,.int .i64 (n:Int)] w (OutRc w (reachS ls n [] [T.text])):=by
 obtain ⟨RR,hRR⟩:∃ r,reachS ls n [] [T.text]=r:=⟨_,rfl⟩
 rw [hRR]
 have hmm:=@run_makeMap Tryz.prog
 obtain ⟨tid,pv⟩:=q
 obtain ⟨F,hF⟩:∃ F,F=txF (tid,pv):=⟨_,rfl⟩
 have hm1:∀ w,(method 337 tid pv "numnah/rules.text").run Tryz.prog w=.ok (F,pv) w:=hF ▸ meth_text hT
 have hm2:∀ args w,(callFunc F args).run Tryz.prog w=.ok (.enter F args) w:=hF ▸ enters_text hT
 have htx:=fun w' h=>text_calls T (tid,pv) w' ok h hg (by omega)
 rw [←hF] at htx
 have htxs:isTx T.text:=⟨T,hg,hs,rfl⟩
 have HTX:=Aside0.mk htx
 have HT:=Aside0.mk hT
 have HP:=Aside0.mk (And.intro hls (And.intro hln (And.intro hL (And.intro hRR (And.intro hn htxs)))))
 clear htx hT hls hln hL hRR hn htxs hF hg hs
 unfold encI
 generalize T.text=x0 at *
 go_enter Tryz.func106,Tryz.ntmps106
 go_wp2_with (first
  | (with_reducible refine (HTX.out (w.alloc (.map #[] 0)) (HT.out.alloc _)).mono ?_;rintro e wa ⟨rfl,hb⟩;obtain ⟨o,ho,hs1⟩:=((SetAt.new w).below hb).put x0;have H1:=Aside0.mk (And.intro (below_step (below_alloc (Below.refl _ _) _) hb) hs1);clear hb hs1)
  | (with_reducible refine (HTX.out _ (HT.out.bs H1.out.1 o)).mono ?_;rintro e wb ⟨rfl,hb⟩;have H2:=Aside0.mk (And.intro (below_step (below_bs H1.out.1 (Nat.le_refl _) H1.out.1.size o) hb) (H1.out.2.below hb));clear hb))
 go_loopw [8,9,23] (fun v8 v9 v23 wr=>∃ (k f:Nat) (done last out kn:List ByteArray),v9=.int .i64 (f:Int)∧v23=.int .i64 (k:Int)∧Aside0 (k≤n)∧Aside0 (out=done++last∧f=done.length)∧Aside0 (reachS ls (n - k) done last=RR)∧Aside0 (Kd.R Kd.string 9 wr w.heap.size (MB w) v8 out)∧Aside0 (SetAt wr w.heap.size kn∧∀ x,x∈kn↔x∈out)∧Aside0 ((∀ s,s∈last→isTx s)∧out.length≤300)∧Aside0 (Below w.heap.size w wr)) (fun _ _ v23 _=>n - (intOf v23).toNat)
 case atStart =>
  obtain ⟨hls,hln,hL,hRR,hn,htxs⟩:=HP.out
  have hb:=H2.out.1
  have ho1:=World.ownsRow_lit (base:=w.heap.size) (e:=9) (size:=1) wb #[.string x0] 1 hb.size (by unfold maxLen;decide) (by simp)
  refine ⟨0,0,[],[x0],[x0],[x0],rfl,rfl,⟨Nat.zero_le _⟩,⟨rfl,rfl⟩,⟨hRR⟩,⟨Kd.R_of_own (enc:=Value.string) (h1:=fun _=>rfl) ho1 (fun k hk=>?_)⟩,⟨H2.out.2.below (below_alloc (Below.refl _ _) _),fun x=>Iff.rfl⟩,⟨fun s hs=>?_,by simp⟩,⟨below_alloc hb _⟩⟩
  ·have hlt:=H2.out.2.lt
   have:wb.heap.size=k:=by simpa [Value.ownBlock] using hk
   exact ⟨by omega,by omega⟩
  ·obtain rfl:=List.mem_singleton.1 hs
   exact htxs
 case round =>
  obtain ⟨k,f,done,last,out,kn,rfl,rfl,HK,HF,HE,HO,HS,HQ,HB⟩:=hrel
  obtain ⟨A8,c8,rfl⟩:=Kd.R_slice HO.out
  by_cases hkn:k < n
  ·have hkb:decide ((k:Int) < (n:Int))=true:=decide_eq_true (by omega)
   obtain ⟨hls,hln,hL,hRR,hn,htxs⟩:=HP.out
   have hE2:=HE.out
   obtain ⟨ho1,ho2⟩:=HF.out
   rw [show n - k=(n - (k+1))+1 by omega,reachS,←ho1] at hE2
   obtain ⟨RL,hRL⟩:∃ r,levelS ls out [] last=r:=⟨_,rfl⟩
   rw [hRL] at hE2
   have hol:out.length=f+last.length:=by rw [ho1,ho2,List.length_append]
   obtain ⟨i9,hi9,_,hsz9,_⟩:=info_parts info9
   have hcut:=cut_from (P:=Tryz.prog) 36 9 .i64 Tryz.underlying36 hi9 1 hsz9 A8 out.length c8 (f:Int) (by omega) (by omega)
   rw [Int.toNat_natCast,show out.length - f=last.length by omega] at hcut
   obtain ⟨A27,hA27⟩:∃ A,A=(if c8=f then A8 else A8.map (·.add (f * 1))):=⟨_,rfl⟩
   rw [←hA27] at hcut
   have hC27:∀ W (oo:Nat→Prop),Kd.R Kd.string 9 W w.heap.size oo (.slice A8 out.length c8) out→Kd.C Kd.string W A27 last.length last:=by
    intro W oo h
    have h1:=Kd.C_drop (m:=f) (c:=c8) (Kd.R_reads' h).2.2 (by omega) (Kd.R_reads' h).2.1
    have h2:out.drop f=last:=by rw [ho1,ho2,List.drop_left]
    rw [h2] at h1
    rw [hA27]
    exact h1
   have hlast:last.length≤300:=by have:=HQ.out.2;omega
   have HC:=Aside0.mk (And.intro hC27 (And.intro hRL (And.intro hE2 (And.intro hol (And.intro hlast hkn)))))
   clear hls hln hL hRR hn htxs hE2 ho1 ho2 hRL hol hi9 hsz9 hA27 hC27 hlast
   go_wp2
   go_loopw [10,29] (fun v10 v29 wm=>∃ (i:Nat) (fr km:List ByteArray),v29=.int .i64 (i:Int)∧Aside0 (i≤last.length)∧Aside0 (levelS ls out fr (last.drop i)=RL)∧Aside0 (Kd.R Kd.string 9 wm w.heap.size (fun k=>MB w k∧some k≠(Value.slice A8 out.length c8).ownBlock) v10 fr)∧Aside0 (Kd.R Kd.string 9 wm w.heap.size (MB w) (.slice A8 out.length c8) out)∧Aside0 (SetAt wm w.heap.size km∧∀ x,x∈km↔x∈out++fr)∧Aside0 (fr.length≤i * 60000)∧Aside0 (Below w.heap.size w wm)) (fun _ v29 _=>last.length - (intOf v29).toNat)
   case atStart =>
    exact ⟨0,[],kn,rfl,⟨Nat.zero_le _⟩,⟨by rw [List.drop_zero];exact HC.out.2.1⟩,⟨Kd.R_nil _ _ _ _ _⟩,HO,⟨HS.out.1,fun x=>by rw [List.append_nil];exact HS.out.2 x⟩,⟨Nat.zero_le _⟩,HB⟩
   case round =>
    obtain ⟨i,fr,km,rfl,HI,HV,HO10,HO8,HS2,HL2,HB2⟩:=hrel
    by_cases hlt:i < last.length
    ·have hib:decide ((i:Int) < (last.length:Int))=true:=decide_eq_true (by omega)
     obtain ⟨hls,hln,hL,hRR,hn,htxs⟩:=HP.out
     obtain ⟨hC27,hRL,hE2,hol,hlast,_⟩:=HC.out
     obtain ⟨ad,e27,hx⟩:=Kd.at_string (hC27 _ _ HO8.out) (i:Int) (by omega) (by omega)
     rw [rdOf_at last i hlt,Int.toNat_natCast] at hx
     have htx:=HQ.out.1 _ (List.getElem_mem hlt)
     have hv:=HV.out
     rw [List.drop_eq_getElem_cons hlt,levelS] at hv
     generalize last[i]=s at *
     subst e27
     obtain ⟨t,hr,hgt,hst,hsx⟩:=isTx_read htx
     clear hsx
     have hrc:=fun w':World=>read_calls (fun _=>True) s w' (fun _ _=>trivial)
     rw [hr] at hrc
     have hnx:=fun (q:Nat × Value) (w':World) (hW:HasW w' okL ls AL) (hq:Has w' (fun _=>True) t q)=>next_calls ls hls hln t q w' (fun _=>True) okL AL capL hW hq hgt hst (fun _ _=>trivial)
     have hLm:=hL.below HB2.out
     have hns:nextS ls s=(nextT ls t).map textsT:=by unfold nextS;rw [hr,Option.bind_some]
     rw [hns] at hv
     cases hN:nextT ls t with
     | none =>
      rw [hN] at hnx hv
      have hRLn:RL=none:=hv.symm
      rw [hRLn] at hE2
      have hRRn:RR=none:=hE2.symm
      have HR:=Aside0.mk hrc
      have HX:=Aside0.mk hnx
      have HLM:=Aside0.mk (And.intro hLm hRRn)
      clear hls hln hL hRR hn htxs hC27 hRL hE2 hol hlast htx hv hr hgt hst hrc hnx hLm hns hN hRLn hRRn
      go_wp2_with (first
       | (go_at_call 69;refine (HR.out _).mono ?_;rintro e w2 ⟨hb,⟨t2,p2⟩,he,hp⟩;obtain rfl:e=.returned (.iface t2 p2):=he;have H3:=Aside0.mk (And.intro hb hp);clear hb hp)
       | (go_at_call 99;refine (HX.out (t2,p2) _ (HLM.out.1.below H3.out.1) H3.out.2).mono ?_;rintro e w3 ⟨hb,rfl⟩;have H4:=Aside0.mk (below_step (below_step HB2.out H3.out.1) hb);clear hb))
      rw [HLM.out.2]
      exact ⟨rfl,rfl,H4.out⟩
     | some r =>
      have hrl:=nextT_len ls t r hN
      have hrg:=nextT_good hls t r hgt hst hN
      have hrs:=nextT_size hN
      have hmul:(ls.length:Int) * t.size≤1000 * 60:=Int.mul_le_mul (by omega) hst (by have:=Tm.size_pos t;omega) (by omega)
      have htxc:=fun (A:Option Addr) (cap:Nat) (w':World) (hL:HasL w' (fun _=>True) r A 0)=>texts_calls r (fun t ht=>⟨hrg t ht,by have:=hrs t ht;omega⟩) (by omega) A cap w' (fun _=>True) hL
      rw [hN] at hnx hv
      have husl:=textsT_len r
      obtain ⟨us,hus⟩:∃ us,us=textsT r:=⟨_,rfl⟩
      rw [←hus] at htxc husl
      have hv2:levelS ls out (freshS out fr us) (last.drop (i+1))=RL:=by rw [hus];exact hv
      obtain ⟨FR,hFR⟩:∃ f,freshS out fr us=f:=⟨_,rfl⟩
      rw [hFR] at hv2
      have hul:us.length≤60000:=by omega
      have HR:=Aside0.mk hrc
      have HX:=Aside0.mk hnx
      have HTC:=Aside0.mk htxc
      have HLM:=Aside0.mk (And.intro hLm (And.intro hv2 (And.intro hFR (And.intro hul hlt))))
      clear hls hln hL hRR hn htxs hC27 hRL hE2 hol hlast htx hv hr hgt hst hrc hnx hLm hns hN hrl hrg hrs hmul htxc husl hus hv2 hFR hul
      have W1I:=Aside0.mk (wrp i (by have:=HC.out.2.2.2.2.1;omega):wrap64 ((i:Int)+1)=(i:Int)+1)
      go_wp2_with (first
       | (go_at_call 69;refine (HR.out _).mono ?_;rintro e w2 ⟨hb,⟨t2,p2⟩,he,hp⟩;obtain rfl:e=.returned (.iface t2 p2):=he;have H3:=Aside0.mk (And.intro hb hp);clear hb hp)
       | (go_at_call 99;refine (HX.out (t2,p2) _ (HLM.out.1.below H3.out.1) H3.out.2).mono ?_;rintro e w3 ⟨hb,v3,rfl,hrow⟩;obtain ⟨A3,c3,rfl,_,hL3⟩:=hrow.read (fun _ _=>trivial);have H4:=Aside0.mk (And.intro (below_on H3.out.1 hb) hL3);clear hb hrow hL3)
       | (go_at_call 98;refine (HTC.out _ _ _ H4.out.2).mono ?_;rintro e w4 ⟨v4,rfl,hr4,hb⟩;obtain ⟨A37,c37,rfl⟩:=Kd.R_slice hr4;have H5:=Aside0.mk (And.intro (below_on H4.out.1 hb) (Kd.R_mono (ok':=fun k=>w3.heap.size≤k) hr4 (fun _ hk=>hk)));clear hb hr4))
      go_loopw [10,39] (fun v10 v39 wi=>∃ (j:Nat) (fr1 k1:List ByteArray),v39=.int .i64 (j:Int)∧Aside0 (j≤us.length)∧Aside0 (freshS out fr1 (us.drop j)=FR)∧Aside0 (Kd.R Kd.string 9 wi w.heap.size (fun k=>(MB w k∧some k≠(Value.slice A8 out.length c8).ownBlock)∧some k≠(Value.slice A37 us.length c37).ownBlock) v10 fr1)∧Aside0 (Kd.R Kd.string 9 wi w.heap.size (MB w) (.slice A8 out.length c8) out)∧Aside0 (SetAt wi w.heap.size k1∧∀ x,x∈k1↔x∈out++fr1)∧Aside0 (Kd.R Kd.string 9 wi w3.heap.size (fun k=>w3.heap.size≤k) (.slice A37 us.length c37) us)∧Aside0 (fr1.length≤fr.length+j)∧Aside0 (Below w.heap.size w wi)) (fun _ v39 _=>us.length - (intOf v39).toNat)
      case atStart =>
       obtain ⟨hLm,hv2,hFR,hul,hlt⟩:=HLM.out
       have hs4:=H4.out.1.size
       refine ⟨0,fr,km,rfl,⟨Nat.zero_le _⟩,⟨by rw [List.drop_zero];exact hFR⟩,⟨Kd.R_mono (Kd.R_below (Kd.R_bound HO10.out) H5.out.1) fun k hk=>⟨hk.1,fun e=>?_⟩⟩,⟨Kd.R_below HO8.out H5.out.1⟩,⟨HS2.out.1.below H5.out.1,HS2.out.2⟩,⟨H5.out.2⟩,⟨Nat.le_refl _⟩,⟨below_step HB2.out H5.out.1⟩⟩
       have h1:=H5.out.2.1 k e.symm
       have h2:=hk.2.2.1
       omega
      case round =>
       obtain ⟨j,fr1,k1,rfl,HJ,HF1,H10,H8,HS3,H37,HLn,HB3⟩:=hrel
       by_cases hj:j < us.length
       ·have hjb:decide ((j:Int) < (us.length:Int))=true:=decide_eq_true (by omega)
        obtain ⟨ad2,e37,hx2⟩:=Kd.at_string (Kd.R_reads' H37.out).2.2 (j:Int) (by omega) (by omega)
        rw [rdOf_at us j hj,Int.toNat_natCast] at hx2
        have hf:=HF1.out
        rw [List.drop_eq_getElem_cons hj,freshS] at hf
        have W1J:=Aside0.mk (wrS (by omega) (by have:=HLM.out.2.2.2.1;omega):wrap64 ((j:Int)+1)=(j:Int)+1)
        generalize us[j]=u at *
        subst e37
        obtain ⟨A10,c10,rfl⟩:=Kd.R_slice H10.out
        have hlk:=HS3.out.1.look u
        by_cases hm:u∈out++fr1
        ·rw [if_pos hm] at hf
         rw [decide_eq_true ((HS3.out.2 u).2 hm)] at hlk
         have HH:=Aside0.mk (And.intro hf hj)
         clear hf hm
         go_wp2
         obtain ⟨hf,hj⟩:=HH.out
         rw [W1J.out]
         refine ⟨⟨j+1,fr1,k1,by simp,⟨by omega⟩,⟨hf⟩,H10,H8,HS3,H37,⟨by have:=HLn.out;omega⟩,HB3⟩,?_⟩
         simp only [intOf]
         omega
        ·rw [if_neg hm] at hf
         rw [decide_eq_false (fun h=>hm ((HS3.out.2 u).1 h))] at hlk
         obtain ⟨o2,ho2,hs2⟩:=HS3.out.1.put u
         have hbl:=HS3.out.1.lt
         have hap:∀ k,(Value.slice A10 fr1.length c10).ownBlock=some k→(MB w k∧some k≠(Value.slice A8 out.length c8).ownBlock)∧some k≠(Value.slice (some ad2) us.length c37).ownBlock:=H10.out.1
         have hAF:∀ k,(blockSet wr w.heap.size o2).heap.size≤k→(MB w k∧some k≠(Value.slice A8 out.length c8).ownBlock)∧some k≠(Value.slice (some ad2) us.length c37).ownBlock:=fun k hk=>by
          rw [set_size] at hk
          refine ⟨⟨⟨by omega,by omega⟩,fun e=>?_⟩,fun e=>?_⟩
          ·have:=own_lt (Kd.own_of_R H8.out) k e.symm
           omega
          ·have:=own_lt (Kd.own_of_R H37.out) k e.symm
           omega
         have hAO:=R_bs H10.out (fun k hk=>(hap k hk).1.1.2) o2
         have hA8:=R_bs H8.out (fun k hk=>(H8.out.1 k hk).2) o2
         have hA37:=R_bs H37.out (m:=w.heap.size) (fun k hk=>by have:=H37.out.1 k hk;have:=H4.out.1.size;have:=HB2.out.size;have:=HS2.out.1.lt;omega) o2
         have hAB:=below_bs HB3.out (Nat.le_refl _) HB3.out.size o2
         have hAS:w.heap.size≤(blockSet wr w.heap.size o2).heap.size:=hAB.size
         have hAL:(fr1.length+1) * 16≤140737488355328:=by have:=HLn.out;have:=HL2.out;have:=HC.out.2.2.2.2.1;have:=HJ.out;have:=HLM.out.2.2.2.1;omega
         have HA:=Aside0.mk (And.intro hf (And.intro hj (And.intro hap (And.intro hAF (And.intro hAO (And.intro hA8 (And.intro hA37 (And.intro hAB (And.intro hAS (And.intro hAL hs2))))))))))
         clear hf hap hAF hAO hA8 hA37 hAB hAS hAL hs2 hm hbl
         go_wp2_with ((with_reducible refine gate_builtin (b:=.append) (xs:=#[.tmp 49,.tmp 51]) rfl ?_);at_builtin;refine Kd.R_append Kd.string (w0:=w) w.heap.size rfl (.tmp 49) (.tmp 51) 36 9 (.string ⟨#[]⟩) 16 rfl Tryz.underlying36 info9 rfl (by decide) (by omega) (.slice A10 fr1.length c10) fr1 u [.string u] (fun k=>(MB w k∧some k≠(Value.slice A8 out.length c8).ownBlock)∧some k≠(Value.slice (some ad2) us.length c37).ownBlock) (fun _=>False) rfl rfl ?aP (fun _ hk=>hk.elim) ?aF ?aO ?aB ?aS ?aL ?_;(case aP=>exact rfl);(case aF=>exact HA.out.2.2.2.1);(case aO=>exact HA.out.2.2.2.2.1);(case aB=>exact HA.out.2.2.2.2.2.2.2.1);(case aS=>exact HA.out.2.2.2.2.2.2.2.2.1);(case aL=>exact HA.out.2.2.2.2.2.2.2.2.2.1);intro v1 w5 ho5 hb5 hg5 hat5;have H5x:=Aside0.mk (And.intro ho5 (And.intro hb5 hg5));clear ho5 hb5 hg5 hat5)
         obtain ⟨hf,hj,hap,hAF,hAO,hA8,hA37,hAB,hAS,hAL,hs2⟩:=HA.out
         obtain ⟨ho5,hb5,hg5⟩:=H5x.out
         rw [W1J.out]
         refine ⟨⟨j+1,fr1++[u],k1++[u],by simp,⟨by omega⟩,⟨hf⟩,⟨ho5⟩,⟨R_side hA8 hg5 fun k hk e=>(hap k e.symm).1.2 hk.symm⟩,⟨hs2.grown hg5 fun e=>(hap _ e.symm).1.1.2 rfl,fun x=>?_⟩,⟨R_side hA37 hg5 fun k hk e=>(hap k e.symm).2 hk.symm⟩,⟨by rw [List.length_append,List.length_singleton];have:=HLn.out;omega⟩,⟨hb5⟩⟩,?_⟩
         ·have:=HS3.out.2 x
          simp only [List.mem_append,List.mem_singleton] at this ⊢
          rw [this,or_assoc]
         ·simp only [intOf]
          omega
       ·have hjb:decide ((j:Int) < (us.length:Int))=false:=decide_eq_false (by omega)
        have hf:=HF1.out
        rw [List.drop_of_length_le (by omega),freshS] at hf
        subst hf
        go_wp2
        obtain ⟨hLm,hv2,hFR,hul,hlt⟩:=HLM.out
        rw [W1I.out]
        refine ⟨⟨i+1,fr1,k1,by simp,⟨by omega⟩,⟨hv2⟩,⟨Kd.R_mono H10.out fun k hk=>hk.1⟩,H8,HS3,⟨?_⟩,HB3⟩,?_⟩
        ·have h1:=HLn.out
         have h2:=HL2.out
         have h3:=HJ.out
         omega
        ·simp only [intOf]
         omega
    ·have hib:decide ((i:Int) < (last.length:Int))=false:=decide_eq_false (by omega)
     obtain ⟨A10,c10,rfl⟩:=Kd.R_slice HO10.out
     obtain ⟨hls,hln,hL,hRR,hn,htxs⟩:=HP.out
     obtain ⟨hC27,hRL,hE2,hol,hlast,_⟩:=HC.out
     have hv:=HV.out
     rw [List.drop_of_length_le (by omega),levelS] at hv
     rw [←hv,Option.bind_some] at hE2
     have hlv:levelS ls out [] last=some fr:=by rw [hRL,←hv]
     have hnd:fr.Nodup:=level_nodup ls out last [] fr hlv List.nodup_nil
     have hfl:fr.length≤18000000:=by have:=HL2.out;have:=HI.out;omega
     have hSV:=fun W base oo (h:Kd.R Kd.string 9 W base oo (.slice A10 fr.length c10) fr)=>sortedV_calls (.slice A10 fr.length c10) fr base oo W h hnd (by omega)
     have hVV:=fun W=>callsIn_wide.1 (Sq.values_in Fence.wide 5 trivial rfl A10 fr.length c10 W)
     have hsl:=sortS_len hnd
     obtain ⟨out2,ho2⟩:∃ o,o=out++sortS fr:=⟨_,rfl⟩
     rw [←ho2] at hE2
     have HSV:=Aside0.mk hSV
     have HVV:=Aside0.mk hVV
     have HO2:=Aside0.mk ho2
     have HAL:=Aside0.mk (show (out.length+(sortS fr).length) * 16≤140737488355328 by have:=HQ.out.2;omega)
     have W1K:=Aside0.mk (wrp k (by omega):wrap64 ((k:Int)+1)=(k:Int)+1)
     by_cases hz:out2.length≤300
     ·have hzb:decide ((out2.length:Int)≤300)=true:=decide_eq_true (by omega)
      rw [if_pos hz] at hE2
      have HE3:=Aside0.mk (And.intro hE2 hlv)
      clear hls hln hL hRR hn htxs hC27 hRL hE2 hol hlast hv hlv hnd hfl hSV hVV hsl ho2
      go_wp2_with (first
       | (go_at_call 135;refine (HVV.out _).mono ?_;rintro e w2 ⟨rfl,h2⟩;subst w2)
       | (go_at_call 132;refine (HSV.out _ _ _ HO10.out).mono ?_;rintro e w3 ⟨v60,rfl,hr,hb⟩;obtain ⟨A60,c60,rfl⟩:=Kd.R_slice hr;have H3:=Aside0.mk (And.intro hr ((below_alloc (Below.refl _ _) (.cells #[.slice A10 fr.length c10] 36)).trans (hb.mono (Nat.le_succ _))));clear hr hb)
       | (go_at_call 67;refine (demand_ok _ _).mono ?_;rintro e w8 ⟨rfl,h8⟩;subst w8)
       | ((with_reducible refine gate_builtin (b:=.append) (xs:=#[.tmp 57,.tmp 60]) rfl ?_);at_builtin;refine Kd.R_append_rows Kd.string (w0:=w) w.heap.size rfl (.tmp 57) (.tmp 60) 36 9 (.string ⟨#[]⟩) 16 rfl Tryz.underlying36 info9 rfl (by decide) (by omega) (.slice A8 out.length c8) out (sortS fr) _ _ _ (MB w) (fun _=>False) rfl rfl ?aO ?aR (fun _ _ h=>h) (fun _ h=>h.elim) ?aF ?aB ?aS ?aL ?_;(case aO=>exact Kd.R_below HO8.out H3.out.2);(case aR=>exact (Kd.R_reads' H3.out.1).2.2);(case aF=>exact fun k hk=>⟨Nat.le_trans HB2.out.size (Nat.le_trans H3.out.2.size hk),fun e=>Nat.lt_irrefl _ (Nat.lt_of_lt_of_le HS2.out.1.lt (Nat.le_trans H3.out.2.size (e ▸ hk)))⟩);(case aB=>exact below_step HB2.out H3.out.2);(case aS=>exact Nat.le_trans HB2.out.size H3.out.2.size);(case aL=>exact HAL.out);intro v1 w5 ho5 hb5 hg5 hat5;rw [←HO2.out] at ho5;obtain ⟨Ax,cx,rfl⟩:=Kd.R_slice ho5;have H5:=Aside0.mk (And.intro ho5 (And.intro hb5 hg5));clear ho5 hb5 hg5 hat5))
      obtain ⟨hE2,hlv⟩:=HE3.out
      obtain ⟨ho5,hb5,hg5⟩:=H5.out
      rw [W1K.out]
      refine ⟨⟨k+1,out.length,out,sortS fr,out2,km,by first|rfl|simp,by simp,⟨hkn⟩,⟨HO2.out,rfl⟩,⟨hE2⟩,⟨ho5⟩,⟨(HS2.out.1.below H3.out.2).grown hg5 fun e=>(HO8.out.1 _ e.symm).2 rfl,fun x=>?_⟩,⟨fun s hs=>?_,hz⟩,⟨hb5⟩⟩,?_⟩
      ·rw [HO2.out,HS2.out.2 x,List.mem_append,List.mem_append,mem_sortS]
      ·rcases (mem_level ls _ s _ _ _ hlv).1 (mem_sortS.1 hs) with h|⟨_,s',_,us,h1,h2⟩
       ·cases h
       ·exact nextS_isTx HP.out.1 h1 s h2
      ·simp only [intOf]
       omega
     ·have hzb:decide ((out2.length:Int)≤300)=false:=decide_eq_false (by omega)
      rw [if_neg hz] at hE2
      have HE3:=Aside0.mk hE2
      clear hls hln hL hRR hn htxs hC27 hRL hE2 hol hlast hv hlv hnd hfl hSV hVV hsl ho2
      go_wp2_with (first
       | (go_at_call 135;refine (HVV.out _).mono ?_;rintro e w2 ⟨rfl,h2⟩;subst w2)
       | (go_at_call 132;refine (HSV.out _ _ _ HO10.out).mono ?_;rintro e w3 ⟨v60,rfl,hr,hb⟩;obtain ⟨A60,c60,rfl⟩:=Kd.R_slice hr;have H3:=Aside0.mk (And.intro hr ((below_alloc (Below.refl _ _) (.cells #[.slice A10 fr.length c10] 36)).trans (hb.mono (Nat.le_succ _))));clear hr hb)
       | (go_at_call 67;refine (demand_no _ _).mono ?_;rintro e w8 ⟨rfl,h8⟩;subst w8)
       | ((with_reducible refine gate_builtin (b:=.append) (xs:=#[.tmp 57,.tmp 60]) rfl ?_);at_builtin;refine Kd.R_append_rows Kd.string (w0:=w) w.heap.size rfl (.tmp 57) (.tmp 60) 36 9 (.string ⟨#[]⟩) 16 rfl Tryz.underlying36 info9 rfl (by decide) (by omega) (.slice A8 out.length c8) out (sortS fr) _ _ _ (MB w) (fun _=>False) rfl rfl ?aO ?aR (fun _ _ h=>h) (fun _ h=>h.elim) ?aF ?aB ?aS ?aL ?_;(case aO=>exact Kd.R_below HO8.out H3.out.2);(case aR=>exact (Kd.R_reads' H3.out.1).2.2);(case aF=>exact fun k hk=>⟨Nat.le_trans HB2.out.size (Nat.le_trans H3.out.2.size hk),fun e=>Nat.lt_irrefl _ (Nat.lt_of_lt_of_le HS2.out.1.lt (Nat.le_trans H3.out.2.size (e ▸ hk)))⟩);(case aB=>exact below_step HB2.out H3.out.2);(case aS=>exact Nat.le_trans HB2.out.size H3.out.2.size);(case aL=>exact HAL.out);intro v1 w5 ho5 hb5 hg5 hat5;rw [←HO2.out] at ho5;obtain ⟨Ax,cx,rfl⟩:=Kd.R_slice ho5;have H5:=Aside0.mk (And.intro ho5 (And.intro hb5 hg5));clear ho5 hb5 hg5 hat5))
      rw [←HE3.out]
      exact ⟨rfl,rfl,H5.out.2.1⟩
  ·have hkb:decide ((k:Int) < (n:Int))=false:=decide_eq_false (by omega)
   have hR0:RR=some out:=by
    rw [←HE.out,show n - k=0 by omega,reachS,HF.out.1]
   go_wp2
   go_ret
   rw [hR0]
   exact ⟨_,rfl,Kd.R_mono HO.out fun k hk=>hk.1,HB.out⟩
theorem enters105:∀ args w,(callFunc 105 args).run Tryz.prog w=.ok (.enter 105 args) w:=fun args w=>enters_ Tryz.func105 (by kernel_rfl) rfl args w
def resRc:Option (List ByteArray)→Int × List ByteArray
 | none=>(5,[])
 | some l=>(0,l)
def reachT (rs:List S94) (s:ByteArray) (steps:Int):Int × List ByteArray :=
 match newLawsT rs with
 | none=>(2,[])
 | some ls=>match readT s with
  | none=>(4,[])
  | some t=>if 0≤steps∧steps≤5 then resRc (reachS ls steps.toNat [] [t.text]) else (2,[])
theorem within_no {x:Int} {lo hi:Int} (h:¬ (lo≤x∧x≤hi)):withinB x lo hi=false:=by
 unfold withinB
 by_cases h1:x≥lo
 ·rw [decide_eq_false (show ¬ x≤hi from fun h2=>h ⟨h1,h2⟩),Bool.and_false]
 ·rw [decide_eq_false h1,Bool.false_and]
theorem within_ok {x:Int} {lo hi:Int} (h:lo≤x∧x≤hi):withinB x lo hi=true:=by
 unfold withinB
 rw [decide_eq_true (show x≥lo from h.1),decide_eq_true h.2]
 rfl
set_option maxRecDepth 100000 in
set_option maxHeartbeats 1000000 in
theorem reach1_calls (rs:List S94) (s:ByteArray) (steps:Int) (A0:Option Addr) (c0 b0 b1 b2 b3:Nat) (w:World) (hC0:Kd.C k94 w A0 rs.length rs) (hb0:w.heap[b0]?=some (.cells #[.slice A0 rs.length c0] 35 (0,0))) (hb1:w.heap[b1]?=some (.cells #[.string s] 9 (0,0))) (hb2:w.heap[b2]?=some (.cells #[.int .i64 steps] 3 (0,0))) (hb3:w.heap[b3]?=some (.cells #[.slice none 0 0] 36 (0,0))) :
  Calls Tryz.prog 105 #[.pointer (some ⟨b0,0,none⟩),.pointer (some ⟨b1,0,none⟩),.pointer (some ⟨b2,0,none⟩),.pointer (some ⟨b3,0,none⟩)] w fun e w'=>e=endE (reachT rs s steps).1∧But b3 w w'∧StrsAt w w' b3 (reachT rs s steps).2:=by
 have hx0:=blk_cell hb0 0
 have hnl:=newLaws_calls rs A0 c0 w hC0
 cases hL:newLawsT rs with
 | none =>
  have e:reachT rs s steps=(2,[]):=by unfold reachT;rw [hL]
  rw [e]
  rw [hL] at hnl
  have HC:=Aside0.mk hnl
  have HB2:=Aside0.mk hb3
  clear hnl hC0 hb0 hb1 hb2 hb3 hL e
  go_enter Tryz.func105,Tryz.ntmps105
  go_wp2_with (go_at_call 77;refine HC.out.mono ?_;rintro e w1 ⟨hb,rfl⟩;have H1:=Aside0.mk hb;clear hb)
  exact ⟨rfl,rfl,But.of_below H1.out,StrsAt.nil HB2.out H1.out⟩
 | some ls =>
  have hlg:=newLawsT_good hL
  rw [hL] at hnl
  have hrc:=fun w':World=>read_calls (fun _=>True) s w' (fun _ _=>trivial)
  cases hR:readT s with
  | none =>
   have e:reachT rs s steps=(4,[]):=by unfold reachT;rw [hL];dsimp only;rw [hR]
   rw [e]
   rw [hR] at hrc
   have HC:=Aside0.mk hnl
   have HR:=Aside0.mk hrc
   have HB2:=Aside0.mk (And.intro hb3 hb1)
   clear hnl hC0 hb0 hb1 hb2 hb3 hL hR e hrc hlg
   go_enter Tryz.func105,Tryz.ntmps105
   go_wp2_with (first
    | (go_at_call 77;refine HC.out.mono ?_;rintro e w1 ⟨hb,A2,c2,rfl,hW⟩;have hx1:=blk_cell (blk_below HB2.out.2 hb) 0;have H1:=Aside0.mk (And.intro hb hW);clear hb hW)
    | (go_at_call 69;refine (HR.out _).mono ?_;rintro e w2 ⟨hb,rfl⟩;have H2:=Aside0.mk (below_on H1.out.1 hb);clear hb))
   exact ⟨rfl,rfl,But.of_below H2.out,StrsAt.nil HB2.out.1 H2.out⟩
  | some T =>
   have hgd:=readT_good hR
   rw [hR] at hrc
   have HC:=Aside0.mk hnl
   have HR:=Aside0.mk hrc
   have HB2:=Aside0.mk (And.intro hb3 (And.intro hb1 hb2))
   by_cases hm:0≤steps∧steps≤5
   ·have hwi:=within_ok hm
    obtain ⟨m,rfl⟩:∃ m:Nat,steps=(m:Int):=⟨steps.toNat,by omega⟩
    have hm5:m≤5:=by omega
    obtain ⟨RR,hRR⟩:∃ r,reachS ls m [] [T.text]=r:=⟨_,rfl⟩
    have e:reachT rs s (m:Int)=resRc RR:=by
     unfold reachT
     rw [hL];dsimp only;rw [hR];dsimp only;rw [if_pos hm,Int.toNat_natCast,hRR]
    rw [e]
    have hrch:=fun (q:Nat × Value) (w':World) (okL:Nat→Prop) (A2:Option Addr) (c2:Nat) (hW:HasW w' okL ls A2) (hq:Has w' (fun _=>True) T q)=>reach_calls ls hlg.1 (by omega) T hgd.1 hgd.2 q w' (fun _=>True) okL A2 c2 hW hq m hm5
    rw [hRR] at hrch
    have HX:=Aside0.mk hrch
    clear hnl hC0 hb0 hb1 hb2 hb3 hL hR hrc hlg hgd hrch hm hRR e hm5
    cases RR with
    | none =>
     unfold resRc
     dsimp only
     go_enter Tryz.func105,Tryz.ntmps105
     go_wp2_with (first
      | (go_at_call 77;refine HC.out.mono ?_;rintro e w1 ⟨hb,A2,c2,rfl,hW⟩;have hx1:=blk_cell (blk_below HB2.out.2.1 hb) 0;have H1:=Aside0.mk (And.intro hb hW);clear hb hW)
      | (go_at_call 69;refine (HR.out _).mono ?_;rintro e w2 ⟨hb,⟨tid,pv⟩,he,hp⟩;obtain rfl:e=.returned (.iface tid pv):=he;have hx2:=blk_cell (blk_below HB2.out.2.2 (below_on H1.out.1 hb)) 0;have H2:=Aside0.mk (And.intro (below_on H1.out.1 hb) (And.intro (H1.out.2.below hb) hp));clear hb hp)
      | (go_at_call 101;refine (within_calls _ _ _ _).mono ?_;rintro e w3 ⟨rfl,h3⟩;subst w3;rw [hwi])
      | (go_at_call 67;refine (demand_ok _ _).mono ?_;rintro e w3 ⟨rfl,h3⟩;subst w3)
      | (go_at_call 106;refine (HX.out (tid,pv) _ _ _ _ H2.out.2.1 H2.out.2.2).mono ?_;rintro e w4 ⟨rfl,hb⟩;have H4:=Aside0.mk (below_on H2.out.1 hb);clear hb))
     exact ⟨rfl,rfl,But.of_below H4.out,StrsAt.nil HB2.out.1 H4.out⟩
    | some l =>
     unfold resRc
     dsimp only
     go_enter Tryz.func105,Tryz.ntmps105
     go_wp2_with (first
      | (go_at_call 77;refine HC.out.mono ?_;rintro e w1 ⟨hb,A2,c2,rfl,hW⟩;have hx1:=blk_cell (blk_below HB2.out.2.1 hb) 0;have H1:=Aside0.mk (And.intro hb hW);clear hb hW)
      | (go_at_call 69;refine (HR.out _).mono ?_;rintro e w2 ⟨hb,⟨tid,pv⟩,he,hp⟩;obtain rfl:e=.returned (.iface tid pv):=he;have hx2:=blk_cell (blk_below HB2.out.2.2 (below_on H1.out.1 hb)) 0;have H2:=Aside0.mk (And.intro (below_on H1.out.1 hb) (And.intro (H1.out.2.below hb) hp));clear hb hp)
      | (go_at_call 101;refine (within_calls _ _ _ _).mono ?_;rintro e w3 ⟨rfl,h3⟩;subst w3;rw [hwi])
      | (go_at_call 67;refine (demand_ok _ _).mono ?_;rintro e w3 ⟨rfl,h3⟩;subst w3)
      | (go_at_call 106;refine (HX.out (tid,pv) _ _ _ _ H2.out.2.1 H2.out.2.2).mono ?_;rintro e w4 ⟨v4,rfl,hr4,hb⟩;obtain ⟨A4,c4,rfl⟩:=own_slice (Kd.own_of_R hr4);have H5:=Aside0.mk (blk_below (blk_below HB2.out.1 H2.out.1) hb);have H4:=Aside0.mk (And.intro (below_on H2.out.1 hb) hr4);clear hb hr4;have hz:=blk_frozen H5.out 0;have hd:w4.cell? ⟨b3,0,none⟩=some (.slice none 0 0):=blk_cell H5.out 0))
     have hf1:But b3 w (w4.setCell ⟨b3,0,none⟩ (.slice A4 l.length c4)):=(But.of_below H4.out.1).trans (But.set _ 0 _)
     have hf2:(w4.setCell ⟨b3,0,none⟩ (.slice A4 l.length c4)).heap[b3]?=some (.cells #[.slice A4 l.length c4] 36 (0,0)):=blk_setCell H5.out _
     have hf3:Kd.R Kd.string 9 (w4.setCell ⟨b3,0,none⟩ (.slice A4 l.length c4)) w.heap.size (fun k=>w.heap.size≤k) (.slice A4 l.length c4) l:=by
      have ho:=own_weaken (Kd.own_of_R H4.out.2) (show w.heap.size≤w2.heap.size from H2.out.1.size)
      exact Kd.R_of_own (own_setCell ho (own_ne ho H5.out (by decide)) _) (fun k hk=>own_base ho k hk)
     generalize (w4.setCell ⟨b3,0,none⟩ (.slice A4 l.length c4))=w9 at *
     simp [bodyPost,results,Tryz.results105]
     exact ⟨rfl,hf1,_,hf2,hf3⟩
   ·have e:reachT rs s steps=(2,[]):=by unfold reachT;rw [hL];dsimp only;rw [hR];dsimp only;rw [if_neg hm]
    rw [e]
    have hwi:=within_no hm
    clear hnl hC0 hb0 hb1 hb2 hb3 hL hR e hrc hlg hgd hm
    go_enter Tryz.func105,Tryz.ntmps105
    go_wp2_with (first
     | (go_at_call 77;refine HC.out.mono ?_;rintro e w1 ⟨hb,A2,c2,rfl,hW⟩;have hx1:=blk_cell (blk_below HB2.out.2.1 hb) 0;have H1:=Aside0.mk (And.intro hb hW);clear hb hW)
     | (go_at_call 69;refine (HR.out _).mono ?_;rintro e w2 ⟨hb,⟨tid,pv⟩,he,hp⟩;obtain rfl:e=.returned (.iface tid pv):=he;have hx2:=blk_cell (blk_below HB2.out.2.2 (below_on H1.out.1 hb)) 0;have H2:=Aside0.mk (And.intro (below_on H1.out.1 hb) (And.intro (H1.out.2.below hb) hp));clear hb hp)
     | (go_at_call 101;refine (within_calls _ _ _ _).mono ?_;rintro e w3 ⟨rfl,h3⟩;subst w3;rw [hwi])
     | (go_at_call 67;refine (demand_no _ _).mono ?_;rintro e w3 ⟨rfl,h3⟩;subst w3))
    exact ⟨rfl,rfl,But.of_below H2.out.1,StrsAt.nil HB2.out.1 H2.out.1⟩
theorem reachT_err {rs:List S94} {s:ByteArray} {steps:Int} (h:(reachT rs s steps).1≠0):(reachT rs s steps).2=[]:=by
  unfold reachT at h ⊢
  cases hL:newLawsT rs with
  | none=>rfl
  | some ls =>
    rw [hL] at h
    dsimp only at h ⊢
    cases hR:readT s with
    | none=>rfl
    | some t =>
      rw [hR] at h
      dsimp only at h ⊢
      split at h
      · rename_i hm
        rw [if_pos hm]
        cases hX:reachS ls steps.toNat [] [t.text] with
        | none=>rfl
        | some l=>rw [hX] at h;exact absurd rfl h
      · rename_i hm
        rw [if_neg hm]
set_option maxRecDepth 100000 in
set_option maxHeartbeats 1000000 in
theorem reachE_calls (rs:List S94) (s:ByteArray) (steps:Int) (A0:Option Addr) (c0:Nat) (w:World) (hC0:Kd.C k94 w A0 rs.length rs) :
    Calls Tryz.prog 56 #[.slice A0 rs.length c0,.string s,.int .i64 steps] w fun e w'=>∃ v,e=.returned (.tuple #[v,.int .i64 (reachT rs s steps).1])∧Kd.R Kd.string 9 w' w.heap.size (fun k=>w.heap.size≤k) v (reachT rs s steps).2∧Below w.heap.size w w':=by
  have herr:=@reachT_err rs s steps
  obtain ⟨r,l,hv⟩:∃ r l,reachT rs s steps=(r,l):=⟨_,_,rfl⟩
  have h1:=fun b0 b1 b2 b3 w' hC=>reach1_calls rs s steps A0 c0 b0 b1 b2 b3 w' hC
  rw [hv] at h1 herr ⊢
  dsimp only at h1 herr ⊢
  obtain ⟨w3,hw3⟩:∃ w3,w3=(((w.alloc (.cells #[.slice A0 rs.length c0] 35)).alloc (.cells #[.string s] 9)).alloc (.cells #[.int .i64 steps] 3)).alloc (.cells #[.slice none 0 0] 36):=⟨_,rfl⟩
  have hB3:Below w.heap.size w w3:=by rw [hw3];exact below_alloc (below_alloc (below_alloc (below_alloc (Below.refl _ _) _) _) _) _
  have hsz:w3.heap.size=w.heap.size+4:=by rw [hw3];simp
  have hk0:w3.heap[w.heap.size]?=some (.cells #[.slice A0 rs.length c0] 35 (0,0)):=by rw [hw3];exact blk_alloc (blk_alloc (blk_alloc (blk_new w _) _) _) _
  have hk1:w3.heap[w.heap.size+1]?=some (.cells #[.string s] 9 (0,0)):=by rw [hw3];exact blk_alloc (blk_alloc (blk_new1 w _ _) _) _
  have hk2:w3.heap[w.heap.size+2]?=some (.cells #[.int .i64 steps] 3 (0,0)):=by
    rw [hw3]
    have:=blk_new ((w.alloc (.cells #[.slice A0 rs.length c0] 35)).alloc (.cells #[.string s] 9)) (.cells #[.int .i64 steps] 3)
    rw [World.size_alloc,World.size_alloc] at this
    exact blk_alloc this _
  have hk3:w3.heap[w.heap.size+3]?=some (.cells #[.slice none 0 0] 36 (0,0)):=by
    rw [hw3]
    have:=blk_new (((w.alloc (.cells #[.slice A0 rs.length c0] 35)).alloc (.cells #[.string s] 9)).alloc (.cells #[.int .i64 steps] 3)) (.cells #[.slice none 0 0] 36)
    rwa [World.size_alloc,World.size_alloc,World.size_alloc] at this
  have hg:=guard_keeps 105 enters105 #[.pointer (some ⟨w.heap.size,0,none⟩),.pointer (some ⟨w.heap.size+1,0,none⟩),.pointer (some ⟨w.heap.size+2,0,none⟩),.pointer (some ⟨w.heap.size+3,0,none⟩)] w3 (fun c w1=>c=r∧But (w.heap.size+3) w3 w1∧StrsAt (w3.alloc (.cells #[.int .i64 0] 26)) w1 (w.heap.size+3) l) ((h1 w.heap.size (w.heap.size+1) (w.heap.size+2) (w.heap.size+3) (w3.alloc (.cells #[.int .i64 0] 26)) (Kd.C_below hC0 (below_alloc hB3 _)) (blk_alloc hk0 _) (blk_alloc hk1 _) (blk_alloc hk2 _) (blk_alloc hk3 _)).mono (fun e w1 hh=>by
    obtain ⟨rfl,hb,hv1⟩:=hh
    have hbt:But (w.heap.size+3) w3 w1:=(But.of_below (below_alloc (Below.refl _ _) _)).trans hb
    refine ⟨(hb.block _ (by simp) (by omega)).trans (blk_new w3 _),?_⟩
    by_cases hr:r=0
    · subst hr
      exact .inl ⟨rfl,rfl,hbt,hv1⟩
    · exact .inr ⟨r,endE_no hr,rfl,hbt,hv1⟩))
  have HG:=Aside0.mk hg
  have HB:=Aside0.mk hB3
  have HZ:=Aside0.mk hsz
  clear hg hB3 hsz hk0 hk1 hk2 hk3 hC0 h1 hv
  subst hw3
  by_cases hr0:r=0
  · subst hr0
    clear herr
    go_enter Tryz.func56,Tryz.ntmps56
    go_wp2_with (go_at_call 65;refine HG.out.mono ?_;rintro e w1 ⟨c,w2,rfl,⟨rfl,hb,v,hv1,hv3⟩,hb2⟩;obtain ⟨A4,c4,rfl⟩:=own_slice (Kd.own_of_R hv3);have hv2:=(hb2.block _ (gl_ hv1) (by have:=HZ.out;omega)).trans hv1;have hz0:=blk_frozen hv2 0;have hd0:w1.cell? ⟨w.heap.size+3,0,none⟩=some (.slice A4 l.length c4):=blk_cell hv2 0;have HH:=Aside0.mk (And.intro hb (And.intro hb2 (And.intro hv2 hv3)));clear hb hb2 hv2 hv3)
    have hz:=HZ.out
    have b1:=HB.out
    obtain ⟨b2,b3,hv2,hv3⟩:=HH.out
    have b4:Below w.heap.size w w1:=(b1.trans (b2.below (Nat.le_add_right _ _) (by omega))).trans (b3.below (by omega) (by have:=b2.size;omega))
    have ho:=Kd.own_of_R hv3
    have hg2:w1.ownsRow w.heap.size 9 1 (.slice A4 l.length c4) l.length (l.map Value.string):=own_weaken (own_move ho (fun k hk=>b3.block k (own_lt ho k hk) (by have:=own_base ho k hk;rw [World.size_alloc] at this;omega))) (by rw [World.size_alloc];omega)
    have hv9:(w1.setCell ⟨w.heap.size+1+1+1,0,none⟩ (.slice A4 l.length c4)).heap[w.heap.size+1+1+1]?=some (.cells #[.slice A4 l.length c4] 36 (0,0)):=blk_setCell hv2 _
    have hcc:(w1.setCell ⟨w.heap.size+1+1+1,0,none⟩ (.slice A4 l.length c4)).cell? ⟨w.heap.size+1+1+1,0,none⟩=some (.slice A4 l.length c4):=blk_cell hv9 0
    have b5:Below w.heap.size w (w1.setCell ⟨w.heap.size+1+1+1,0,none⟩ (.slice A4 l.length c4)):=below_set b4 (by omega)
    have hr5:Kd.R Kd.string 9 (w1.setCell ⟨w.heap.size+1+1+1,0,none⟩ (.slice A4 l.length c4)) w.heap.size (fun k=>w.heap.size≤k) (.slice A4 l.length c4) l:=Kd.R_of_own (own_setCell hg2 (own_ne hg2 (show w1.heap[w.heap.size+1+1+1]?=_ from hv2) (by decide)) _) (fun k hk=>own_base hg2 k hk)
    generalize w1.setCell ⟨w.heap.size+1+1+1,0,none⟩ (.slice A4 l.length c4)=w9 at *
    simp [bodyPost,results,Tryz.results56,go_sem,hcc]
    exact ⟨hr5,b5⟩
  · have hl0:l=[]:=herr hr0
    subst hl0
    clear herr
    have hrb:(r == 0)=false:=by simpa using hr0
    have hrn:(r != 0)=true:=by simpa using hr0
    go_enter Tryz.func56,Tryz.ntmps56
    go_wp2_with (go_at_call 65;refine HG.out.mono ?_;rintro e w1 ⟨c,w2,rfl,⟨rfl,hb,v,hv1,hv3⟩,hb2⟩;obtain ⟨A4,c4,rfl⟩:=own_slice (Kd.own_of_R hv3);have hv2:=(hb2.block _ (gl_ hv1) (by have:=HZ.out;omega)).trans hv1;have hz0:=blk_frozen hv2 0;have hd0:w1.cell? ⟨w.heap.size+3,0,none⟩=some (.slice A4 ([]:List ByteArray).length c4):=blk_cell hv2 0;have HH:=Aside0.mk (And.intro hb (And.intro hb2 hv2));clear hb hb2 hv2 hv3)
    have hz:=HZ.out
    have b1:=HB.out
    obtain ⟨b2,b3,hv2⟩:=HH.out
    have b4:Below w.heap.size w w1:=(b1.trans (b2.below (Nat.le_add_right _ _) (by omega))).trans (b3.below (by omega) (by have:=b2.size;omega))
    have hv9:(w1.setCell ⟨w.heap.size+1+1+1,0,none⟩ (.slice none 0 0)).heap[w.heap.size+1+1+1]?=some (.cells #[.slice none 0 0] 36 (0,0)):=blk_setCell hv2 _
    have hcc:(w1.setCell ⟨w.heap.size+1+1+1,0,none⟩ (.slice none 0 0)).cell? ⟨w.heap.size+1+1+1,0,none⟩=some (.slice none 0 0):=blk_cell hv9 0
    have b5:Below w.heap.size w (w1.setCell ⟨w.heap.size+1+1+1,0,none⟩ (.slice none 0 0)):=below_set b4 (by omega)
    generalize w1.setCell ⟨w.heap.size+1+1+1,0,none⟩ (.slice none 0 0)=w9 at *
    simp [bodyPost,results,Tryz.results56,go_sem,hcc]
    exact ⟨Kd.R_nil _ _ _ _ _,b5⟩
def rules_Reach.f (l0:List S94) (a1:ByteArray) (a2:Int):Option (List ByteArray × Int):=some ((reachT l0 a1 a2).2,(reachT l0 a1 a2).1)
theorem rules_Reach.calls (A0:Option Addr) (c0:Nat) (l0:List S94) (a1:ByteArray) (a2:Int) (r0:List ByteArray) (r1:Int) (w:World) (hr0:Kd.C k94 w A0 l0.length l0) (hc0:l0.length≤c0) (h:rules_Reach.f l0 a1 a2=some (r0,r1)) :
    Calls Tryz.prog 56 #[.slice A0 l0.length c0,.string a1,.int .i64 a2] w fun e w'=>∃ v0_,e=.returned (.tuple #[v0_,.int .i64 r1])∧Kd.R Kd.string 9 w' w.heap.size (fun _=>True) v0_ r0∧Below w.heap.size w w':=by
  unfold rules_Reach.f at h
  injection h with h
  injection h with h1 h2
  subst h1 h2
  refine (reachE_calls l0 a1 a2 A0 c0 w hr0).mono ?_
  rintro e w' ⟨v,rfl,h1,h2⟩
  exact ⟨v,rfl,Kd.R_of_own (Kd.own_of_R h1) (fun _ _=>trivial),h2⟩
end Go.Proofs.YtaafeallcaiooaaGreat.Pr
