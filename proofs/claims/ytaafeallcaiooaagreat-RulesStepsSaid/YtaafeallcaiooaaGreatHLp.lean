/- IsLoop. -/
import Derived.Test.YtaafeallcaiooaaGreatHLw
namespace Go.Proofs.YtaafeallcaiooaaGreat.Pr
open Go.RowKit Go.Maps Go.Proofs.Zw Go.Proofs.Zl Go.Proofs.Zm
set_option linter.unusedVariables false
set_option linter.unusedSimpArgs false
def endE (r:Int):Ending:=if r=0 then .returned (.tuple #[]) else troubled r
theorem endE_no {r:Int} (h:r≠0):endE r=troubled r:=if_neg h
theorem guarded (F:Nat) (he:Enters Tryz.prog F) (cap:Array Value) (w:World) (r:Int)
  (h:Calls Tryz.prog F cap (w.alloc (.cells #[.int .i64 0] 26)) fun e w1=>e=endE r∧Below (w.alloc (.cells #[.int .i64 0] 26)).heap.size (w.alloc (.cells #[.int .i64 0] 26)) w1) :
  Calls Tryz.prog 65 #[.func (.func F) #[] cap] w fun e w'=>e=.returned (.int .i64 r)∧Below w.heap.size w w':=by
 refine (guard_keeps F he cap w (fun c w1=>c=r∧Below w.heap.size w w1) (h.mono (fun e w1 hh=>?_))).mono (fun e w' hh=>?_)
 ·obtain ⟨rfl,hb⟩:=hh
  have hb2:Below w.heap.size w w1:=(below_alloc (Below.refl _ _) _).trans (hb.mono (by simp))
  refine ⟨(hb.block _ (by simp)).trans (blk_new w _),?_⟩
  by_cases hr:r=0
  ·subst hr
   exact .inl ⟨rfl,rfl,hb2⟩
  ·exact .inr ⟨r,endE_no hr,rfl,hb2⟩
 ·obtain ⟨c,w1,rfl,⟨rfl,hb⟩,hb2⟩:=hh
  exact ⟨rfl,hb.trans (hb2.below (Nat.le_refl _) hb.size)⟩
def readsT:List ByteArray→Option (List Tm)
 | []=>some []
 | s :: l=>(readT s).bind fun t=>(readsT l).map fun r=>t :: r
def chainT (ls:List (Tm × Tm)):List Tm→Bool
 | a :: b :: r=>leadsT ls a b && chainT ls (b :: r)
 | _=>true
def loopT (ls:List (Tm × Tm)) (ts:List Tm):Int :=
 if 20 < ts.length then 2 else if ts.length≤1 then 10 else if chainT ls ts && comesT (ts.headD (.var 0)) (ts.getLastD (.var 0)) then 0 else 10
def restI (ls:List (Tm × Tm)):Option (List Tm)→Int
 | none=>4
 | some ts=>loopT ls ts
def isLoopT (rs:List S94) (l:List ByteArray):Int:=match newLawsT rs with
 | none=>2
 | some ls=>restI ls (readsT l)
theorem readsT_no {l:List ByteArray} {acc:List Tm} {i:Nat} {R:Option (List Tm)} (hlt:i < l.length) (h:R=(readsT (l.drop i)).map fun r=>acc++r) (hn:readT l[i]=none):R=none:=by
 rw [h,List.drop_eq_getElem_cons hlt,readsT,hn]
 rfl
theorem readsT_step {l:List ByteArray} {acc:List Tm} {t:Tm} {i:Nat} {R:Option (List Tm)} (hlt:i < l.length) (h:R=(readsT (l.drop i)).map fun r=>acc++r) (hn:readT l[i]=some t):R=(readsT (l.drop (i+1))).map fun r=>(acc++[t])++r:=by
 rw [h,List.drop_eq_getElem_cons hlt,readsT,hn,Option.bind_some]
 cases readsT (l.drop (i+1)) with
 | none=>rfl
 | some r=>simp
theorem strAt {w:World} {A:Option Addr} {n:Nat} {xs:List ByteArray} (h:Kd.C Kd.string w A n xs) (i:Nat) (hi:i < n) (hx:i < xs.length):∃ ad,A=some ad∧w.cell? (ad.add i)=some (.string xs[i]):=by
 obtain ⟨ad,c,e,_,hK,hc0⟩:=Kd.C_get h ⟨#[]⟩ (i:Int) (by omega) (by omega)
 have hc:∀ j u,c[j]?=some u→w.cell? (ad.add ((i:Int).toNat * 1+j))=some u:=hc0
 have hK2:c=[.string (xs.getD ((i:Int)).toNat ⟨#[]⟩)]:=hK
 rw [Int.toNat_natCast,List.getD_eq_getElem?_getD,List.getElem?_eq_getElem hx] at hK2
 have:=hc 0 (.string xs[i]) (by rw [hK2];rfl)
 rw [Int.toNat_natCast,Nat.mul_one,Nat.add_zero] at this
 exact ⟨ad,e,this⟩
theorem getLastD_get (l:List Tm) (n:Nat) (hn:l.length=n) (h:n - 1 < l.length):l.getLastD (.var 0)=l[n - 1]:=by
 subst hn
 rw [List.getLastD_eq_getLast?,List.getLast?_eq_getElem?,List.getElem?_eq_getElem h]
 rfl
theorem sub1 (n:Nat) (h:1≤n) (h2:n≤1000):wrap64 ((n:Int) - 1)=((n - 1:Nat):Int):=(wr (by omega) (by omega)).trans (by omega)
def OutI (w:World) (r:Int) (e:Ending) (w':World):Prop:=e=endE r∧Below w.heap.size w w'
set_option maxRecDepth 100000 in
set_option maxHeartbeats 4000000 in
theorem loop1_calls (rs:List S94) (l:List ByteArray) (A0 A1:Option Addr) (c0 c1 b0 b1:Nat) (w:World) (hC0:Kd.C k94 w A0 rs.length rs) (hC1:Kd.C Kd.string w A1 l.length l) (hb0:w.heap[b0]?=some (.cells #[.slice A0 rs.length c0] 35 (0,0))) (hb1:w.heap[b1]?=some (.cells #[.slice A1 l.length c1] 36 (0,0))) (hln:l.length≤1000) :
  Calls Tryz.prog 76 #[.pointer (some ⟨b0,0,none⟩),.pointer (some ⟨b1,0,none⟩)] w (OutI w (isLoopT rs l)):=by
 have hx0:=blk_cell hb0 0
 have hnl:=newLaws_calls rs A0 c0 w hC0
 cases hL:newLawsT rs with
 | none =>
  have hr:isLoopT rs l=2:=by unfold isLoopT;rw [hL]
  rw [hr]
  rw [hL] at hnl
  have HC:=Aside0.mk hnl
  clear hnl hC0 hC1 hb0 hb1 hln hL hr
  go_enter Tryz.func76,Tryz.ntmps76
  go_wp2_with (go_at_call 77;refine HC.out.mono ?_;rintro e w1 ⟨hb,rfl⟩;have H1:=Aside0.mk hb;clear hb)
  exact ⟨rfl,rfl,H1.out⟩
 | some ls =>
  obtain ⟨R,hR⟩:∃ R,R=readsT l:=⟨_,rfl⟩
  have hr:isLoopT rs l=restI ls R:=by unfold isLoopT;rw [hL,hR]
  have hlg:=newLawsT_good hL
  rw [hL] at hnl
  obtain ⟨r,hrr⟩:∃ r,r=isLoopT rs l:=⟨_,rfl⟩
  rw [←hrr]
  have hrR:=hrr.trans hr
  have HC:=Aside0.mk hnl
  have HP:=Aside0.mk (And.intro hC1 (And.intro hb1 (And.intro hln (And.intro hR (And.intro hrR hlg)))))
  clear hnl hC0 hC1 hb0 hb1 hln hL hr hR hrr hrR hlg
  go_enter Tryz.func76,Tryz.ntmps76
  go_wp2_with (go_at_call 77;refine HC.out.mono ?_;rintro e w1 ⟨hb,A2,c2,rfl,hW⟩;have H1:=Aside0.mk (And.intro hb hW);have hx1:=blk_cell ((hb.block _ (gl_ HP.out.2.1)).trans HP.out.2.1) 0;clear hb hW)
  go_loopw [3,12] (fun v3 v12 wr=>∃ (i:Nat) (acc:List Tm),v12=.int .i64 (i:Int)∧Aside0 (i≤l.length∧acc.length=i∧∀ t,t∈acc→t.good∧t.size≤60)∧Aside0 (R=(readsT (l.drop i)).map fun r=>acc++r)∧Aside0 (Row wr w.heap.size (fun k=>w.heap.size≤k) v3 acc)∧Aside0 (Below w.heap.size w wr∧HasW wr (fun k=>w.heap.size≤k∧some k≠v3.ownBlock) ls A2)) (fun _ v12 _=>l.length - (intOf v12).toNat)
  case atStart =>
   obtain ⟨hC1,hb1,hln,hR,hrR,hlg⟩:=HP.out
   exact ⟨0,[],rfl,⟨Nat.zero_le _,rfl,fun t ht=>by simp at ht⟩,⟨by rw [List.drop_zero,hR];cases readsT l<;>rfl⟩,⟨Row.nil _ _ _⟩,⟨H1.out.1,H1.out.2.step (fun k hk hl=>⟨⟨hk,by simp [Value.ownBlock]⟩,rfl⟩)⟩⟩
  case round =>
   obtain ⟨i,acc,rfl,HI,HR,HO,HB⟩:=hrel
   obtain ⟨hC1,hb1,hln,hR,hrR,hlg⟩:=HP.out
   by_cases hlt:i < l.length
   ·have hlb:decide ((i:Int) < (l.length:Int))=true:=decide_eq_true (by omega)
    obtain ⟨ad,rfl,hc0⟩:=strAt (Kd.C_below hC1 HB.out.1) i hlt hlt
    have hno:=readsT_no hlt HR.out
    have hst:=fun t=>readsT_step (t:=t) hlt HR.out
    have hrc:=read_calls (fun k=>w.heap.size≤k∧some k≠u3.ownBlock) l[i] wr (fun k hk=>⟨by have:=HB.out.1.size;omega,fun e=>by have:=HO.out.own k e.symm;omega⟩)
    generalize l[i]=x at *
    have w1i:wrap64 ((i:Int)+1)=(i:Int)+1:=wrS (by omega) (by omega)
    cases hrx:readT x with
    | none =>
     rw [hrx] at hrc
     have hR0:=hno hrx
     have hr4:r=4:=by rw [hrR,hR0];rfl
     have HC2:=Aside0.mk hrc
     clear hC1 hb1 hln hR hrR hlg hno hst hrc hR0 hrx
     subst hr4
     go_wp2_with (go_at_call 69;refine HC2.out.mono ?_;rintro e w2 ⟨hb,rfl⟩;have H2:=Aside0.mk hb;clear hb)
     exact ⟨rfl,rfl,below_step HB.out.1 H2.out⟩
    | some t =>
     rw [hrx] at hrc
     obtain ⟨vs,ho,hl,hT⟩:=HO.out
     have HC2:=Aside0.mk hrc
     have HH:=Aside0.mk (And.intro (hst t hrx) (And.intro (readT_good hrx) (And.intro ho (And.intro hl (And.intro hT hln)))))
     clear hC1 hb1 hln hR hrR hlg hno hst hrc hrx ho hl hT
     go_wp2_with (first
      | (go_at_call 69;refine HC2.out.mono ?_;rintro e w2 ⟨hb,⟨t1,p1⟩,he,hp⟩;obtain rfl:e=.returned (.iface t1 p1):=he;have H2:=Aside0.mk (And.intro hb hp);clear hb hp)
      | ((with_reducible refine gate_builtin (b:=.append) (xs:=#[.tmp 16,.tmp 19]) rfl ?_);at_builtin;refine Kd.R_append kI (w0:=w) w.heap.size rfl (.tmp 16) (.tmp 19) 111 99 .nilIface 16 rfl Tryz.underlying111 info99 rfl (by decide) (by omega) u3 vs (t1,p1) [.iface t1 p1] (fun _=>True) (fun _=>False) rfl rfl ?aP (fun _ hk=>hk.elim) ?aF ?aO ?aB ?aS ?aL ?_;(case aP=>exact rfl);(case aB=>exact below_step HB.out.1 H2.out.1);(case aF=>exact (fun _ _=>trivial));(case aO=>exact Kd.R_below HH.out.2.2.1 H2.out.1);(case aS=>exact Nat.le_trans HB.out.1.size H2.out.1.size);(case aL=>have h1:=HH.out.2.2.2.1;have h2:=HI.out.2.1;have h3:=HH.out.2.2.2.2.2;omega);intro v6 w6 ho hb hg hat;have H6:=Aside0.mk (And.intro ho (And.intro hb (And.intro hg hat)));clear ho hb hg hat))
     obtain ⟨ho6,hb6,hg6,hat6⟩:=H6.out
     obtain ⟨hst,hgo,ho,hl,hT,hln⟩:=HH.out
     have hrow:=Row.snoc (ok:=fun k=>w.heap.size≤k) hl (fun j h1 h2=>(hT j h1 h2).below H2.out.1) H2.out.2 ho6 hg6 hat6
     rw [w1i]
     refine ⟨⟨i+1,acc++[t],by simp,⟨by omega,by simp [HI.out.2.1],fun u hu=>?_⟩,⟨hst⟩,⟨hrow⟩,⟨hb6,?_⟩⟩,?_⟩
     ·rcases List.mem_append.1 hu with hu|hu
      ·exact HI.out.2.2 u hu
      ·rw [List.mem_singleton] at hu
       subst hu
       exact hgo
     ·refine (HB.out.2.below H2.out.1).step (fun k hk hl=>⟨⟨hk.1,?_⟩,hg6.block k hl hk.2⟩)
      intro e
      rcases hat6 with h6|⟨b,h6,h7⟩
      ·exact hk.2 (e.trans h6)
      ·rw [h6] at e
       injection e with e
       omega
     ·simp only [intOf]
      omega
   ·have hlb:decide ((i:Int) < (l.length:Int))=false:=decide_eq_false (by omega)
    have hRa:R=some acc:=by
     have:=HR.out
     rw [List.drop_of_length_le (by omega),readsT,Option.map_some,List.append_nil] at this
     exact this
    have hra:r=loopT ls acc:=by rw [hrR,hRa];rfl
    have hal:acc.length=l.length:=by have:=HI.out;omega
    have hxr:=blk_cell ((HB.out.1.block _ (gl_ hb1)).trans hb1) 0
    by_cases h20:l.length≤20
    ·have hd20:decide ((l.length:Int)≤20)=true:=decide_eq_true (by omega)
     by_cases h1:1 < l.length
     ·have hd1:decide ((l.length:Int) > 1)=true:=decide_eq_true (by omega)
      obtain ⟨A3,c3,rfl,hc3,hL3⟩:=HO.out.read (fun _ h=>h)
      obtain ⟨g3,cs3,ps3,rfl,hok3,hg3,hps3,hpc3⟩:=hL3.pairs (by omega)
      have hcells:∀ j (h:j < acc.length),∃ tp pp,wr.cell? ⟨g3,j,none⟩=some (.iface tp pp)∧Has wr (fun k=>w.heap.size≤k) acc[j] (tp,pp):=fun j h=>by
       obtain ⟨a,b⟩:=hpc3 j h (by omega)
       exact ⟨_,_,(blk_cell hg3 j).trans a,b⟩
      have HE:=Aside0.mk (And.intro hcells (And.intro hg3 (And.intro hal (And.intro hra (And.intro hlg (And.intro h1 (And.intro h20 (And.intro hps3 hpc3))))))))
      have hz1:((1:Int)≤(acc.length:Int)):=by omega
      have hz2:1≤acc.length:=by omega
      rw [hal] at *
      clear hC1 hb1 hln hR hrR hlg hRa hra hL3 hcells hg3 hps3 hpc3 hok3
      go_wp2_with (go_at_call 67;first|(refine (demand_ok 2 _).mono ?_;rintro e w8 ⟨rfl,h8⟩;subst w8)|(refine (demand_ok 10 _).mono ?_;rintro e w8 ⟨rfl,h8⟩;subst w8))
      obtain ⟨wo,rfl⟩:∃ wo,wo=wr:=⟨_,rfl⟩
      go_loopw [33] (fun v33 wr=>∃ j:Nat,v33=.int .i64 (j:Int)∧Aside0 (j≤l.length - 1)∧Aside0 (chainT ls acc=chainT ls (acc.drop j))∧Aside0 (Below wo.heap.size wo wr)) (fun v33 _=>(l.length - 1) - (intOf v33).toNat)
      case atStart=>exact ⟨0,rfl,⟨by omega⟩,⟨by rw [List.drop_zero]⟩,⟨Below.refl _ _⟩⟩
      case round =>
       obtain ⟨j,rfl,HJ,HCH,HB4⟩:=hrel
       obtain ⟨hcells,hg3,hal2,hra,hlg,h1,h20,hps3,hpc3⟩:=HE.out
       have hbw:Below w.heap.size w wr:=below_step HB.out.1 HB4.out
       have hgr:=(HB4.out.block _ (gl_ hg3)).trans hg3
       by_cases hltj:j < l.length - 1
       ·have hlbj:decide ((j:Int) < ((l.length - 1:Nat):Int))=true:=decide_eq_true (by omega)
        obtain ⟨⟨ta,pa⟩,hpa⟩:∃ q,q=ps3[j]'(by omega):=⟨_,rfl⟩
        obtain ⟨⟨tb,pb⟩,hpb⟩:∃ q,q=ps3[j+1]'(by omega):=⟨_,rfl⟩
        obtain ⟨hca,hqa⟩:=hpc3 j (by omega) (by omega)
        obtain ⟨hcb,hqb⟩:=hpc3 (j+1) (by omega) (by omega)
        rw [←hpa] at hca hqa
        rw [←hpb] at hcb hqb
        have hc1:wr.cell? ⟨g3,j,none⟩=some (.iface ta pa):=(blk_cell hgr j).trans hca
        have hc2:wr.cell? ⟨g3,1+j,none⟩=some (.iface tb pb):=by rw [Nat.add_comm];exact (blk_cell hgr (j+1)).trans hcb
        have hga:=HI.out.2.2 acc[j] (List.getElem_mem (by omega))
        have hgb:=HI.out.2.2 acc[j+1] (List.getElem_mem (by omega))
        have hcall:=leads_calls ls hlg.1 (by omega) acc[j] acc[j+1] (ta,pa) (tb,pb) wr _ _ _ A2 c2 (HB.out.2.below HB4.out) (hqa.below HB4.out) (hqb.below HB4.out) hga.1 hgb.1 hga.2 hgb.2
        have hd:acc.drop j=acc[j] :: acc[j+1] :: acc.drop (j+2):=by
         rw [List.drop_eq_getElem_cons (by omega),List.drop_eq_getElem_cons (show j+1 < acc.length by omega)]
        have hd2:acc.drop (j+1)=acc[j+1] :: acc.drop (j+2):=List.drop_eq_getElem_cons (by omega)
        have hch2:chainT ls acc=(leadsT ls acc[j] acc[j+1] && chainT ls (acc.drop (j+1))):=by rw [HCH.out,hd,hd2,chainT]
        have hjl:j < l.length:=Nat.lt_of_lt_of_le hltj (Nat.sub_le _ _)
        unfold encI at hcall
        dsimp only at hcall
        generalize leadsT ls acc[j] acc[j+1]=b at *
        have w1j:wrap64 ((j:Int)+1)=(j:Int)+1:=wrp j (by omega)
        have HC5:=Aside0.mk hcall
        have HK:=Aside0.mk (And.intro hch2 (And.intro hra (And.intro hbw (And.intro h1 (And.intro h20 hal2)))))
        clear hcells hg3 hal2 hra hlg h1 h20 hps3 hpc3 hbw hgr hpa hpb hca hqa hcb hqb hga hgb hcall hd hd2 hch2
        cases b with
        | true =>
         go_wp2_with (first|(go_at_call 78;refine HC5.out.mono ?_;rintro e w5 ⟨rfl,hb5⟩;have H5:=Aside0.mk hb5;clear hb5)|(go_at_call 67;refine (demand_ok 10 _).mono ?_;rintro e w8 ⟨rfl,h8⟩;subst w8))
         try rw [w1j]
         clear w1j
         refine ⟨⟨j+1,by simp,⟨by omega⟩,⟨HK.out.1⟩,⟨below_step HB4.out H5.out⟩⟩,?_⟩
         simp only [intOf]
         omega
        | false =>
         have hr10:r=10:=by
          rw [HK.out.2.1];unfold loopT
          rw [if_neg (by have:=HK.out;omega),if_neg (by have:=HK.out;omega),HK.out.1];rfl
         subst hr10
         go_wp2_with (first|(go_at_call 78;refine HC5.out.mono ?_;rintro e w5 ⟨rfl,hb5⟩;have H5:=Aside0.mk hb5;clear hb5)|(go_at_call 67;refine (demand_no 10 _).mono ?_;rintro e w8 ⟨rfl,h8⟩;subst w8))
         exact ⟨rfl,rfl,below_step HK.out.2.2.1 H5.out⟩
       ·have hlbj:decide ((j:Int) < ((l.length - 1:Nat):Int))=false:=decide_eq_false (by omega)
        have hch:chainT ls acc=true:=by
         rw [HCH.out]
         have hj:j=acc.length - 1:=by have:=HJ.out;omega
         have:acc.drop j=[acc[j]'(by omega)]:=by
          rw [List.drop_eq_getElem_cons (by omega),List.drop_of_length_le (by omega)]
         rw [this,chainT]
         intro a b r e
         cases e
        obtain ⟨⟨ta,pa⟩,hpa⟩:∃ q,q=ps3[0]'(by omega):=⟨_,rfl⟩
        obtain ⟨⟨tb,pb⟩,hpb⟩:∃ q,q=ps3[l.length - 1]'(by omega):=⟨_,rfl⟩
        obtain ⟨hca,hqa⟩:=hpc3 0 (by omega) (by omega)
        obtain ⟨hcb,hqb⟩:=hpc3 (l.length - 1) (by omega) (by omega)
        rw [←hpa] at hca hqa
        rw [←hpb] at hcb hqb
        have hca:cs3[0]?=some (.iface ta pa):=hca
        have hcb:cs3[l.length - 1]?=some (.iface tb pb):=hcb
        have hga:=HI.out.2.2 acc[0] (List.getElem_mem (by omega))
        have hgb:=HI.out.2.2 acc[l.length - 1] (List.getElem_mem (by omega))
        have hcm:=fun (w':World) (hb':Below wr.heap.size wr w')=>comes_calls acc[0] acc[l.length - 1] (ta,pa) (tb,pb) w' _ _ ((hqa.below HB4.out).below hb') hga.1 (by omega) ((hqb.below HB4.out).below hb') hgb.1 (by omega)
        have hh:acc.headD (.var 0)=acc[0]'(by omega):=by
         cases acc with
         | nil=>simp at hal2;omega
         | cons a r=>rfl
        have hll:acc.getLastD (.var 0)=acc[l.length - 1]'(by omega):=getLastD_get acc l.length hal2 (by omega)
        have hrc:r=if comesT acc[0] acc[l.length - 1] then 0 else 10:=by
         rw [hra];unfold loopT
         rw [if_neg (by omega),if_neg (by omega),hch,hh,hll,Bool.true_and]
        have hn0:0 < l.length:=by omega
        have hn1:l.length - 1 < l.length:=by omega
        unfold encI at hcm
        dsimp only at hcm
        generalize comesT acc[0] acc[l.length - 1]=b at *
        have hsub:wrap64 ((l.length:Int) - 1)=((l.length - 1:Nat):Int):=sub1 l.length (by omega) (by omega)
        have HCM:=Aside0.mk hcm
        have HG:=Aside0.mk (And.intro hgr (And.intro hca (And.intro hcb hbw)))
        clear hcells hg3 hal2 hra hlg h1 h20 hps3 hpc3 hbw hgr hpa hpb hca hqa hcb hqb hga hgb hcm hh hll hch
        cases b with
        | true =>
         have hr0:r=0:=hrc
         subst hr0
         clear hrc
         go_wp2
         obtain ⟨hgr,hca,hcb,hbw⟩:=HG.out
         refine start_ (n:=11) (S:=fun w'=>w'.cell? ⟨g3,0,none⟩=some (.iface ta pa)∧w'.cell? ⟨g3,l.length - 1,none⟩=some (.iface tb pb)) (ds:=[]) (bm 11 0) (by kernel_rfl) rfl rfl ⟨((blk_cell (blk_drew hgr) 0).trans hca),((blk_cell (blk_drew hgr) (l.length - 1)).trans hcb)⟩ (fun hHeld=>?_)
         refine pk_ 0 47 (bm 11 1) ?_
         refine pk_ 1 48 (bm 11 3) ?_
         refine pk_ 3 50 (bm 11 11) ?_
         refine pk_ 4 51 (bm 11 27) ?_
         refine pk_ 5 52 (bm 11 59) ?_
         refine pk_ 6 53 (bm 11 123) ?_
         refine pk_ 7 54 (bm 11 251) ?_
         refine take_ (i:=2) (N:=some 49) (v:=?_) (a':=?_) (bm 11 255) rfl rfl (by kernel_rfl) (fun _ _ _ h=>h) (Or.inl ⟨by rfl,?_⟩) hHeld ?_ ?_;rotate_left;(rintro w' ⟨s0,s1⟩;go_simp;with_reducible rfl);rotate_left;exact tP_
         refine take_ (i:=8) (N:=some 55) (v:=?_) (a':=?_) (bm 11 511) rfl rfl (by kernel_rfl) (fun _ _ _ h=>h) (Or.inl ⟨by rfl,?_⟩) hHeld ?_ ?_;rotate_left;(rintro w' ⟨s0,s1⟩;go_simp;with_reducible rfl);rotate_left;exact tP_
         refine one_ (i:=9) (N:=some 56) (bm 11 1023) rfl rfl (by kernel_rfl) (by decide) (fun K hK=>?_)
         refine goesD_ Tryz.func79 (by kernel_rfl) rfl #[.iface ta pa,.iface tb pb] (by rfl) rfl rfl (by simp only [List.map_toArray,List.map_cons,List.map_nil];rfl) ?_
         refine (HCM.out _ (below_draw _)).mono ?_
         rintro e w5 ⟨rfl,hb5⟩
         refine .inl ⟨_,rfl,?_⟩
         have hb5w:Below wr.heap.size wr w5:=⟨hb5.os,hb5.tape,hb5.output,hb5.size,hb5.block⟩
         have hg5:=(hb5w.block _ (gl_ hgr)).trans hgr
         have hc50:=(blk_cell hg5 0).trans hca
         have hc51:=(blk_cell hg5 (l.length - 1)).trans hcb
         refine hK.out _ _ ⟨hc50,hc51⟩ (fun hHeld=>?_)
         clear hK K
         refine norm_ (a':=?_) ?_ ?_;rotate_left;(show Act.put _ (some 56) _=_;exact tP_)
         refine one_ (i:=10) (N:=some 57) (bm 11 2047) rfl rfl (by kernel_rfl) (by decide) (fun K hK=>?_)
         refine goesD_ Tryz.func67 (by kernel_rfl) rfl #[.bool true,.int .i64 10] (by rfl) rfl rfl (by simp only [List.map_toArray,List.map_cons,List.map_nil];rfl) ?_
         refine (demand_ok 10 _).mono ?_
         rintro e w8 ⟨rfl,h8⟩
         subst w8
         refine .inl ⟨_,rfl,?_⟩
         refine hK.out _ _ ⟨hc50,hc51⟩ (fun hHeld=>?_)
         clear hK K
         refine norm_ (a':=?_) ?_ ?_;rotate_left;(show Act.put _ (some 57) _=_;exact tP_)
         refine done_ (by kernel_rfl) ?_
         simp [bodyPost,results,Tryz.results76]
         exact ⟨rfl,below_step hbw hb5w⟩
        | false =>
         have hr10:r=10:=hrc
         subst hr10
         clear hrc
         have HFN:Aside0 (∀ w',Below wr.heap.size wr w'→OutI w 10 (troubled 10) w'):=⟨fun w' hb=>⟨rfl,below_step HG.out.2.2.2 hb⟩⟩
         go_wp2
         obtain ⟨hgr,hca,hcb,hbw⟩:=HG.out
         refine start_ (n:=11) (S:=fun w'=>w'.cell? ⟨g3,0,none⟩=some (.iface ta pa)∧w'.cell? ⟨g3,l.length - 1,none⟩=some (.iface tb pb)) (ds:=[]) (bm 11 0) (by kernel_rfl) rfl rfl ⟨((blk_cell (blk_drew hgr) 0).trans hca),((blk_cell (blk_drew hgr) (l.length - 1)).trans hcb)⟩ (fun hHeld=>?_)
         refine pk_ 0 47 (bm 11 1) ?_
         refine pk_ 1 48 (bm 11 3) ?_
         refine pk_ 3 50 (bm 11 11) ?_
         refine pk_ 4 51 (bm 11 27) ?_
         refine pk_ 5 52 (bm 11 59) ?_
         refine pk_ 6 53 (bm 11 123) ?_
         refine pk_ 7 54 (bm 11 251) ?_
         refine take_ (i:=2) (N:=some 49) (v:=?_) (a':=?_) (bm 11 255) rfl rfl (by kernel_rfl) (fun _ _ _ h=>h) (Or.inl ⟨by rfl,?_⟩) hHeld ?_ ?_;rotate_left;(rintro w' ⟨s0,s1⟩;go_simp;with_reducible rfl);rotate_left;exact tP_
         refine take_ (i:=8) (N:=some 55) (v:=?_) (a':=?_) (bm 11 511) rfl rfl (by kernel_rfl) (fun _ _ _ h=>h) (Or.inl ⟨by rfl,?_⟩) hHeld ?_ ?_;rotate_left;(rintro w' ⟨s0,s1⟩;go_simp;with_reducible rfl);rotate_left;exact tP_
         refine one_ (i:=9) (N:=some 56) (bm 11 1023) rfl rfl (by kernel_rfl) (by decide) (fun K hK=>?_)
         refine goesD_ Tryz.func79 (by kernel_rfl) rfl #[.iface ta pa,.iface tb pb] (by rfl) rfl rfl (by simp only [List.map_toArray,List.map_cons,List.map_nil];rfl) ?_
         refine (HCM.out _ (below_draw _)).mono ?_
         rintro e w5 ⟨rfl,hb5⟩
         refine .inl ⟨_,rfl,?_⟩
         have hb5w:Below wr.heap.size wr w5:=⟨hb5.os,hb5.tape,hb5.output,hb5.size,hb5.block⟩
         have hg5:=(hb5w.block _ (gl_ hgr)).trans hgr
         have hc50:=(blk_cell hg5 0).trans hca
         have hc51:=(blk_cell hg5 (l.length - 1)).trans hcb
         refine hK.out _ _ ⟨hc50,hc51⟩ (fun hHeld=>?_)
         clear hK K
         refine norm_ (a':=?_) ?_ ?_;rotate_left;(show Act.put _ (some 56) _=_;exact tP_)
         refine one_ (i:=10) (N:=some 57) (bm 11 2047) rfl rfl (by kernel_rfl) (by decide) (fun K hK=>?_)
         refine goesD_ Tryz.func67 (by kernel_rfl) rfl #[.bool false,.int .i64 10] (by rfl) rfl rfl (by simp only [List.map_toArray,List.map_cons,List.map_nil];rfl) ?_
         refine (demand_no 10 _).mono ?_
         rintro e w8 ⟨rfl,h8⟩
         subst w8
         refine .inr ⟨_,rfl,?_⟩
         exact ⟨rfl,HFN.out _ hb5w⟩
     ·have hd1:decide ((l.length:Int) > 1)=false:=decide_eq_false (by omega)
      have hr10:r=10:=by rw [hra];unfold loopT;rw [if_neg (by omega),if_pos (by omega)]
      clear hC1 hb1 hln hR hrR hlg hRa hra
      subst hr10
      go_wp2_with (go_at_call 67;first|(refine (demand_ok 2 _).mono ?_;rintro e w8 ⟨rfl,h8⟩;subst w8)|(refine (demand_no 10 _).mono ?_;rintro e w8 ⟨rfl,h8⟩;subst w8))
      exact ⟨rfl,rfl,HB.out.1⟩
    ·have hd20:decide ((l.length:Int)≤20)=false:=decide_eq_false (by omega)
     have hr2:r=2:=by rw [hra];unfold loopT;rw [if_pos (by omega)]
     clear hC1 hb1 hln hR hrR hlg hRa hra
     subst hr2
     go_wp2_with (go_at_call 67;refine (demand_no 2 _).mono ?_;rintro e w8 ⟨rfl,h8⟩;subst w8)
     exact ⟨rfl,rfl,HB.out.1⟩
theorem enters76:∀ args w,(callFunc 76 args).run Tryz.prog w=.ok (.enter 76 args) w:=fun args w=>enters_ Tryz.func76 (by kernel_rfl) rfl args w
def rules_IsLoop.f (l0:List S94) (l1:List ByteArray):Option Int:=if l1.length≤1000 then some (isLoopT l0 l1) else none
set_option maxRecDepth 100000 in
theorem rules_IsLoop.calls (A0:Option Addr) (c0:Nat) (l0:List S94) (A1:Option Addr) (c1:Nat) (l1:List ByteArray) (r0:Int) (w:World) (hr0:Kd.C k94 w A0 l0.length l0) (hc0:l0.length≤c0) (hr1:Kd.C Kd.string w A1 l1.length l1) (hc1:l1.length≤c1) (h:rules_IsLoop.f l0 l1=some r0) :
    Calls Tryz.prog 30 #[.slice A0 l0.length c0,.slice A1 l1.length c1] w fun e w'=>e=.returned (.int .i64 r0)∧Below w.heap.size w w':=by
  unfold rules_IsLoop.f at h
  split at h
  · rename_i hl
    injection h with h
    have hb2:Below w.heap.size w ((w.alloc (.cells #[.slice A0 l0.length c0] 35)).alloc (.cells #[.slice A1 l1.length c1] 36)):=below_alloc (below_alloc (Below.refl _ _) _) _
    have hb3:Below w.heap.size w (((w.alloc (.cells #[.slice A0 l0.length c0] 35)).alloc (.cells #[.slice A1 l1.length c1] 36)).alloc (.cells #[.int .i64 0] 26)):=below_alloc hb2 _
    have hx0:(((w.alloc (.cells #[.slice A0 l0.length c0] 35)).alloc (.cells #[.slice A1 l1.length c1] 36)).alloc (.cells #[.int .i64 0] 26)).heap[w.heap.size]?=some (.cells #[.slice A0 l0.length c0] 35 (0,0)):=blk_alloc (blk_alloc (blk_new w _) _) _
    have hx1:(((w.alloc (.cells #[.slice A0 l0.length c0] 35)).alloc (.cells #[.slice A1 l1.length c1] 36)).alloc (.cells #[.int .i64 0] 26)).heap[w.heap.size+1]?=some (.cells #[.slice A1 l1.length c1] 36 (0,0)):=by
      have:=blk_alloc (blk_new (w.alloc (.cells #[.slice A0 l0.length c0] 35)) (.cells #[.slice A1 l1.length c1] 36)) (.cells #[.int .i64 0] 26)
      simpa using this
    have hg:=guarded 76 enters76 #[.pointer (some ⟨w.heap.size,0,none⟩),.pointer (some ⟨w.heap.size+1,0,none⟩)] ((w.alloc (.cells #[.slice A0 l0.length c0] 35)).alloc (.cells #[.slice A1 l1.length c1] 36)) (isLoopT l0 l1) (loop1_calls l0 l1 A0 A1 c0 c1 w.heap.size (w.heap.size+1) _ (Kd.C_below hr0 hb3) (Kd.C_below hr1 hb3) hx0 hx1 hl)
    rw [h] at hg
    have HG:=Aside0.mk hg
    have HB:=Aside0.mk hb2
    clear hg hb2 hb3 hx0 hx1 hr0 hr1 hc0 hc1 hl h
    go_enter Tryz.func30,Tryz.ntmps30
    go_wp2_with (go_at_call 65;refine HG.out.mono ?_;rintro e w1 ⟨rfl,hb⟩;have H1:=Aside0.mk (below_step HB.out hb);clear hb)
    go_ret
    exact ⟨rfl,H1.out⟩
  · cases h
end Go.Proofs.YtaafeallcaiooaaGreat.Pr
