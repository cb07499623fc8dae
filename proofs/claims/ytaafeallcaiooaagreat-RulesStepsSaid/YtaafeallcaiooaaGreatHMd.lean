/- made: rules out of strings. -/
import Derived.Test.YtaafeallcaiooaaGreatHRu
import Derived.Test.YtaafeallcaiooaaGreatHEm
import Derived.Test.YtaafeallcaiooaaGreatHNe
namespace Go.Proofs.YtaafeallcaiooaaGreat.Pr
open Go.RowKit Go.Maps Go.Proofs.Zw Go.Proofs.Zl Go.Proofs.Zm
set_option linter.unusedVariables false
set_option linter.unusedSimpArgs false
theorem term_ex' (s:ByteArray) (room:Int):∃ t:Tm,s.size≤9223372036854775807→1≤room→room≤1000→(Evt (fun k=>nl_term.f k s room) t.text∧t.good∧t.size≤room):=by
 by_cases h:s.size≤9223372036854775807∧1≤room∧room≤1000
 ·obtain ⟨t,hE,hg,hsz⟩:=termE s h.1 room h.2.1 h.2.2
  exact ⟨t,fun _ _ _=>⟨hE,hg,hsz⟩⟩
 ·exact ⟨aT,fun a b c=>absurd ⟨a,b,c⟩ h⟩
noncomputable def gT (s:ByteArray) (room:Int):Tm:=Classical.choose (term_ex' s room)
theorem gT_spec (s:ByteArray) (room:Int) (hs:s.size≤9223372036854775807) (h1:1≤room) (h2:room≤1000):Evt (fun k=>nl_term.f k s room) (gT s room).text∧(gT s room).good∧(gT s room).size≤room:=Classical.choose_spec (term_ex' s room) hs h1 h2
theorem dr_below {w w':World} (h:Drawn0 w w'):Below w.heap.size w w':=by
 obtain ⟨nd,rfl⟩:=h
 exact pw_below_drewN (Below.refl _ _) nd
theorem gT_calls (s:ByteArray) (room:Int) (hs:s.size≤9223372036854775807) (h1:1≤room) (h2:room≤1000) (w:World):Calls Tryz.prog 33 #[.string s,.int .i64 room] w fun e w'=>e=.returned (.string (gT s room).text)∧Below w.heap.size w w':=by
 obtain ⟨k,hk⟩:=(gT_spec s room hs h1 h2).1.ex
 exact (nl_term.calls k s room _ w hk).mono fun e w' h=>⟨h.1,dr_below h.2⟩
def lhsT (t:Tm):Tm:=if isV t then .app 99 [t] else t
theorem lhsT_good {t:Tm} (h:t.good):(lhsT t).good:=by
 unfold lhsT
 split
 ·exact app1_good (.inl rfl) h
 ·exact h
theorem lhsT_size {t:Tm} (h:t.size≤8):(lhsT t).size≤9:=by
 unfold lhsT
 split
 ·rw [size1];omega
 ·omega
theorem lhsT_v (t:Tm):isV (lhsT t)=false:=by
 unfold lhsT
 split
 ·rfl
 ·rename_i h;simpa using h
def svar (L:List UInt8) (c:Int):Tm:=if hasB c L then .var c else aT
def rhsT (L:Tm) (t:Tm):Tm:=t.sub (sub3 (svar L.tx 120) (svar L.tx 121) (svar L.tx 122))
theorem svar_good (L:List UInt8) (c:Int) (hc:120≤c∧c≤122):(svar L c).good:=by
 unfold svar
 split
 ·rw [Tm.good];exact hc
 ·exact aT_good
theorem svar_size (L:List UInt8) (c:Int):(svar L c).size≤1:=by
 unfold svar
 split
 ·rw [Tm.size];omega
 ·rw [aT_size];omega
theorem rhsT_good (L:Tm) {t:Tm} (h:t.good):(rhsT L t).good:=sub_good _ (sub3_good (svar_good _ _ (by omega)) (svar_good _ _ (by omega)) (svar_good _ _ (by omega))) t h
theorem rhsT_size (L t:Tm):(rhsT L t).size≤t.size:=by
 have:=sub_le 1 (by omega) _ (sub3_le (svar_size L.tx 120) (svar_size L.tx 121) (svar_size L.tx 122)) t
 unfold rhsT
 omega
theorem svar_occ (L:List UInt8) (c v:Int) (h:occT c (svar L v)=true):hasB c L=true:=by
 unfold svar at h
 split at h
 ·rename_i hb
  rw [occ_var,decide_eq_true_eq] at h
  rw [h];exact hb
 ·rw [aT_occ] at h;cases h
theorem rhsT_occ (L:Tm) (hL:L.good) (c:Int) (hc:120≤c∧c≤122):∀ t:Tm,t.good→occT c (rhsT L t)=true→occT c L=true:=by
 unfold rhsT
 refine Tm.ind (fun v hg h=>?_) (fun s l ih hg h=>?_)
 ·rw [←occ_tx c hc L hL]
  rw [Tm.good] at hg
  rw [Tm.sub] at h
  have:v=120∨v=121∨v=122:=by omega
  rcases this with rfl|rfl|rfl
  ·exact svar_occ _ _ 120 h
  ·exact svar_occ _ _ 121 h
  ·exact svar_occ _ _ 122 h
 ·rw [sub_app,occ_app,List.any_eq_true] at h
  obtain ⟨x,hx,ho⟩:=h
  obtain ⟨y,hy,rfl⟩:=List.mem_map.1 hx
  rw [Tm.good] at hg
  exact ih y hy (goods_mem hg.2.2 hy) ho
noncomputable def lawJ (l:List ByteArray) (j:Nat):Tm × Tm:=(lhsT (gT (rdOf ByteArray.empty l ((2 * j:Nat):Int)) 8),rhsT (lhsT (gT (rdOf ByteArray.empty l ((2 * j:Nat):Int)) 8)) (gT (rdOf ByteArray.empty l (((2 * j:Nat):Int)+1)) 9))
noncomputable def madeT (l:List ByteArray):List (Tm × Tm):=(List.range (min 3 (l.length / 2))).map (lawJ l)
def toS (p:Tm × Tm):S94:=⟨p.1.text,p.2.text⟩
def okStr (l:List ByteArray):Prop:=∀ x,x∈l→x.size≤9223372036854775807
theorem rdOf_ok {l:List ByteArray} (hl:okStr l) (i:Int):(rdOf ByteArray.empty l i).size≤9223372036854775807:=by
 unfold rdOf
 rw [List.getD_eq_getElem?_getD]
 cases h:l[i.toNat]? with
 | none=>exact Nat.zero_le _
 | some x=>exact hl x (List.mem_of_getElem? h)
theorem lawJ_ok {l:List ByteArray} (hl:okStr l) (j:Nat):lawT (toS (lawJ l j))=some (lawJ l j):=by
 have g1:=gT_spec _ 8 (rdOf_ok hl ((2 * j:Nat):Int)) (by omega) (by omega)
 have g2:=gT_spec _ 9 (rdOf_ok hl (((2 * j:Nat):Int)+1)) (by omega) (by omega)
 have hA:=lhsT_good g1.2.1
 have sA:=lhsT_size g1.2.2
 have hB:=rhsT_good (lhsT (gT (rdOf ByteArray.empty l ((2 * j:Nat):Int)) 8)) g2.2.1
 have sB:=rhsT_size (lhsT (gT (rdOf ByteArray.empty l ((2 * j:Nat):Int)) 8)) (gT (rdOf ByteArray.empty l (((2 * j:Nat):Int)+1)) 9)
 have key:∀ c:Int,120≤c∧c≤122→okVar (lawJ l j).1 (lawJ l j).2 c=true:=fun c hc=>by
  have h:=rhsT_occ _ hA c hc _ g2.2.1
  unfold okVar lawJ
  dsimp only
  cases h1:occT c (rhsT (lhsT (gT (rdOf ByteArray.empty l ((2 * j:Nat):Int)) 8)) (gT (rdOf ByteArray.empty l (((2 * j:Nat):Int)+1)) 9)) with
  | false=>rfl
  | true=>rw [h h1];rfl
 have r1:readT (toS (lawJ l j)).f0=some (lawJ l j).1:=readT_back hA (Int.le_trans sA (by omega))
 have r2:readT (toS (lawJ l j)).f1=some (lawJ l j).2:=readT_back hB (Int.le_trans sB (Int.le_trans g2.2.2 (by omega)))
 have s1:(lawJ l j).1.size≤12:=Int.le_trans sA (by omega)
 have s2:(lawJ l j).2.size≤12:=Int.le_trans sB (Int.le_trans g2.2.2 (by omega))
 have v1:isV (lawJ l j).1=false:=lhsT_v _
 unfold lawT readL
 rw [r1,r2,Option.bind_some,Option.map_some,Option.bind_some]
 dsimp only
 rw [if_pos]
 unfold okLaw
 rw [v1,decide_eq_true s1,decide_eq_true s2,key 120 (by omega),key 121 (by omega),key 122 (by omega)]
 rfl
theorem laws_map {l:List ByteArray} (hl:okStr l):∀ ns:List Nat,lawsT ((ns.map (lawJ l)).map toS)=some (ns.map (lawJ l))
 | []=>rfl
 | n :: ns=>by
  rw [List.map_cons,List.map_cons,lawsT,lawJ_ok hl n,Option.bind_some,laws_map hl ns]
  rfl
theorem madeT_laws {l:List ByteArray} (hl:okStr l):newLawsT ((madeT l).map toS)=some (madeT l):=by
 have hlen:((madeT l).map toS).length≤6:=by
  unfold madeT
  rw [List.length_map,List.length_map,List.length_range]
  omega
 unfold newLawsT
 rw [if_pos hlen]
 exact laws_map hl _
theorem madeT_len (l:List ByteArray):(madeT l).length≤3:=by
 unfold madeT
 rw [List.length_map,List.length_range]
 omega
theorem svar_snoc (L:List UInt8) (b:UInt8) (c:Int) (h:(b.toNat:Int)≠c):svar (L++[b]) c=svar L c:=by
 unfold svar
 rw [hasB_app,hasB_cons,decide_eq_false h]
 show (if (hasB c L || (false || false))=true then _ else _)=_
 rw [Bool.or_false,Bool.or_false]
theorem svar_here (L:List UInt8) (b:UInt8) (c:Int) (hc:120≤c∧c≤122) (h:(b.toNat:Int)=c):(svar (L++[b]) c).text=⟨#[b]⟩:=by
 unfold svar
 rw [hasB_app,hasB_cons,decide_eq_true h,Bool.true_or,Bool.or_true,if_pos rfl]
 show B8 (Tm.var c).tx=_
 rw [Tm.tx,←h,ch_of]
 rfl
def RowS (w0 w:World) (v:Value) (acc:List S94):Prop:=Below w0.heap.size w0 w∧Kd.R k94 94 w w0.heap.size (fun _=>True) v acc
theorem RowS.step {w0 w w':World} {v:Value} {acc:List S94} (h:RowS w0 w v acc) (hb:Below w.heap.size w w'):RowS w0 w' v acc:=⟨below_step h.1 hb,Kd.R_below h.2 hb⟩
def RowG (w0 w:World) (g:Nat) (v:Value) (acc:List S94):Prop:=Below w0.heap.size w0 w∧Kd.R k94 94 w w0.heap.size (fun k=>k < g) v acc∧w0.heap.size≤g
theorem RowG.step {w0 w w':World} {g:Nat} {v:Value} {acc:List S94} (h:RowG w0 w g v acc) (hb:Below w.heap.size w w'):RowG w0 w' g v acc:=⟨below_step h.1 hb,Kd.R_below h.2.1 hb,h.2.2⟩
theorem RowG.set {w0 w:World} {g j:Nat} {v u:Value} {acc:List S94} (h:RowG w0 w g v acc):RowG w0 (w.setCell ⟨g,j,none⟩ u) g v acc:=⟨below_set h.1 h.2.2,Kd.R_far h.2.1 (fun k hk=>Nat.ne_of_lt hk) u,h.2.2⟩
theorem RowS.alloc {w0 w:World} {v:Value} {acc:List S94} (h:RowS w0 w v acc) (o:Obj):RowG w0 (w.alloc o) w.heap.size v acc :=
 ⟨below_step h.1 (below_alloc (Below.refl _ _) o),Kd.R_alloc (Kd.R_mono (Kd.R_tight rfl h.2) (fun k hk=>Kd.R_lt h.2 k hk.symm)) o,h.1.size⟩
theorem wrM (i:Nat) (h:i < 1000000):wrap64 ((i:Int)+1)=(i:Int)+1:=wrS (by omega) (by omega)
theorem wrM2 (i:Nat) (h:i < 1000000):wrap64 ((i:Int)+2)=(i:Int)+2:=wrS (by omega) (by omega)
set_option maxRecDepth 100000 in
set_option maxHeartbeats 8000000 in
theorem made_calls (l:List ByteArray) (A:Option Addr) (c:Nat) (w:World) (hl:okStr l) (hr:Kd.C Kd.string w A l.length l) :
  Calls Tryz.prog 41 #[.slice A l.length c] w fun e w'=>∃ v0,e=.returned v0∧Kd.R k94 94 w' w.heap.size (fun _=>True) v0 ((madeT l).map toS)∧Below w.heap.size w w':=by
 have HR:=Aside0.mk hr
 have HL:=Aside0.mk hl
 clear hr hl
 go_enter Tryz.func41,Tryz.ntmps41
 go_wp2
 go_loopw [3,4] (fun v3 v4 wr=>∃ (j:Nat) (acc:List S94),v4=.int .i64 ((2 * j:Nat):Int)∧Aside0 (j≤3∧2 * j≤l.length∧acc.length=j∧acc=((List.range j).map (lawJ l)).map toS)∧Aside0 (RowS w wr v3 acc)) (fun _ v4 _=>6 - (intOf v4).toNat)
 case atStart=>exact ⟨0,[],rfl,⟨by omega,by omega,rfl,rfl⟩,⟨Below.refl _ _,Kd.R_nil _ _ _ _ _⟩⟩
 case round =>
  obtain ⟨j,acc,rfl,HI,HS⟩:=hrel
  obtain ⟨Ao,co,rfl⟩:=Kd.R_slice HS.out.2
  obtain ⟨i,hi⟩:∃ i,i=2 * j:=⟨_,rfl⟩
  rw [←hi]
  obtain ⟨hj,hjl,hal,hacc⟩:=HI.out
  have HW:Aside0 (wrap64 ((i:Int)+1)=(i:Int)+1∧wrap64 ((i:Int)+2)=(i:Int)+2):=⟨wrM i (by omega),wrM2 i (by omega)⟩
  by_cases hc1:i+1 < l.length
  ·have hcb:decide ((i:Int)+1 < (l.length:Int))=true:=decide_eq_true (by omega)
   by_cases hc2:j < 3
   ·have hcb2:decide ((acc.length:Int) < 3)=true:=decide_eq_true (by omega)
    have hcb3:decide (acc.length < 3)=true:=decide_eq_true (by omega)
    have hbi:(i < l.length)=True:=eq_true (by omega)
    have hbi2:((0:Int)≤(i:Int)+1)=True:=eq_true (by omega)
    have hbi3:((i:Int)+1 < (l.length:Int))=True:=eq_true (by omega)
    obtain ⟨s0,hs0⟩:∃ s,s=rdOf ByteArray.empty l ((2 * j:Nat):Int):=⟨_,rfl⟩
    obtain ⟨s1,hs1⟩:∃ s,s=rdOf ByteArray.empty l (((2 * j:Nat):Int)+1):=⟨_,rfl⟩
    have g0:=gT_spec s0 8 (by rw [hs0];exact rdOf_ok HL.out _) (by omega) (by omega)
    have g1:=gT_spec s1 9 (by rw [hs1];exact rdOf_ok HL.out _) (by omega) (by omega)
    have HC0:=Aside0.mk (gT_calls s0 8 (by rw [hs0];exact rdOf_ok HL.out _) (by omega) (by omega))
    have HC1:=Aside0.mk (gT_calls s1 9 (by rw [hs1];exact rdOf_ok HL.out _) (by omega) (by omega))
    obtain ⟨ad,hA1,hce0⟩:=Kd.at_string (Kd.C_below HR.out HS.out.1) (i:Int) (by omega) (by omega)
    obtain ⟨ad2,hA2,hce1⟩:=Kd.at_string (Kd.C_below HR.out HS.out.1) ((i:Int)+1) (by omega) (by omega)
    obtain rfl:ad=ad2:=Option.some.inj (hA1.symm.trans hA2)
    subst hA1
    rw [hi,←hs0,←hi,Int.toNat_natCast] at hce0
    rw [hi,←hs1,←hi,show ((i:Int)+1).toNat=i+1 from by omega,show ad.add (i+1)=⟨ad.block,ad.off+(i+1),none⟩ from by unfold Addr.add;simp] at hce1
    obtain ⟨T0,hT0⟩:∃ t,t=gT s0 8:=⟨_,rfl⟩
    obtain ⟨T1,hT1⟩:∃ t,t=gT s1 9:=⟨_,rfl⟩
    rw [←hT0] at g0 HC0
    rw [←hT1] at g1 HC1
    obtain ⟨_,gd0,sz0⟩:=g0
    obtain ⟨_,gd1,sz1⟩:=g1
    have HN:Aside0 (acc++[toS (lhsT T0,rhsT (lhsT T0) T1)]=((List.range (j+1)).map (lawJ l)).map toS):=⟨by
     rw [List.range_succ,List.map_append,List.map_append,←hacc,hT0,hT1,hs0,hs1];rfl⟩
    have hap:=apply_eval gd1 (show T1.size≤1000 by omega) (show (svar (lhsT T0).tx 120).size≤1000 by have:=svar_size (lhsT T0).tx 120;omega) (show (svar (lhsT T0).tx 121).size≤1000 by have:=svar_size (lhsT T0).tx 121;omega) (show (svar (lhsT T0).tx 122).size≤1000 by have:=svar_size (lhsT T0).tx 122;omega)
    have HAP:=Aside0.mk (fun w=>nr_Apply.calls _ _ _ _ _ w hap)
    rw [show T1.sub (sub3 (svar (lhsT T0).tx 120) (svar (lhsT T0).tx 121) (svar (lhsT T0).tx 122))=rhsT (lhsT T0) T1 from rfl] at HAP
    have hh:=head_var gd0
    have hLs:=text_le (t:=lhsT T0) (by have:=lhsT_size sz0;omega)
    have hLx:(lhsT T0).text=if isV T0 then (⟨#[99,40]⟩:ByteArray)++T0.text++⟨#[41]⟩ else T0.text:=by
     unfold lhsT
     split
     ·exact (text1' 99 T0).symm
     ·rfl
    have hLd:(lhsT T0).tx=(lhsT T0).text.data.toList:=(text_data _).symm
    rw [hLd] at HAP
    have hz0:=text_le (t:=T0) (by omega)
    obtain ⟨S2,hS2⟩:∃ s,s=toS (lhsT T0,rhsT (lhsT T0) T1):=⟨_,rfl⟩
    have e0:S2.f0=(lhsT T0).text:=by rw [hS2];rfl
    have e1:S2.f1=(rhsT (lhsT T0) T1).text:=by rw [hS2];rfl
    rw [←hS2] at HN
    rw [←e1] at HAP
    rw [←e0] at HAP hLs hLx
    obtain ⟨iv,hiv⟩:∃ b,b=isV T0:=⟨_,rfl⟩
    obtain ⟨x0,hx0⟩:∃ s,s=T0.text:=⟨_,rfl⟩
    obtain ⟨x1,hx1⟩:∃ s,s=T1.text:=⟨_,rfl⟩
    rw [←hx0,←hiv] at hLx hh
    rw [←hx0] at HC0 hz0
    rw [←hx1] at HC1 HAP
    have HX0:=Aside0.mk hz0
    have HLX:=Aside0.mk hLx
    have HLS:=Aside0.mk hLs
    have HHV:=Aside0.mk hh
    have HIJ:=Aside0.mk (And.intro hj (And.intro hjl (And.intro hi (And.intro hc1 hc2))))
    have HAL:=Aside0.mk hal
    clear hal hLx hLs hh hap hLd hz0 e0 e1 hS2 hiv hx0 hx1 gd0 gd1 sz0 sz1 hT0 hT1 hs0 hs1 hA2 hacc hj hjl hi hc1 hc2
    have hw1:=HW.out.1
    go_wp2
    have HD:=Aside0.mk (RowS.step HS.out (pw_below_drewN (Below.refl _ _) 1))
    have hy0:wr.drew.cell? (ad.add i)=some (.string s0):=hce0
    have hy1:wr.drew.cell? ⟨ad.block,ad.off+(i+1),none⟩=some (.string s1):=hce1
    refine start_ (n:=13) (S:=fun w'=>w'.cell? (ad.add i)=some (.string s0)∧w'.cell? ⟨ad.block,ad.off+(i+1),none⟩=some (.string s1)) (ds:=[]) (bm 13 0) (by kernel_rfl) rfl rfl ⟨hy0,hy1⟩ (fun hHeld=>?_)
    refine pk_ 0 21 (bm 13 1) ?_
    refine pk_ 1 22 (bm 13 3) ?_
    refine pk_ 2 23 (bm 13 7) ?_
    refine pk_ 5 26 (bm 13 39) ?_
    refine pk_ 6 27 (bm 13 103) ?_
    refine pk_ 7 28 (bm 13 231) ?_
    refine pk_ 8 29 (bm 13 487) ?_
    refine take_ (i:=3) (N:=some 24) (v:=?_) (a':=?_) (bm 13 495) rfl rfl (by kernel_rfl) (fun _ _ _ h=>h) (Or.inl ⟨by rfl,?_⟩) hHeld ?_ ?_;rotate_left;(rintro w' ⟨s0,s1⟩;go_simp;with_reducible rfl);rotate_left;exact tP_
    refine take_ (i:=9) (N:=some 30) (v:=?_) (a':=?_) (bm 13 1007) rfl rfl (by kernel_rfl) (fun _ _ _ h=>h) (Or.inl ⟨by rfl,?_⟩) hHeld ?_ ?_;rotate_left;(rintro w' ⟨s0,s1⟩;go_simp;with_reducible rfl);rotate_left;exact tP_
    refine one_ (i:=4) (N:=some 25) (bm 13 1023) rfl rfl (by kernel_rfl) (by decide) (fun K hK=>?_)
    refine goesD_ Tryz.func33 (by kernel_rfl) rfl #[.string s0,.int .i64 8] (by rfl) rfl rfl (by simp only [List.map_toArray,List.map_cons,List.map_nil];rfl) ?_
    refine (HC0.out _).mono ?_
    rintro e w4 ⟨rfl,hb4⟩
    refine .inl ⟨_,rfl,?_⟩
    have hp0:w4.cell? (ad.add i)=some (.string s0):=(hb4.cell (World.block_lt_of_cell? _ _ hy0)).trans hy0
    have hp1:w4.cell? ⟨ad.block,ad.off+(i+1),none⟩=some (.string s1):=(hb4.cell (World.block_lt_of_cell? _ _ hy1)).trans hy1
    refine hK.out _ _ ⟨hp0,hp1⟩ (fun hHeld=>?_)
    clear hK K
    refine norm_ (a':=?_) ?_ ?_;rotate_left;(show Act.put _ (some 25) _=_;exact tP_)
    refine one_ (i:=10) (N:=some 31) (bm 13 2047) rfl rfl (by kernel_rfl) (by decide) (fun K hK=>?_)
    refine goesD_ Tryz.func33 (by kernel_rfl) rfl #[.string s1,.int .i64 9] (by rfl) rfl rfl (by simp only [List.map_toArray,List.map_cons,List.map_nil];rfl) ?_
    refine (HC1.out _).mono ?_
    rintro e w5 ⟨rfl,hb5⟩
    refine .inl ⟨_,rfl,?_⟩
    have hq0:w5.cell? (ad.add i)=some (.string s0):=(hb5.cell (World.block_lt_of_cell? _ _ hp0)).trans hp0
    have hq1:w5.cell? ⟨ad.block,ad.off+(i+1),none⟩=some (.string s1):=(hb5.cell (World.block_lt_of_cell? _ _ hp1)).trans hp1
    refine hK.out _ _ ⟨hq0,hq1⟩ (fun hHeld=>?_)
    clear hK K
    refine norm_ (a':=?_) ?_ ?_;rotate_left;(show Act.put _ (some 31) _=_;exact tP_)
    refine pk_ 11 5 (bm 13 4095) ?_
    refine pk_ 12 6 (bm 13 8191) ?_
    refine done_ (by kernel_rfl) ?_
    have H5:=Aside0.mk (RowS.step (RowS.step HD.out hb4) hb5)
    clear hw1 HD HC0 HC1 hb4 hb5 hy0 hy1 hp0 hp1 hq0 hq1 hce0 hce1 HS
    obtain ⟨LX,hLX⟩:∃ L,L=S2.f0:=⟨_,rfl⟩
    rw [←hLX] at HLX HLS HAP
    have HS2:=Aside0.mk hLX
    clear hLX
    have hsz:=HHV.out.1
    have hhd:∀ h:0 < x0.size,((x0[0]'h).toNat:Int)=bt x0 0:=fun h=>by simp [bt,h]
    have HV:=fun w=>isvar_calls (bt x0 0) w
    rw [show isVarI (bt x0 0)=iv from HHV.out.2] at HV
    have HV:=Aside0.mk HV
    have hxs:(9223372036854775807 < 2+x0.size)=False:=eq_false (by have h1:=HX0.out;omega)
    have hxs2:(9223372036854775807 < 2+x0.size+1)=False:=eq_false (by have h1:=HX0.out;omega)
    go_upto_if 34 with (go_at_call 74;refine (HV.out _).mono ?_;rintro e w6 ⟨rfl,h6⟩;subst w6)
    go_cut [5] (fun v5 wc=>v5=.string LX∧w5=wc)
    case first =>
     cases iv with
     | true =>
      have hx:=HLX.out
      rw [if_pos rfl] at hx
      go_wp2
      go_meet
      case rel=>exact ⟨congrArg Value.string hx.symm,rfl⟩
     | false =>
      have hx:=HLX.out
      rw [if_neg (by simp)] at hx
      go_wp2
      go_meet
      case rel=>exact ⟨congrArg Value.string hx.symm,rfl⟩
    case rest =>
    obtain ⟨rfl,hwc⟩:=hcut
    subst hwc
    go_wp2
    obtain ⟨gb,hgb⟩:∃ g,g=w5.heap.size:=⟨_,rfl⟩
    have HS0:Aside0 (RowG w (w5.alloc (.cells #[.string ⟨#[97]⟩,.string ⟨#[97]⟩,.string ⟨#[97]⟩] 61)) gb (.slice Ao acc.length co) acc∧(w5.alloc (.cells #[.string ⟨#[97]⟩,.string ⟨#[97]⟩,.string ⟨#[97]⟩] 61)).heap[gb]?=some (cells61 ⟨#[97]⟩ ⟨#[97]⟩ ⟨#[97]⟩)):=⟨by rw [hgb];exact RowS.alloc H5.out _,by rw [hgb];exact blk_new w5 _⟩
    rw [←hgb]
    clear hgb H5
    go_loopw [8] (fun v8 wr=>∃ (k:Nat) (x y z:ByteArray),v8=.int .i64 (k:Int)∧Aside0 (k≤LX.size)∧Aside0 (x=(svar (LX.data.toList.take k) 120).text∧y=(svar (LX.data.toList.take k) 121).text∧z=(svar (LX.data.toList.take k) 122).text)∧Aside0 (RowG w wr gb (.slice Ao acc.length co) acc∧wr.heap[gb]?=some (cells61 x y z))) (fun v8 _=>LX.size - (intOf v8).toNat)
    case atStart=>exact ⟨0,_,_,_,rfl,⟨Nat.zero_le _⟩,⟨rfl,rfl,rfl⟩,HS0⟩
    case round =>
     clear HS0
     obtain ⟨k,x,y,z,rfl,HK,HX,HS⟩:=hrel
     by_cases hlt:k < LX.size
     ·have hlb:decide ((k:Int) < (LX.size:Int))=true:=decide_eq_true (by omega)
      have w1k:=wrM k (by have:=HLS.out;omega)
      have hsl:=slice1 LX k hlt
      have hbt:∀ h,(((LX[k]'h).toNat:Nat):Int)=((LX[k]'hlt).toNat:Int):=fun h=>rfl
      have htk:LX.data.toList.take (k+1)=LX.data.toList.take k++[LX[k]'hlt]:=by rw [List.take_succ_eq_append_getElem (by simpa using hlt),list_get LX k hlt]
      obtain ⟨b,hb⟩:∃ b,b=LX[k]'hlt:=⟨_,rfl⟩
      rw [←hb] at hsl hbt htk
      have hu0:IntKind.u8.wrap 0=0:=by kernel_rfl
      have hu1:IntKind.u8.wrap 1=1:=by kernel_rfl
      have hu2:IntKind.u8.wrap 2=2:=by kernel_rfl
      have hcall:=isvar_calls (b.toNat:Int)
      have hd0:wr.drew.cell? ⟨gb,0,none⟩=some (.string x):=blk_cell (blk_drew HS.out.2) 0
      have hd1:wr.drew.cell? ⟨gb,1,none⟩=some (.string y):=blk_cell (blk_drew HS.out.2) 1
      have hd2:wr.drew.cell? ⟨gb,2,none⟩=some (.string z):=blk_cell (blk_drew HS.out.2) 2
      have hz0:=blk_frozen (blk_drew HS.out.2) 0
      have hz1:=blk_frozen (blk_drew HS.out.2) 1
      have hz2:=blk_frozen (blk_drew HS.out.2) 2
      by_cases c120:b=120
      ·subst c120
       have HC:=Aside0.mk (hcall)
       rw [show isVarI ((120:UInt8).toNat:Int)=true from rfl] at HC
       have HN:Aside0 (⟨#[120]⟩=(svar (LX.data.toList.take (k+1)) 120).text∧y=(svar (LX.data.toList.take (k+1)) 121).text∧z=(svar (LX.data.toList.take (k+1)) 122).text):=⟨by rw [htk];exact (svar_here _ _ 120 (by omega) rfl).symm,by rw [htk,svar_snoc _ _ 121 (by decide)];exact HX.out.2.1,by rw [htk,svar_snoc _ _ 122 (by decide)];exact HX.out.2.2⟩
       clear hcall htk hb
       go_wp2_with (go_at_call 74;refine (HC.out _).mono ?_;rintro e w6 ⟨rfl,h6⟩;subst w6)
       refine start_ (n:=11) (S:=fun w'=>True) (ds:=[10]) (bm 11 0) (by kernel_rfl) rfl rfl trivial (fun hHeld=>?_)
       refine pk_ 0 49 (bm 11 1) ?_
       refine pk_ 1 50 (bm 11 3) ?_
       refine pk_ 4 53 (bm 11 19) ?_
       refine pk_ 5 54 (bm 11 51) ?_
       refine pk_ 6 55 (bm 11 115) ?_
       refine pk_ 7 56 (bm 11 243) ?_
       refine pk_ 8 57 (bm 11 499) ?_
       refine take_ (i:=2) (N:=some 51) (v:=?_) (a':=?_) (bm 11 503) rfl rfl (by kernel_rfl) (fun _ _ _ h=>h) (Or.inl ⟨by rfl,?_⟩) hHeld ?_ ?_;rotate_left
       ·intro w' _
        go_simp
        with_reducible rfl
       rotate_left;exact tP_
       refine pk_ 3 52 (bm 11 511) ?_
       refine pk_ 9 58 (bm 11 1023) ?_
       refine last_ (i:=10) (N:=none) (bm 11 2047) rfl rfl (by kernel_rfl) (by decide) (fun K hK=>?_)
       refine skip_ (w1:=?_) (by rfl) rfl ?_ ?_
       rotate_left
       ·go_simp
        rfl
       refine hK.out _ _ ?_
       clear hK K
       refine done_ (by kernel_rfl) ?_
       clear hd0 hd1 hd2 hz0 hz1 hz2 hsl hbt
       go_wp2
       refine ⟨⟨k+1,⟨#[120]⟩,y,z,by rw [w1k];rfl,⟨hlt⟩,HN,⟨RowG.set (RowG.step HS.out.1 (pw_below_drewN (Below.refl _ _) 1)),set61_0 (blk_drew HS.out.2) _⟩⟩,?_⟩
       rw [w1k]
       simp only [intOf]
       clear w1k
       omega
      by_cases c121:b=121
      ·subst c121
       have HC:=Aside0.mk (hcall)
       rw [show isVarI ((121:UInt8).toNat:Int)=true from rfl] at HC
       have HN:Aside0 (x=(svar (LX.data.toList.take (k+1)) 120).text∧⟨#[121]⟩=(svar (LX.data.toList.take (k+1)) 121).text∧z=(svar (LX.data.toList.take (k+1)) 122).text):=⟨by rw [htk,svar_snoc _ _ 120 (by decide)];exact HX.out.1,by rw [htk];exact (svar_here _ _ 121 (by omega) rfl).symm,by rw [htk,svar_snoc _ _ 122 (by decide)];exact HX.out.2.2⟩
       clear hcall htk hb
       go_wp2_with (go_at_call 74;refine (HC.out _).mono ?_;rintro e w6 ⟨rfl,h6⟩;subst w6)
       refine start_ (n:=11) (S:=fun w'=>True) (ds:=[10]) (bm 11 0) (by kernel_rfl) rfl rfl trivial (fun hHeld=>?_)
       refine pk_ 0 49 (bm 11 1) ?_
       refine pk_ 1 50 (bm 11 3) ?_
       refine pk_ 4 53 (bm 11 19) ?_
       refine pk_ 5 54 (bm 11 51) ?_
       refine pk_ 6 55 (bm 11 115) ?_
       refine pk_ 7 56 (bm 11 243) ?_
       refine pk_ 8 57 (bm 11 499) ?_
       refine take_ (i:=2) (N:=some 51) (v:=?_) (a':=?_) (bm 11 503) rfl rfl (by kernel_rfl) (fun _ _ _ h=>h) (Or.inl ⟨by rfl,?_⟩) hHeld ?_ ?_;rotate_left
       ·intro w' _
        go_simp
        with_reducible rfl
       rotate_left;exact tP_
       refine pk_ 3 52 (bm 11 511) ?_
       refine pk_ 9 58 (bm 11 1023) ?_
       refine last_ (i:=10) (N:=none) (bm 11 2047) rfl rfl (by kernel_rfl) (by decide) (fun K hK=>?_)
       refine skip_ (w1:=?_) (by rfl) rfl ?_ ?_
       rotate_left
       ·go_simp
        rfl
       refine hK.out _ _ ?_
       clear hK K
       refine done_ (by kernel_rfl) ?_
       clear hd0 hd1 hd2 hz0 hz1 hz2 hsl hbt
       go_wp2
       refine ⟨⟨k+1,x,⟨#[121]⟩,z,by rw [w1k];rfl,⟨hlt⟩,HN,⟨RowG.set (RowG.step HS.out.1 (pw_below_drewN (Below.refl _ _) 1)),set61_1 (blk_drew HS.out.2) _⟩⟩,?_⟩
       rw [w1k]
       simp only [intOf]
       clear w1k
       omega
      by_cases c122:b=122
      ·subst c122
       have HC:=Aside0.mk (hcall)
       rw [show isVarI ((122:UInt8).toNat:Int)=true from rfl] at HC
       have HN:Aside0 (x=(svar (LX.data.toList.take (k+1)) 120).text∧y=(svar (LX.data.toList.take (k+1)) 121).text∧⟨#[122]⟩=(svar (LX.data.toList.take (k+1)) 122).text):=⟨by rw [htk,svar_snoc _ _ 120 (by decide)];exact HX.out.1,by rw [htk,svar_snoc _ _ 121 (by decide)];exact HX.out.2.1,by rw [htk];exact (svar_here _ _ 122 (by omega) rfl).symm⟩
       clear hcall htk hb
       go_wp2_with (go_at_call 74;refine (HC.out _).mono ?_;rintro e w6 ⟨rfl,h6⟩;subst w6)
       refine start_ (n:=11) (S:=fun w'=>True) (ds:=[10]) (bm 11 0) (by kernel_rfl) rfl rfl trivial (fun hHeld=>?_)
       refine pk_ 0 49 (bm 11 1) ?_
       refine pk_ 1 50 (bm 11 3) ?_
       refine pk_ 4 53 (bm 11 19) ?_
       refine pk_ 5 54 (bm 11 51) ?_
       refine pk_ 6 55 (bm 11 115) ?_
       refine pk_ 7 56 (bm 11 243) ?_
       refine pk_ 8 57 (bm 11 499) ?_
       refine take_ (i:=2) (N:=some 51) (v:=?_) (a':=?_) (bm 11 503) rfl rfl (by kernel_rfl) (fun _ _ _ h=>h) (Or.inl ⟨by rfl,?_⟩) hHeld ?_ ?_;rotate_left
       ·intro w' _
        go_simp
        with_reducible rfl
       rotate_left;exact tP_
       refine pk_ 3 52 (bm 11 511) ?_
       refine pk_ 9 58 (bm 11 1023) ?_
       refine last_ (i:=10) (N:=none) (bm 11 2047) rfl rfl (by kernel_rfl) (by decide) (fun K hK=>?_)
       refine skip_ (w1:=?_) (by rfl) rfl ?_ ?_
       rotate_left
       ·go_simp
        rfl
       refine hK.out _ _ ?_
       clear hK K
       refine done_ (by kernel_rfl) ?_
       clear hd0 hd1 hd2 hz0 hz1 hz2 hsl hbt
       go_wp2
       refine ⟨⟨k+1,x,y,⟨#[122]⟩,by rw [w1k];rfl,⟨hlt⟩,HN,⟨RowG.set (RowG.step HS.out.1 (pw_below_drewN (Below.refl _ _) 1)),set61_2 (blk_drew HS.out.2) _⟩⟩,?_⟩
       rw [w1k]
       simp only [intOf]
       clear w1k
       omega
      have hiv:isVarI ((b.toNat:Nat):Int)=false:=by
       rw [←Bool.not_eq_true]
       unfold isVarI
       rw [Bool.and_eq_true,decide_eq_true_eq,decide_eq_true_eq]
       rintro ⟨h1,h2⟩
       have h3:b.toNat=120∨b.toNat=121∨b.toNat=122:=by omega
       rcases h3 with h3|h3|h3
       ·exact c120 (UInt8.toNat_inj.1 h3)
       ·exact c121 (UInt8.toNat_inj.1 h3)
       ·exact c122 (UInt8.toNat_inj.1 h3)
      rw [hiv] at hcall
      have HC:=Aside0.mk hcall
      have hne:∀ c:Int,120≤c∧c≤122→(b.toNat:Int)≠c:=fun c hc e=>by
       rw [e,isVarI,decide_eq_true (show c≥120 from hc.1),decide_eq_true hc.2] at hiv
       cases hiv
      have HN:Aside0 (x=(svar (LX.data.toList.take (k+1)) 120).text∧y=(svar (LX.data.toList.take (k+1)) 121).text∧z=(svar (LX.data.toList.take (k+1)) 122).text):=⟨by rw [htk,svar_snoc _ _ 120 (hne 120 (by omega))];exact HX.out.1,by rw [htk,svar_snoc _ _ 121 (hne 121 (by omega))];exact HX.out.2.1,by rw [htk,svar_snoc _ _ 122 (hne 122 (by omega))];exact HX.out.2.2⟩
      clear hcall htk hb hne hd0 hd1 hd2 hz0 hz1 hz2 hsl hiv
      go_wp2_with (go_at_call 74;refine (HC.out _).mono ?_;rintro e w6 ⟨rfl,h6⟩;subst w6)
      refine ⟨⟨k+1,x,y,z,by rw [w1k];rfl,⟨hlt⟩,HN,HS⟩,?_⟩
      rw [w1k]
      simp only [intOf]
      clear w1k
      omega
     ·have hlb:decide ((k:Int) < (LX.size:Int))=false:=decide_eq_false (by omega)
      have htk:LX.data.toList.take k=LX.data.toList:=List.take_of_length_le (by simp;omega)
      obtain ⟨ex,ey,ez⟩:=HX.out
      rw [htk] at ex ey ez
      rw [←ex,←ey,←ez] at HAP
      have hx0:wr.cell? ⟨gb,0,none⟩=some (.string x):=blk_cell HS.out.2 0
      have hx1:wr.cell? ⟨gb,1,none⟩=some (.string y):=blk_cell HS.out.2 1
      have hx2:wr.cell? ⟨gb,2,none⟩=some (.string z):=blk_cell HS.out.2 2
      clear htk ex ey ez HX
      have hLX:=HS2.out
      subst hLX
      have HQ:Aside0 ((acc.length+1) * 32≤140737488355328∧j+1≤3∧2 * (j+1)≤l.length∧(i:Int)+2=((2 * (j+1):Nat):Int)∧(acc++[S2]).length=j+1∧6 - (2 * (j+1)) < 6 - i):=by
       obtain ⟨q1,q2,q3,q4,q5⟩:=HIJ.out
       have h1:=HAL.out
       clear HW
       exact ⟨by omega,by omega,by omega,by omega,by rw [List.length_append,List.length_singleton,h1],by omega⟩
      have hw2:=HW.out.2
      clear HW
      go_wp2_with (first
       | (go_at_call 46;refine (HAP.out _).mono ?_;rintro e w7 ⟨rfl,hb7⟩;have H7:=Aside0.mk (RowG.step HS.out.1 hb7);clear hb7)
       | ((with_reducible refine gate_builtin (b:=.append) (xs:=#[.tmp 59,.tmp 65]) rfl ?_);at_builtin;refine Kd.R_append k94 (w0:=w) w.heap.size rfl (.tmp 59) (.tmp 65) 35 94 (.agg #[(.string ⟨#[]⟩),(.string ⟨#[]⟩)]) 32 rfl Tryz.underlying35 info94 rfl (by decide) (by omega) (.slice Ao acc.length co) acc S2 [.string S2.f0,.string S2.f1] (fun _=>True) (fun _=>False) rfl rfl ?aP (fun _ hk=>hk.elim) ?aF ?aO ?aB ?aS ?aL ?_;(case aP=>exact k94_mkM _ _ _ S2);(case aB=>exact H7.out.1);(case aF=>exact (fun _ _=>trivial));(case aO=>exact Kd.R_mono H7.out.2.1 (fun _ _=>trivial));(case aS=>exact H7.out.1.size);(case aL=>exact HQ.out.1);intro v9 w9 ho hb hg hat;have H9:=Aside0.mk (And.intro hb ho);clear ho hb hg hat))
      refine ⟨⟨j+1,acc++[S2],by first|(rw [hw2];exact congrArg (Value.int .i64) HQ.out.2.2.2.1)|exact congrArg (Value.int .i64) HQ.out.2.2.2.1,⟨HQ.out.2.1,HQ.out.2.2.1,HQ.out.2.2.2.2.1,HN.out⟩,⟨H9.out.1,H9.out.2⟩⟩,?_⟩
      have hq:=HQ.out.2.2.2.2.2
      have hq2:=HQ.out.2.2.2.1
      clear HQ
      try rw [hw2]
      clear hw2
      simp only [intOf]
      omega
   ·have hcb2:decide ((acc.length:Int) < 3)=false:=decide_eq_false (by omega)
    have hcb3:decide (acc.length < 3)=false:=decide_eq_false (by omega)
    have HE:Aside0 (acc=(madeT l).map toS):=⟨by rw [hacc];unfold madeT;rw [show min 3 (l.length / 2)=j by omega]⟩
    clear hacc hal hi
    have hw1:=HW.out.1
    go_wp2
    go_ret
    exact ⟨_,rfl,by rw [←HE.out];exact HS.out.2,HS.out.1⟩
  ·have hcb:decide ((i:Int)+1 < (l.length:Int))=false:=decide_eq_false (by omega)
   have HE:Aside0 (acc=(madeT l).map toS):=⟨by rw [hacc];unfold madeT;rw [show min 3 (l.length / 2)=j by omega]⟩
   clear hacc hal hi
   have hw1:=HW.out.1
   go_wp2
   go_ret
   exact ⟨_,rfl,by rw [←HE.out];exact HS.out.2,HS.out.1⟩
noncomputable def nl_made.f (l0:List ByteArray):Option (List S94):=by
 classical
 exact if okStr l0 then some ((madeT l0).map toS) else none
theorem nl_made.calls (A0:Option Addr) (c0:Nat) (l0:List ByteArray) (r:List S94) (w:World) (hr0:Kd.C Kd.string w A0 l0.length l0) (hc0:l0.length≤c0) (h:nl_made.f l0=some r) :
  Calls Tryz.prog 41 #[.slice A0 l0.length c0] w fun e w'=>∃ v0_,e=.returned v0_∧Kd.R k94 94 w' w.heap.size (fun _=>True) v0_ r∧Below w.heap.size w w':=by
 classical
 unfold nl_made.f at h
 split at h
 ·rename_i hl
  injection h with h
  subst h
  exact made_calls l0 A0 c0 w hl hr0
 ·cases h
theorem made_f {l:List ByteArray} (h:okStr l):nl_made.f l=some ((madeT l).map toS):=by
 classical
 unfold nl_made.f
 exact if_pos h
end Go.Proofs.YtaafeallcaiooaaGreat.Pr
