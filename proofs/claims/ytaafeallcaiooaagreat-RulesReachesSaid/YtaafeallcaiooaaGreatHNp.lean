/- the reference's Next and Returns, plainly. -/
import Derived.Test.YtaafeallcaiooaaGreatHRm
import Derived.Test.YtaafeallcaiooaaGreatHRu
import Derived.Test.YtaafeallcaiooaaGreatHNe
import Derived.Test.YtaafeallcaiooaaGreatHLw
import Derived.Test.YtaafeallcaiooaaGreatPrD1
import Derived.Test.YtaafeallcaiooaaGreatPrD2
namespace Go.Proofs.YtaafeallcaiooaaGreat.Pr
open Go.RowKit Go.Proofs.Zw Go.Proofs.Zl Go.Proofs.Zm
set_option linter.unusedVariables false
set_option linter.unusedSimpArgs false
theorem end_up (s:ByteArray) (i r:Int):∀ (n k:Nat),nr_End.f k s i=some r→nr_End.f (k+n) s i=some r
 | 0,k,h=>h
 | n+1,k,h=>nr_End.mono s i (k+n) r (end_up s i r n k h)
theorem endC_eq {s:ByteArray} {i e:Int} (h:Evt (fun k=>nr_End.f k s i) e):endC s i=some e:=by
 classical
 obtain ⟨K,hK⟩:=h
 have hex:∃ r k,nr_End.f k s i=some r:=⟨e,K,hK K (Nat.le_refl _)⟩
 unfold endC
 rw [dif_pos hex]
 obtain ⟨k,hk⟩:=Classical.choose_spec hex
 have h1:=end_up s i _ K k hk
 have h2:nr_End.f (k+K) s i=some e:=hK (k+K) (by omega)
 rw [h1] at h2
 exact h2
theorem tx_head (U:Tm) (h:U.good):∃ (d:UInt8) (l:List UInt8),U.tx=d :: l∧(d.toNat:Int)=(match U with|.var c=>c|.app s _=>s):=by
 cases U with
 | var c =>
  rw [Tm.good] at h
  exact ⟨ch c,[],by rw [Tm.tx],ch_toNat (by omega)⟩
 | app s l =>
  have hl2:=good_len h
  rw [Tm.good] at h
  exact ⟨ch s,_,tx_app2 s l hl2,ch_toNat (by omega)⟩
theorem bAt_head {s:ByteArray} {i:Nat} {c:UInt8} {r:List UInt8} (h:s.data.toList.drop i=c :: r):i < s.size∧bAt s i=(c.toNat:Int):=by
 obtain ⟨h1,h2,h3⟩:=at_cons h
 refine ⟨h1,?_⟩
 unfold bAt
 rw [dif_pos h1,←h2]
 simp [bt,h1]
theorem extract_tx {s:ByteArray} {i:Nat} {U:Tm} {r:List UInt8} (h:s.data.toList.drop i=U.tx++r):s.extract i (i+U.tx.length)=U.text:=by
 rw [←B8_of (s.extract i (i+U.tx.length))]
 show B8 _=B8 U.tx
 congr 1
 have h1:(s.extract i (i+U.tx.length)).data.toList=(s.data.toList.drop i).take U.tx.length:=by
  rw [ByteArray.data_extract,Array.toList_extract]
  first|rfl|(rw [List.extract_eq_take_drop];simp)|(rw [List.extract_eq_drop_take];simp)|simp
 rw [h1,h,List.take_left]
theorem sx_upd (σ:Sub) (c d:Int) (U:Tm):sx (upd σ c U) d=if d=c then U.text else sx σ d:=by
 unfold sx upd
 by_cases h:d=c
 ·rw [if_pos h,if_pos h]
 ·rw [if_neg h,if_neg h]
noncomputable def msR (s:ByteArray) (rest:List UInt8) (at_:Nat):Option Sub→Option (Option (ByteArray × ByteArray × ByteArray × Nat))
 | none=>some none
 | some σ=>ms s rest at_ (sx σ 120) (sx σ 121) (sx σ 122)
theorem msR_bind (s:ByteArray) (rest:List UInt8) (at_:Nat) (o:Option Sub) (f:Sub→Option Sub):msR s rest at_ (o.bind f)=match o with|none=>some none|some σ=>msR s rest at_ (f σ):=by cases o<;>rfl
def MsOk (s:ByteArray) (P:Tm):Prop:=∀ (U:Tm) (at_:Nat) (r rest:List UInt8) (σ:Sub),P.good→U.good→SubGood σ→U.size≤1000000→s.data.toList.drop at_=U.tx++r→ms s (P.tx++rest) at_ (sx σ 120) (sx σ 121) (sx σ 122)=msR s rest (at_+U.tx.length) (matchT P U σ)
theorem ms_var (s:ByteArray) (hs:s.size≤140737488351232) (c:Int):MsOk s (.var c):=by
 intro U at_ r rest σ hP hU hσ hsz h
 rw [Tm.good] at hP
 obtain ⟨d,l,hd,_⟩:=tx_head U hU
 have hh:=h
 rw [hd,List.cons_append] at hh
 obtain ⟨h1,h2⟩:=bAt_head hh
 have hc:=ch_toNat (c:=c) (by omega)
 have hE:=endC_eq (rEndE s hs U hU at_ r h)
 have hlen:at_+U.tx.length≤s.size:=by
  have h4:=congrArg List.length h
  rw [List.length_drop,List.length_append] at h4
  have:s.data.toList.length=s.size:=by simp
  omega
 have hpc:=extract_tx h
 have hv:¬ isVarI (((ch c).toNat:Nat):Int)=false:=by
  rw [hc]
  unfold isVarI
  rw [decide_eq_true hP.1,decide_eq_true hP.2]
  simp
 have hpos:∀ u:Tm,u.good→¬ u.text.size=0:=fun u hu=>by
  rw [show u.text.size=u.tx.length from B8_size _]
  obtain ⟨d',l',hd',_⟩:=tx_head u hu
  rw [hd']
  simp
 rw [Tm.tx,List.cons_append,List.nil_append,ms,if_neg (by omega),if_neg hv,hE]
 dsimp only
 rw [if_neg (by omega),show (((at_:Nat):Int)+(U.tx.length:Int)).toNat=at_+U.tx.length by omega,if_pos ⟨by omega,hlen⟩,hpc]
 have hgen:∀ (x:ByteArray),x=sx σ c→((x.size=0∨x=U.text)↔(∃ σ',matchT (.var c) U σ=some σ'∧∀ d,sx σ' d=if d=c then U.text else sx σ d)):=by
  intro x hx
  subst hx
  rw [matchT]
  cases hσc:σ c with
  | none =>
   have:sx σ c=⟨#[]⟩:=by unfold sx;rw [hσc]
   rw [this]
   exact ⟨fun _=>⟨_,rfl,fun d=>sx_upd σ c d U⟩,fun _=>.inl rfl⟩
  | some old =>
   have ho:=hσ c old hσc
   have hso:sx σ c=old.text:=by unfold sx;rw [hσc]
   rw [hso]
   dsimp only
   by_cases he:old.text=U.text
   ·have hsb:sameB old U=true:=by rw [sameB_eq ho.1 hU,decide_eq_true he]
    rw [if_pos hsb]
    refine ⟨fun _=>⟨σ,rfl,fun d=>?_⟩,fun _=>.inr he⟩
    by_cases hdc:d=c
    ·rw [if_pos hdc,hdc,hso,he]
    ·rw [if_neg hdc]
   ·have hsb:¬ sameB old U=true:=by rw [sameB_eq ho.1 hU,decide_eq_false he];simp
    rw [if_neg hsb]
    exact ⟨fun h=>h.elim (fun h=>absurd h (hpos old ho.1)) (fun h=>absurd h he),fun ⟨σ',h,_⟩=>by cases h⟩
 have hno:∀ (x:ByteArray),x=sx σ c→¬ (x.size=0∨x=U.text)→matchT (.var c) U σ=none:=by
  intro x hx hn
  cases hm:matchT (.var c) U σ with
  | none=>rfl
  | some σ' =>
   exfalso
   apply hn
   rw [hgen x hx]
   refine ⟨σ',hm,fun d=>?_⟩
   rw [matchT] at hm
   split at hm
   ·rename_i old hσc
    split at hm
    ·rename_i hsb
     injection hm with hm
     subst hm
     by_cases hdc:d=c
     ·rw [if_pos hdc,hdc]
      unfold sx
      rw [hσc]
      exact congrArg Tm.text ((same_iff (hσ c old hσc).1 hU).1 hsb)
     ·rw [if_neg hdc]
    ·cases hm
   ·injection hm with hm
    subst hm
    exact sx_upd σ c d U
 have h3:c=120∨c=121∨c=122:=by omega
 rcases h3 with rfl|rfl|rfl
 ·rw [if_pos (by rfl)]
  by_cases hx:(sx σ 120).size=0∨sx σ 120=U.text
  ·obtain ⟨σ',hm,hs'⟩:=(hgen _ rfl).1 hx
   rw [if_pos hx,hm,msR,hs' 120,hs' 121,hs' 122]
   rfl
  ·rw [if_neg hx,hno _ rfl hx]
   rfl
 ·rw [if_neg (by decide),if_pos (by rfl)]
  by_cases hx:(sx σ 121).size=0∨sx σ 121=U.text
  ·obtain ⟨σ',hm,hs'⟩:=(hgen _ rfl).1 hx
   rw [if_pos hx,hm,msR,hs' 120,hs' 121,hs' 122]
   rfl
  ·rw [if_neg hx,hno _ rfl hx]
   rfl
 ·rw [if_neg (by decide),if_neg (by decide)]
  by_cases hx:(sx σ 122).size=0∨sx σ 122=U.text
  ·obtain ⟨σ',hm,hs'⟩:=(hgen _ rfl).1 hx
   rw [if_pos hx,hm,msR,hs' 120,hs' 121,hs' 122]
   rfl
  ·rw [if_neg hx,hno _ rfl hx]
   rfl
theorem ms_char {s:ByteArray} {c d:UInt8} {rest r:List UInt8} {at_:Nat} {x y z:ByteArray} (hc:isVarI (c.toNat:Int)=false) (h:s.data.toList.drop at_=d :: r):ms s (c :: rest) at_ x y z=if c=d then ms s rest (at_+1) x y z else some none:=by
 obtain ⟨h1,h2⟩:=bAt_head h
 rw [ms,if_neg (by omega),if_pos hc,h2]
 by_cases e:c=d
 ·rw [if_pos (by rw [e]),if_pos e]
 ·rw [if_neg (fun h=>e (UInt8.toNat_inj.1 (by omega))),if_neg e]
theorem ms_list (s:ByteArray):∀ (l l':List Tm) (j at_:Nat) (r rest:List UInt8) (σ:Sub),(∀ x,x∈l→MsOk s x)→l.length=l'.length→Tm.goods l→Tm.goods l'→SubGood σ→Tm.sizes l'≤1000000→s.data.toList.drop at_=txM j l'++r→ms s (txM j l++rest) at_ (sx σ 120) (sx σ 121) (sx σ 122)=msR s rest (at_+(txM j l').length) (matchL l l' σ)
 | [],[],j,at_,r,rest,σ,_,_,_,_,_,_,h=>by rw [matchL];rfl
 | [],_ :: _,_,_,_,_,_,_,hl,_,_,_,_,_=>by simp at hl
 | _ :: _,[],_,_,_,_,_,_,hl,_,_,_,_,_=>by simp at hl
 | p :: l,u :: l',j,at_,r,rest,σ,hx,hl,hg,hg',hσ,hsz,h=>by
  rw [Tm.goods] at hg hg'
  rw [Tm.sizes] at hsz
  have hn1:=Tm.sizes_nn l'
  have hn2:=Tm.size_pos u
  have hm:isVarI (((UInt8.ofNat (mark j).toNat).toNat:Nat):Int)=false:=by
   rw [mark_nat]
   unfold mark
   split<;>decide
  rw [txM,List.cons_append,List.append_assoc] at h
  have h2:=(at_cons h).2.2
  rw [txM,List.cons_append,List.append_assoc,ms_char hm h,if_pos rfl,hx p (by simp) u (at_+1) _ _ σ hg.1 hg'.1 hσ (by omega) h2,matchL,msR_bind]
  cases hM:matchT p u σ with
  | none=>rfl
  | some σ' =>
   dsimp only
   rw [msR,ms_list s l l' (j+1) (at_+1+u.tx.length) r rest σ' (fun x h=>hx x (by simp [h])) (by simpa using hl) hg.2 hg'.2 (matchT_good p u σ σ' hσ hg'.1 (by omega) hM) (by omega) (drop_app h2),txM,List.length_cons,List.length_append]
   congr 1
   omega
theorem ms_all (s:ByteArray) (hs:s.size≤140737488351232):∀ P:Tm,MsOk s P:=by
 refine Tm.ind (fun c=>ms_var s hs c) (fun sy l ih U at_ r rest σ hP hU hσ hsz h=>?_)
 have hl2:=good_len hP
 have hgP:=hP
 rw [Tm.good] at hP
 have hcs:=ch_toNat (c:=sy) (by omega)
 have hv:isVarI (((ch sy).toNat:Nat):Int)=false:=by
  rw [hcs]
  unfold isVarI
  rw [decide_eq_false (show ¬ sy≥120 by omega),Bool.false_and]
 rw [tx_app2 sy l hl2,List.cons_append]
 cases U with
 | var c =>
  rw [Tm.good] at hU
  rw [Tm.tx,List.cons_append] at h
  have hcc:=ch_toNat (c:=c) (by omega)
  rw [ms_char hv h,if_neg (fun e=>by rw [e] at hcs;omega),matchT]
  rfl
 | app sy' l' =>
  have hl2':=good_len hU
  have hgU:=hU
  rw [Tm.good] at hU
  have hcc:=ch_toNat (c:=sy') (by omega)
  have h0:=h
  rw [tx_app2 sy' l' hl2',List.cons_append] at h
  rw [ms_char hv h,matchT]
  by_cases he:sy'=sy
  ·subst he
   have hll:l.length=l'.length:=by omega
   have h2:=(at_cons h).2.2
   rw [if_pos rfl,if_pos rfl,tx_app2 sy' l' hl2']
   by_cases h00:l.length=0
   ·have h00':l'.length=0:=by omega
    rw [if_pos h00,if_pos h00',List.length_eq_zero_iff.1 h00,List.length_eq_zero_iff.1 h00',matchL]
    rfl
   ·have h00':¬ l'.length=0:=by omega
    rw [if_neg h00'] at h2
    rw [if_neg h00,if_neg h00',List.append_assoc]
    rw [List.append_assoc] at h2
    rw [Tm.size] at hsz
    rw [ms_list s l l' 0 (at_+1) ([41]++r) ([41]++rest) σ (fun x hx=>ih x hx) hll hP.2.2 hU.2.2 hσ (by omega) h2]
    cases hM:matchL l l' σ with
    | none=>rfl
    | some σ' =>
     have h3:=drop_app h2
     rw [msR,msR,List.cons_append,List.nil_append,ms_char (r:=r) (d:=41) (by decide) (by rw [h3];rfl),if_pos rfl,List.length_cons,List.length_append]
     congr 1
     simp
     omega
  ·rw [if_neg (fun e=>he (by have:=congrArg UInt8.toNat e;omega)),if_neg he]
   rfl
theorem refMatch_eval {P T:Tm} (hP:P.good) (hT:T.good) (sP:P.size≤1000) (sT:T.size≤1000):nr_Match.f P.text T.text=some (match matchT P T noSub with
  | none=>(⟨#[]⟩,⟨#[]⟩,⟨#[]⟩,false)
  | some σ=>(sx σ 120,sx σ 121,sx σ 122,true)):=by
 have h1:=tx_le P
 have h2:=tx_le T
 have z1:P.text.size=P.tx.length:=B8_size _
 have z2:T.text.size=T.tx.length:=B8_size _
 unfold nr_Match.f
 rw [if_pos ⟨by omega,by omega⟩]
 have h:=ms_all T.text (by omega) P T 0 [] [] noSub hP hT noSub_good (by omega) (by rw [List.drop_zero,List.append_nil];exact B8_list _)
 rw [List.append_nil] at h
 have e:P.text.data.toList=P.tx:=B8_list _
 rw [e]
 have e2:∀ c,sx noSub c=⟨#[]⟩:=fun c=>rfl
 rw [e2,e2,e2] at h
 rw [h]
 cases hM:matchT P T noSub with
 | none=>rfl
 | some σ =>
  rw [msR,ms]
  simp only [Option.map_some]
  unfold finM
  dsimp only
  rw [if_pos (by omega)]
mutual
theorem matchT_dom:∀ (p t:Tm) (σ σ':Sub),matchT p t σ=some σ'→(∀ c,(σ c).isSome=true→(σ' c).isSome=true)∧∀ c,occT c p=true→(σ' c).isSome=true
  | .var c,t,σ,σ',e=>by
    rw [matchT] at e
    split at e
    · rename_i old ho
      split at e
      · injection e with e
        subst e
        refine ⟨fun c h=>h,fun d hd=>?_⟩
        rw [occ_var,decide_eq_true_eq] at hd
        subst hd
        rw [ho]
        rfl
      · cases e
    · injection e with e
      subst e
      refine ⟨fun d hd=>?_,fun d hd=>?_⟩
      · unfold upd
        split
        · rfl
        · exact hd
      · rw [occ_var,decide_eq_true_eq] at hd
        unfold upd
        rw [if_pos hd]
        rfl
  | .app s l,.app s' l',σ,σ',e=>by
    rw [matchT] at e
    split at e
    · have h:=matchL_dom l l' σ σ' e
      exact ⟨h.1,fun c hc=>h.2 c (by rw [occ_app] at hc;exact hc)⟩
    · cases e
  | .app _ _,.var _,_,_,e=>by rw [matchT] at e;cases e
theorem matchL_dom:∀ (p t:List Tm) (σ σ':Sub),matchL p t σ=some σ'→(∀ c,(σ c).isSome=true→(σ' c).isSome=true)∧∀ c,p.any (occT c)=true→(σ' c).isSome=true
  | [],_,σ,σ',e=>by
    rw [matchL] at e
    injection e with e
    subst e
    exact ⟨fun _ h=>h,fun c h=>by simp at h⟩
  | p :: ps,t :: ts,σ,σ',e=>by
    rw [matchL] at e
    cases h:matchT p t σ with
    | none=>rw [h] at e;cases e
    | some σ1 =>
      rw [h] at e
      have h1:=matchT_dom p t σ σ1 h
      have h2:=matchL_dom ps ts σ1 σ' e
      refine ⟨fun c hc=>h2.1 c (h1.1 c hc),fun c hc=>?_⟩
      rw [List.any_cons,Bool.or_eq_true] at hc
      rcases hc with hc|hc
      · exact h2.1 c (h1.2 c hc)
      · exact h2.2 c hc
  | _ :: _,[],_,_,e=>by rw [matchL] at e;cases e
end
def SetOf (σ:Sub) (c:Int) (s:List UInt8):Prop:=∃ u,σ c=some u∧s=u.tx
theorem apply_any (s0 s1 s2:List UInt8) (σ:Sub):∀ t:Tm,t.good→(occT 120 t=true→SetOf σ 120 s0)→(occT 121 t=true→SetOf σ 121 s1)→(occT 122 t=true→SetOf σ 122 s2)→applyL s0 s1 s2 t.tx=(t.sub σ).tx:=by
  refine Tm.ind (fun c hg h0 h1 h2=>?_) (fun s l ih hg h0 h1 h2=>?_)
  · rw [Tm.good] at hg
    rw [Tm.tx,applyL_cons,Tm.sub]
    have:c=120∨c=121∨c=122:=by omega
    rcases this with rfl|rfl|rfl
    · obtain ⟨u,e1,e2⟩:=h0 (by rw [occ_var];rfl)
      rw [e1]
      show applyC s0 s1 s2 120++[]=_
      rw [List.append_nil]
      exact e2
    · obtain ⟨u,e1,e2⟩:=h1 (by rw [occ_var];rfl)
      rw [e1]
      show applyC s0 s1 s2 121++[]=_
      rw [List.append_nil]
      exact e2
    · obtain ⟨u,e1,e2⟩:=h2 (by rw [occ_var];rfl)
      rw [e1]
      show applyC s0 s1 s2 122++[]=_
      rw [List.append_nil]
      exact e2
  · have hl2:=good_len hg
    rw [Tm.good] at hg
    have hc:applyC s0 s1 s2 (ch s)=[ch s]:=applyC_no _ _ _ (by left;rw [ch_nat (by omega)];omega)
    rw [sub_app,tx_app2 s l hl2,tx_app2 s _ (by rw [List.length_map];exact hl2),List.length_map,applyL_cons,hc]
    have occ:∀ c x,x∈l→occT c x=true→occT c (.app s l)=true:=fun c x hx h=>by
      rw [occ_app,List.any_eq_true]
      exact ⟨x,hx,h⟩
    by_cases h00:l.length=0
    · rw [if_pos h00,if_pos h00];rfl
    · rw [if_neg h00,if_neg h00,applyL_app,applyM _ _ _ (Tm.sub σ) l 0 (fun t ht=>ih t ht (goods_mem hg.2.2 ht) (fun h=>h0 (occ _ t ht h)) (fun h=>h1 (occ _ t ht h)) (fun h=>h2 (occ _ t ht h)))]
      rfl
theorem sx_set {σ:Sub} {c:Int} (h:(σ c).isSome=true):SetOf σ c (sx σ c).data.toList:=by
  unfold sx
  cases hc:σ c with
  | none=>rw [hc] at h;cases h
  | some u=>exact ⟨u,hc,text_data u⟩
theorem sx_le {σ:Sub} (h:SubLe 60 σ) (c:Int):(sx σ c).size≤1000000:=by
  unfold sx
  cases hc:σ c with
  | none=>show 0≤_;omega
  | some u=>have:=text_le (t:=u) (by have:=h c u hc;omega);show u.text.size≤_;omega
theorem apply_rule {L R U:Tm} {σ:Sub} (hL:L.good) (hR:R.good) (hv:okVar L R 120=true∧okVar L R 121=true∧okVar L R 122=true) (sR:R.size≤12) (sU:U.size≤60) (hm:matchT L U noSub=some σ):nr_Apply.f R.text (sx σ 120) (sx σ 121) (sx σ 122)=some (R.sub σ).text:=by
  have hd:=(matchT_dom L U noSub σ hm).2
  have hle:=matchT_le 60 L U noSub σ (fun c u h=>by cases h) sU hm
  have key:∀ c,okVar L R c=true→occT c R=true→SetOf σ c (sx σ c).data.toList:=fun c hc ho=>by
    unfold okVar at hc
    rw [ho,Bool.not_true,Bool.false_or] at hc
    exact sx_set (hd c hc)
  have z:=text_le (t:=R) (by omega)
  unfold nr_Apply.f
  rw [if_pos ⟨by omega,sx_le hle _,sx_le hle _,sx_le hle _⟩,text_data,apply_any _ _ _ σ R hR (key 120 hv.1) (key 121 hv.2.1) (key 122 hv.2.2)]
  rfl
theorem lawT_at {x:S94} {l:Tm × Tm} (h:lawT x=some l):x.f0=l.1.text∧x.f1=l.2.text∧okVar l.1 l.2 120=true∧okVar l.1 l.2 121=true∧okVar l.1 l.2 122=true:=by
  unfold lawT readL at h
  cases hA:readT x.f0 with
  | none=>rw [hA] at h;cases h
  | some A =>
    cases hB:readT x.f1 with
    | none=>rw [hA,hB] at h;cases h
    | some B =>
      rw [hA,hB] at h
      simp only [Option.bind_some,Option.map_some] at h
      split at h
      · rename_i ho
        injection h with h
        subst h
        unfold okLaw at ho
        simp only [Bool.and_eq_true] at ho
        exact ⟨(readT_iff.1 hA).2.2,(readT_iff.1 hB).2.2,ho.2.2.2.1,ho.2.2.2.2.1,ho.2.2.2.2.2⟩
      · cases h
theorem lawsT_at:∀ {rs:List S94} {ls:List (Tm × Tm)},lawsT rs=some ls→∀ k (h:k < rs.length) (h':k < ls.length),lawT rs[k]=some ls[k]
  | [],ls,e,k,h,_=>by simp at h
  | x :: rs,ls,e,k,h,h'=>by
    rw [lawsT] at e
    cases hx:lawT x with
    | none=>rw [hx] at e;cases e
    | some l =>
      cases hr:lawsT rs with
      | none=>rw [hx,hr] at e;cases e
      | some r =>
        rw [hx,hr] at e
        simp only [Option.bind_some,Option.map_some] at e
        injection e with e
        subst e
        cases k with
        | zero=>exact hx
        | succ k=>exact lawsT_at hr k (by simpa using h) (by simpa using h')
theorem insD_split (x:ByteArray) (l:List ByteArray) (i:Nat) (h:i < l.length):insD x (l.drop i)=if Op.bytesLess l[i].toList x.toList=true then l[i] :: insD x (l.drop (i+1)) else if l[i]=x then l.drop i else x :: l.drop i:=by
  rw [List.drop_eq_getElem_cons h,insD]
theorem toList_inj {a b:ByteArray}:a.toList=b.toList↔a=b:=by
  constructor
  · intro h
    rw [ByteArray.toList_eq,ByteArray.toList_eq] at h
    rw [←B8_of a,←B8_of b,h]
  · rintro rfl;rfl
theorem insertL (l:List ByteArray) (x:ByteArray) (hl:l.length≤1000000000):∀ (n i:Nat),i+n=l.length→Evt (fun k=>nr_insert.l0 k l x (i:Int)) (l.take i++insD x (l.drop i))
  | 0,i,hi=>by
    refine Evt.now fun k=>?_
    have e1:l.take i=l:=List.take_of_length_le (by omega)
    have e2:l.drop i=[]:=List.drop_of_length_le (by omega)
    rw [nr_insert.l0,if_neg (by omega),if_pos (by omega),if_pos (by omega),Int.toNat_natCast,e1,e2]
    simp only [Option.bind_some,List.nil_append,List.length_nil,List.append_nil,List.length_append,List.length_cons]
    rw [if_pos (by omega),if_pos (by omega),if_pos (by omega)]
    rfl
  | n+1,i,hi=>by
    have hlt:i < l.length:=by omega
    have hw:wrap64 ((i:Int)+1)=((i+1:Nat):Int):=(wr (by omega) (by omega)).trans (by omega)
    rw [insD_split x l i hlt]
    by_cases h1:Op.bytesLess l[i].toList x.toList=true
    · rw [if_pos h1]
      refine Evt.step (g':=fun k=>nr_insert.l0 k l x ((i+1:Nat):Int)) (fun k=>?_) ((insertL l x hl n (i+1) (by omega)).val ?_)
      · rw [nr_insert.l0,if_pos (by omega),if_pos (by omega),rdOf_at l i hlt,if_pos h1,hw]
      · rw [List.take_succ_eq_append_getElem hlt,List.append_assoc]
        rfl
    · rw [if_neg h1]
      refine Evt.now fun k=>?_
      rw [nr_insert.l0,if_pos (by omega),if_pos (by omega),rdOf_at l i hlt,if_neg h1]
      by_cases h2:l[i]=x
      · rw [if_pos (by rw [h2]),if_pos h2,List.take_append_drop]
      · rw [if_neg (fun e=>h2 (toList_inj.1 e)),if_neg h2,if_pos (by omega),Int.toNat_natCast]
        simp only [Option.bind_some,List.nil_append,List.length_nil,List.length_append,List.length_cons,List.length_take,List.length_drop]
        rw [if_pos (by omega),if_pos (by omega),if_pos (by omega)]
        rw [List.append_assoc]
        rfl
theorem insertE (l:List ByteArray) (x:ByteArray) (hl:l.length≤1000000000):Evt (fun k=>nr_insert.f k l x) (insD x l):=insertL l x hl l.length 0 (by omega)
def hasS (l:List ByteArray) (x:ByteArray):Bool:=l.any (fun y=>decide (y=x))
theorem hasS_iff {l:List ByteArray} {x:ByteArray}:hasS l x=true↔x∈l:=by
  unfold hasS
  rw [List.any_eq_true]
  simp
theorem hasL' (l:List ByteArray) (x:ByteArray) (hl:l.length≤1000000000):∀ (n i:Nat),i+n=l.length→Evt (fun k=>nr_has.l0 k l x (i:Int)) (hasS (l.drop i) x)
  | 0,i,hi=>by
    refine Evt.now fun k=>?_
    rw [nr_has.l0,if_neg (by omega),List.drop_of_length_le (by omega)]
    rfl
  | n+1,i,hi=>by
    have hlt:i < l.length:=by omega
    have hw:wrap64 ((i:Int)+1)=((i+1:Nat):Int):=(wr (by omega) (by omega)).trans (by omega)
    rw [List.drop_eq_getElem_cons hlt]
    by_cases h2:l[i]=x
    · refine Evt.now fun k=>?_
      rw [nr_has.l0,if_pos (by omega),if_pos (by omega),rdOf_at l i hlt,if_pos (by rw [h2]),hasS_iff.2 (by rw [h2];exact List.mem_cons_self ..)]
    · refine Evt.step (g':=fun k=>nr_has.l0 k l x ((i+1:Nat):Int)) (fun k=>?_) ((hasL' l x hl n (i+1) (by omega)).val ?_)
      · rw [nr_has.l0,if_pos (by omega),if_pos (by omega),rdOf_at l i hlt,if_neg (fun e=>h2 (toList_inj.1 e)),hw]
      · rw [Bool.eq_iff_iff,hasS_iff,hasS_iff,List.mem_cons]
        exact ⟨.inr,fun h=>h.resolve_left (fun e=>h2 e.symm)⟩
theorem hasE (l:List ByteArray) (x:ByteArray) (hl:l.length≤1000000000):Evt (fun k=>nr_has.f k l x) (hasS l x):=hasL' l x hl l.length 0 (by omega)
mutual
def nexA (ls:List (Tm × Tm)):Tm→List Tm
  | .var c=>rootT ls (.var c)
  | .app s l=>rootT ls (.app s l)++nexL ls s [] l
def nexL (ls:List (Tm × Tm)) (s:Int):List Tm→List Tm→List Tm
  | _,[]=>[]
  | pre,u :: us=>(nexA ls u).map (fun v=>.app s (pre++v :: us))++nexL ls s (pre++[u]) us
end
mutual
theorem nexA_len (ls:List (Tm × Tm)):∀ t:Tm,((nexA ls t).length:Int)≤ls.length * t.size
  | .var c=>by rw [nexA,Tm.size,Int.mul_one];have:=rootT_len ls (.var c);omega
  | .app s l=>by
    rw [nexA,List.length_append,Tm.size,Int.mul_add]
    have h1:=rootT_len ls (.app s l)
    have h2:=nexL_len ls s [] l
    omega
theorem nexL_len (ls:List (Tm × Tm)) (s:Int):∀ (pre l:List Tm),((nexL ls s pre l).length:Int)≤ls.length * Tm.sizes l
  | pre,[]=>by rw [nexL,Tm.sizes];simp
  | pre,u :: us=>by
    rw [nexL,List.length_append,List.length_map,Tm.sizes,Int.mul_add]
    have h1:=nexA_len ls u
    have h2:=nexL_len ls s (pre++[u]) us
    omega
end
def putA (pre r:List UInt8) (vs:List Tm) (acc:List ByteArray):List ByteArray:=vs.foldl (fun a v=>insD (B8 (pre++v.tx++r)) a) acc
theorem putA_app (pre r:List UInt8) (a b:List Tm) (acc:List ByteArray):putA pre r (a++b) acc=putA pre r b (putA pre r a acc):=List.foldl_append
theorem putA_len (pre r:List UInt8):∀ (vs:List Tm) (acc:List ByteArray),(putA pre r vs acc).length≤acc.length+vs.length
  | [],acc=>Nat.le_refl _
  | v :: vs,acc=>by
    have:=putA_len pre r vs (insD (B8 (pre++v.tx++r)) acc)
    have h2:=insD_len (B8 (pre++v.tx++r)) acc
    show (putA pre r vs (insD (B8 (pre++v.tx++r)) acc)).length≤_
    rw [List.length_cons]
    omega
theorem mem_putA (pre r:List UInt8) (x:ByteArray):∀ (vs:List Tm) (acc:List ByteArray),x∈putA pre r vs acc↔(∃ v∈vs,x=B8 (pre++v.tx++r))∨x∈acc
  | [],acc=>by simp [putA]
  | v :: vs,acc=>by
    show x∈putA pre r vs _↔_
    rw [mem_putA pre r x vs,mem_insD]
    simp only [List.mem_cons,exists_eq_or_imp]
    constructor
    · rintro (h|h|h)
      · exact .inl (.inr h)
      · exact .inl (.inl h)
      · exact .inr h
    · rintro ((h|h)|h)
      · exact .inr (.inl h)
      · exact .inl h
      · exact .inr (.inr h)
theorem putA_sorted (pre r:List UInt8):∀ (vs:List Tm) (acc:List ByteArray),acc.Pairwise ltS→(putA pre r vs acc).Pairwise ltS
  | [],acc,h=>h
  | v :: vs,acc,h=>putA_sorted pre r vs _ (insD_sorted _ h)
theorem txM_append:∀ (a b:List Tm) (i:Nat),txM i (a++b)=txM i a++txM (i+a.length) b
  | [],b,i=>by simp [txM]
  | t :: a,b,i=>by
    rw [List.cons_append,txM,txM,txM_append a b (i+1),List.length_cons,show i+1+a.length=i+(a.length+1) by omega]
    simp
theorem putA_part (s:Int) (pre r:List UInt8) (p us:List Tm) (hn:(p.length+1+us.length)≤2):∀ (vs:List Tm) (acc:List ByteArray),putA pre r (vs.map (fun v=>.app s (p++v :: us))) acc=putA (pre++ch s :: (txM 0 p++[UInt8.ofNat (mark p.length).toNat])) (txM (p.length+1) us++41 :: r) vs acc
  | [],acc=>rfl
  | v :: vs,acc=>by
    show putA pre r (vs.map _) (insD _ acc)=putA _ _ vs (insD _ acc)
    rw [putA_part s pre r p us hn vs]
    congr 3
    rw [tx_app2 s (p++v :: us) (by simp;omega),if_neg (by simp),txM_append,Nat.zero_add,txM]
    simp
theorem ext_pre {s:ByteArray} {pre r:List UInt8} (h:s.data.toList=pre++r):s.extract 0 pre.length=B8 pre:=by
  rw [←B8_of (s.extract 0 pre.length)]
  congr 1
  have h1:(s.extract 0 pre.length).data.toList=(s.data.toList.drop 0).take pre.length:=by
    rw [ByteArray.data_extract,Array.toList_extract]
    first|rfl|(rw [List.extract_eq_take_drop];simp)|(rw [List.extract_eq_drop_take];simp)|simp
  rw [h1,h,List.drop_zero,List.take_left]
theorem ext_post {s:ByteArray} {pre r:List UInt8} (h:s.data.toList=pre++r):s.extract pre.length s.size=B8 r:=by
  rw [←B8_of (s.extract pre.length s.size)]
  congr 1
  have h1:(s.extract pre.length s.size).data.toList=(s.data.toList.drop pre.length).take (s.size - pre.length):=by
    rw [ByteArray.data_extract,Array.toList_extract]
  have h2:s.data.toList.length=s.size:=by simp
  rw [h1,h,List.drop_left,List.take_of_length_le]
  have:=congrArg List.length h
  rw [List.length_append] at this
  omega
theorem len_of {s:ByteArray} {l:List UInt8} (h:s.data.toList=l):s.size=l.length:=by
  rw [←h];simp
theorem nx_l1 (rs:List S94) (ls:List (Tm × Tm)) (hls:lawsT rs=some ls) (hn:rs.length≤1000) (s:ByteArray) (hs:s.size≤1000000) (pre r:List UInt8) (u:Tm) (hd:s.data.toList=pre++u.tx++r) (hg:u.good) (hu:u.size≤60) (b:List ByteArray) :
    ∀ (n j:Nat) (acc:List ByteArray),j+n=rs.length→acc.length+n≤1000000→Evt (fun k=>nr_Next.l0 k rs s (putA pre r (rootT (ls.drop j) u) acc) (wrap64 ((pre.length:Int)+1))) b →
      Evt (fun k=>nr_Next.l1 k rs s acc (pre.length:Int) ((pre.length+u.tx.length:Nat):Int) (j:Int)) b
  | 0,j,acc,hj,ha,h=>by
    have hl:=(lawsT_good hls).2
    rw [List.drop_of_length_le (by omega)] at h
    refine Evt.step (fun k=>?_) h
    rw [nr_Next.l1,if_neg (by omega)]
    rfl
  | n+1,j,acc,hj,ha,h=>by
    have hl:=(lawsT_good hls).2
    have hlg:=(lawsT_good hls).1
    have hlt:j < rs.length:=by omega
    have hlt':j < ls.length:=by omega
    have hlaw:=lawT_at (lawsT_at hls j hlt hlt')
    have hgd:=hlg _ (List.getElem_mem hlt')
    have hw:wrap64 ((j:Int)+1)=((j+1:Nat):Int):=(wr (by omega) (by omega)).trans (by omega)
    have hsz:=len_of hd
    rw [List.length_append,List.length_append] at hsz
    have hex:s.extract pre.length (pre.length+u.tx.length)=u.text:=extract_tx (r:=r) (by rw [hd,List.append_assoc,List.drop_left])
    have hM:=refMatch_eval hgd.1 hg (by omega) (by omega)
    have e1:ls.drop j=ls[j] :: ls.drop (j+1):=List.drop_eq_getElem_cons hlt'
    have hstep:∀ k,nr_Next.l1 (k+1) rs s acc (pre.length:Int) ((pre.length+u.tx.length:Nat):Int) (j:Int)=(nr_Match.f ls[j].1.text u.text).bind fun bt264=>(if bt264.2.2.2=true then (if (pre.length:Int)≤(s.size:Int) then ((nr_Apply.f ls[j].2.text bt264.1 bt264.2.1 bt264.2.2.1).bind fun t270=>(if (B8 pre).size+t270.size≤9223372036854775807 then (if 0≤((pre.length+u.tx.length:Nat):Int) then (if (B8 pre++t270).size+(B8 r).size≤9223372036854775807 then ((nr_insert.f k acc ((B8 pre++t270)++B8 r)).bind fun t271=>(nr_Next.l1 k rs s t271 (pre.length:Int) ((pre.length+u.tx.length:Nat):Int) (wrap64 ((j:Int)+1)))) else (none)) else (none)) else (none))) else (none)) else (nr_Next.l1 k rs s acc (pre.length:Int) ((pre.length+u.tx.length:Nat):Int) (wrap64 ((j:Int)+1)))):=fun k=>by
      have ex2:s.extract 0 pre.length=B8 pre:=ext_pre (r:=u.tx++r) (by rw [hd,List.append_assoc])
      have ex3:s.extract (pre.length+u.tx.length) s.size=B8 r:=by
        have:=ext_post (s:=s) (pre:=pre++u.tx) (r:=r) hd
        rwa [List.length_append] at this
      rw [nr_Next.l1,if_pos (by omega),if_pos (by omega),if_pos (by omega),if_pos (by omega),if_pos (by omega),rd94_at rs j hlt,hlaw.1,hlaw.2.1,Int.toNat_natCast,Int.toNat_natCast,hex,ex2,ex3]
    cases hm:matchT ls[j].1 u noSub with
    | none =>
      rw [hm] at hM
      have e2:rootT (ls.drop j) u=rootT (ls.drop (j+1)) u:=by
        rw [e1]
        unfold rootT
        rw [List.filterMap_cons,hm]
        rfl
      rw [e2] at h
      refine Evt.step (fun k=>?_) (nx_l1 rs ls hls hn s hs pre r u hd hg hu b n (j+1) acc (by omega) (by omega) h)
      rw [hstep,hM,Option.bind_some,if_neg (by simp),hw]
    | some σ =>
      rw [hm] at hM
      have e2:rootT (ls.drop j) u=ls[j].2.sub σ :: rootT (ls.drop (j+1)) u:=by
        rw [e1]
        unfold rootT
        rw [List.filterMap_cons,hm]
        rfl
      rw [e2] at h
      have hA:=apply_rule hgd.1 hgd.2.1 ⟨hlaw.2.2.1,hlaw.2.2.2.1,hlaw.2.2.2.2⟩ hgd.2.2.2 hu hm
      have hsub:(ls[j].2.sub σ).size≤720:=rootT_size (ls:=ls) (T:=u) hlg hu (by
        unfold rootT
        rw [List.mem_filterMap]
        exact ⟨ls[j],List.getElem_mem hlt',by rw [hm];rfl⟩)
      have hz:=text_le (t:=ls[j].2.sub σ) (by omega)
      have hz2:=text_size (ls[j].2.sub σ)
      obtain ⟨acc',hacc⟩:∃ a,a=insD (B8 (pre++(ls[j].2.sub σ).tx++r)) acc:=⟨_,rfl⟩
      have hal:acc'.length≤acc.length+1:=by rw [hacc];exact insD_len _ _
      have h':Evt (fun k=>nr_Next.l0 k rs s (putA pre r (rootT (ls.drop (j+1)) u) acc') (wrap64 ((pre.length:Int)+1))) b:=by rw [hacc];exact h
      have hI:=insertE acc (B8 (pre++(ls[j].2.sub σ).tx++r)) (by omega)
      rw [←hacc] at hI
      refine Evt.step (g':=fun k=>(nr_insert.f k acc (B8 (pre++(ls[j].2.sub σ).tx++r))).bind fun t271=>(nr_Next.l1 k rs s t271 (pre.length:Int) ((pre.length+u.tx.length:Nat):Int) (wrap64 ((j:Int)+1)))) (fun k=>?_) ?_
      · rw [hstep,hM,Option.bind_some]
        dsimp only
        rw [if_pos rfl,if_pos (by omega),hA,Option.bind_some,if_pos (by rw [B8_size];omega),if_pos (by omega),if_pos (by rw [ByteArray.size_append,B8_size,B8_size];omega)]
        rw [show B8 pre++(ls[j].2.sub σ).text++B8 r=B8 (pre++(ls[j].2.sub σ).tx++r) from by show B8 pre++B8 _++B8 r=_;rw [B8_app',B8_app']]
      · refine Evt.bind hI ?_
        rw [hw]
        exact nx_l1 rs ls hls hn s hs pre r u hd hg hu b n (j+1) acc' (by omega) (by omega) h'
theorem nx_skip (rs:List S94) (s:ByteArray) (hs:s.size≤1000000) (acc:List ByteArray) (pre r:List UInt8) (c:UInt8) (hc:ltrB (c.toNat:Int)=false) (hd:s.data.toList=pre++c :: r) (b:List ByteArray) (h:Evt (fun k=>nr_Next.l0 k rs s acc ((pre.length+1:Nat):Int)) b):Evt (fun k=>nr_Next.l0 k rs s acc (pre.length:Int)) b:=by
  have h0:s.data.toList.drop pre.length=c :: r:=by rw [hd,List.drop_left]
  obtain ⟨h1,h2,_⟩:=at_cons h0
  have hw:=wrN s (by omega) (i:=pre.length) (by omega)
  refine Evt.step (g':=fun k=>(nr_letter.f k (c.toNat:Int)).bind fun t261=>(if t261=true then ((nr_End.f k s (pre.length:Int)).bind fun t262=>(nr_Next.l1 k rs s acc (pre.length:Int) t262 0)) else (nr_Next.l0 k rs s acc ((pre.length+1:Nat):Int)))) (fun k=>by rw [nr_Next.l0,if_pos (by omega),if_pos (by omega),h2,hw]) ?_
  refine Evt.bind (letterE _) ?_
  rw [hc]
  exact Evt.neg (by simp) h
theorem mark_no (i:Nat):ltrB (((UInt8.ofNat (mark i).toNat).toNat:Nat):Int)=false:=by
  rw [mark_nat]
  unfold mark
  split<;>decide
def NxAt (rs:List S94) (ls:List (Tm × Tm)) (s:ByteArray) (u:Tm):Prop:=∀ (pre r:List UInt8) (acc b:List ByteArray),s.data.toList=pre++u.tx++r→u.good→u.size≤60→(acc.length:Int)+ls.length * u.size≤1000000 →
  Evt (fun k=>nr_Next.l0 k rs s (putA pre r (nexA ls u) acc) ((pre.length+u.tx.length:Nat):Int)) b→Evt (fun k=>nr_Next.l0 k rs s acc (pre.length:Int)) b
theorem nx_head (rs:List S94) (ls:List (Tm × Tm)) (hls:lawsT rs=some ls) (hn:rs.length≤1000) (s:ByteArray) (hs:s.size≤1000000) (pre r:List UInt8) (u:Tm) (acc b:List ByteArray) (hd:s.data.toList=pre++u.tx++r) (hg:u.good) (hu:u.size≤60) (ha:(acc.length:Int)+ls.length≤1000000)
    (h:Evt (fun k=>nr_Next.l0 k rs s (putA pre r (rootT ls u) acc) ((pre.length+1:Nat):Int)) b):Evt (fun k=>nr_Next.l0 k rs s acc (pre.length:Int)) b:=by
  obtain ⟨d,l,e1,e2⟩:=tx_first u hg
  have h0:s.data.toList.drop pre.length=u.tx++r:=by rw [hd,List.append_assoc,List.drop_left]
  have h0':=h0
  rw [e1] at h0'
  obtain ⟨h1,h2,_⟩:=at_cons h0'
  have hw:=wrN s (by omega) (i:=pre.length) (by omega)
  have hl:=(lawsT_good hls).2
  have hlt:ltrB (d.toNat:Int)=true:=by
    rw [e2]
    cases u with
    | var c=>rw [Tm.good] at hg;show ltrB c=true;unfold ltrB;rw [prt_var hg];decide
    | app sy l=>rw [Tm.good] at hg;show ltrB sy=true;unfold ltrB;rw [prt_sym hg.1];exact decide_eq_true (by omega)
  have hE:=rEndE s (by omega) u hg pre.length r h0
  refine Evt.step (g':=fun k=>(nr_letter.f k (d.toNat:Int)).bind fun t261=>(if t261=true then ((nr_End.f k s (pre.length:Int)).bind fun t262=>(nr_Next.l1 k rs s acc (pre.length:Int) t262 0)) else (nr_Next.l0 k rs s acc (wrap64 ((pre.length:Int)+1))))) (fun k=>by rw [nr_Next.l0,if_pos (by omega),if_pos (by omega),h2]) ?_
  refine Evt.bind (letterE _) (Evt.pos hlt (Evt.bind hE ?_))
  rw [←hw] at h
  have:=nx_l1 rs ls hls hn s hs pre r u hd hg hu b rs.length 0 acc (by omega) (by omega) (by rw [List.drop_zero];exact h)
  rw [show ((pre.length:Int)+(u.tx.length:Int))=((pre.length+u.tx.length:Nat):Int) by omega]
  exact this
theorem nx_list (rs:List S94) (ls:List (Tm × Tm)) (hls:lawsT rs=some ls) (s:ByteArray) (hs:s.size≤1000000) (sy:Int) (pre0 r0:List UInt8):∀ (l p:List Tm) (pre:List UInt8) (acc b:List ByteArray),(∀ x,x∈l→NxAt rs ls s x)→p.length+l.length≤2→pre=pre0++ch sy :: txM 0 p→s.data.toList=pre++txM p.length l++41 :: r0→Tm.goods l→Tm.sizes l≤60→(acc.length:Int)+ls.length * Tm.sizes l≤1000000 →
    Evt (fun k=>nr_Next.l0 k rs s (putA pre0 r0 (nexL ls sy p l) acc) ((pre.length+(txM p.length l).length:Nat):Int)) b→Evt (fun k=>nr_Next.l0 k rs s acc (pre.length:Int)) b
  | [],p,pre,acc,b,hx,hp,he,hd,hg,hz,ha,h=>by
    rw [nexL,txM] at h
    exact h
  | u :: l,p,pre,acc,b,hx,hp,he,hd,hg,hz,ha,h=>by
    rw [Tm.goods] at hg
    rw [Tm.sizes] at hz ha
    rw [List.length_cons] at hp
    have sp:=Tm.size_pos u
    have spl:=Tm.sizes_nn l
    rw [Int.mul_add] at ha
    have hlm:0≤(ls.length:Int) * Tm.sizes l:=Int.mul_nonneg (by omega) spl
    have hd1:s.data.toList=pre++UInt8.ofNat (mark p.length).toNat :: (u.tx++(txM (p.length+1) l++41 :: r0)):=by
      rw [hd,txM];simp
    refine nx_skip rs s hs acc pre _ _ (mark_no _) hd1 b ?_
    have hd2:s.data.toList=(pre++[UInt8.ofNat (mark p.length).toNat])++u.tx++(txM (p.length+1) l++41 :: r0):=by
      rw [hd1];simp
    have hpl:(pre++[UInt8.ofNat (mark p.length).toNat]).length=pre.length+1:=by simp
    rw [←hpl]
    refine hx u (by simp) (pre++[UInt8.ofNat (mark p.length).toNat]) (txM (p.length+1) l++41 :: r0) acc b hd2 hg.1 (by omega) (by omega) ?_
    have hpe:pre++[UInt8.ofNat (mark p.length).toNat]=pre0++ch sy :: (txM 0 p++[UInt8.ofNat (mark p.length).toNat]):=by rw [he];simp
    have hpp:=putA_part sy pre0 r0 p l (by omega) (nexA ls u) acc
    rw [←hpe] at hpp
    rw [←hpp]
    have hl2:=putA_len pre0 r0 ((nexA ls u).map (fun v=>.app sy (p++v :: l))) acc
    rw [List.length_map] at hl2
    have hnl:=nexA_len ls u
    have hpe2:pre++[UInt8.ofNat (mark p.length).toNat]++u.tx=pre0++ch sy :: txM 0 (p++[u]):=by
      rw [he,txM_append,Nat.zero_add,txM,txM];simp
    have hpl2:(pre++[UInt8.ofNat (mark p.length).toNat]).length+u.tx.length=(pre++[UInt8.ofNat (mark p.length).toNat]++u.tx).length:=by simp;omega
    have hpp1:(p++[u]).length=p.length+1:=by simp
    rw [hpl2]
    refine nx_list rs ls hls s hs sy pre0 r0 l (p++[u]) (pre++[UInt8.ofNat (mark p.length).toNat]++u.tx) _ b (fun x hx'=>hx x (by simp [hx'])) (by rw [hpp1];omega) hpe2 (by rw [hd2,hpp1];simp) hg.2 (by omega) (by omega) ?_
    rw [←putA_app,hpp1]
    rw [nexL] at h
    have hlen:pre.length+(txM p.length (u :: l)).length=(pre++[UInt8.ofNat (mark p.length).toNat]++u.tx).length+(txM (p.length+1) l).length:=by
      rw [txM];simp;omega
    rw [hlen] at h
    exact h
theorem nx_all (rs:List S94) (ls:List (Tm × Tm)) (hls:lawsT rs=some ls) (hn:rs.length≤1000) (s:ByteArray) (hs:s.size≤1000000):∀ u,NxAt rs ls s u:=by
  refine Tm.ind (fun c pre r acc b hd hg hu ha h=>?_) (fun sy l ih pre r acc b hd hg hu ha h=>?_)
  · rw [Tm.size] at ha
    refine nx_head rs ls hls hn s hs pre r (.var c) acc b hd hg hu (by omega) ?_
    rw [nexA,Tm.tx] at h
    exact h
  · have hl2:=good_len hg
    have hgg:=hg
    rw [Tm.good] at hgg
    have hss:=hu
    rw [Tm.size] at hss ha
    have spl:=Tm.sizes_nn l
    rw [Int.mul_add,Int.mul_one] at ha
    have hlm:0≤(ls.length:Int) * Tm.sizes l:=Int.mul_nonneg (by omega) spl
    refine nx_head rs ls hls hn s hs pre r (.app sy l) acc b hd hg hu (by omega) ?_
    have htx:=tx_app2 sy l hl2
    rw [nexA,putA_app] at h
    by_cases h0:l.length=0
    · obtain rfl:=List.length_eq_zero_iff.1 h0
      rw [htx,if_pos h0,nexL] at h
      exact h
    · rw [if_neg h0] at htx
      have hrl:=rootT_len ls (.app sy l)
      have hpl:=putA_len pre r (rootT ls (.app sy l)) acc
      have hd1:s.data.toList=(pre++ch sy :: txM 0 [])++txM ([]:List Tm).length l++41 :: r:=by
        rw [hd,htx];simp [txM]
      have hle:pre.length+1=(pre++ch sy :: txM 0 []).length:=by simp [txM]
      rw [hle]
      refine nx_list rs ls hls s hs sy pre r l [] (pre++ch sy :: txM 0 []) _ b ih (by simp;exact hl2) rfl hd1 hgg.2.2 (by omega) (by omega) ?_
      have hd2:s.data.toList=(pre++ch sy :: txM 0 l)++41 :: r:=by rw [hd,htx];simp
      have hle2:(pre++ch sy :: txM 0 []).length+(txM ([]:List Tm).length l).length=(pre++ch sy :: txM 0 l).length:=by simp [txM];omega
      rw [hle2]
      refine nx_skip rs s hs _ (pre++ch sy :: txM 0 l) r 41 (by decide) hd2 b ?_
      have hle3:pre.length+(Tm.app sy l).tx.length=(pre++ch sy :: txM 0 l).length+1:=by rw [htx];simp;omega
      rw [hle3] at h
      exact h
def nxS (ls:List (Tm × Tm)) (t:Tm):List ByteArray:=putA [] [] (nexA ls t) []
theorem nextRE (rs:List S94) (ls:List (Tm × Tm)) (hls:lawsT rs=some ls) (hn:rs.length≤1000) (t:Tm) (hg:t.good) (hs:t.size≤60):Evt (fun k=>nr_Next.f k rs t.text) (nxS ls t):=by
  have hl:=(lawsT_good hls).2
  have hz:=text_le (t:=t) (by omega)
  have hzz:(t.text.size:Int)=t.tx.length:=by rw [text_size]
  have hb:ls.length * t.size≤1000 * 60:=Int.mul_le_mul (by omega) hs (by have:=Tm.size_pos t;omega) (by omega)
  refine nx_all rs ls hls hn t.text (by omega) t [] [] [] _ (by rw [text_data];simp) hg hs (by simp only [List.length_nil];omega) (Evt.now fun k=>?_)
  rw [nr_Next.l0,if_neg (by rw [List.length_nil];omega)]
  rfl
theorem mem_nxS {ls:List (Tm × Tm)} {t:Tm} {x:ByteArray}:x∈nxS ls t↔∃ v∈nexA ls t,x=v.text:=by
  unfold nxS
  rw [mem_putA]
  simp only [List.not_mem_nil,or_false,List.nil_append,List.append_nil]
  rfl
theorem nxS_sorted (ls:List (Tm × Tm)) (t:Tm):(nxS ls t).Pairwise ltS:=putA_sorted _ _ _ _ List.Pairwise.nil
end Go.Proofs.YtaafeallcaiooaaGreat.Pr
