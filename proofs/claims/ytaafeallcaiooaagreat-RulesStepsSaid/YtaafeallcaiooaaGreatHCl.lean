/- slices.Clone at terms. -/
import Derived.Test.YtaafeallcaiooaaGreatHTx
namespace Go.Proofs.YtaafeallcaiooaaGreat.Pr
open Go.RowKit Go.Maps Go.Proofs.Zw Go.Proofs.Zl Go.Proofs.Zm
set_option linter.unusedVariables false
set_option linter.unusedSimpArgs false
def sameB (s t:Tm):Bool:=decide (s.tx=t.tx)
theorem text_beq (s t:Tm):(s.text.toList == t.text.toList)=sameB s t:=by
  unfold sameB
  rw [ByteArray.toList_eq,ByteArray.toList_eq]
  unfold Tm.text
  by_cases h:s.tx=t.tx
  · rw [decide_eq_true h,beq_iff_eq,h]
  · rw [decide_eq_false h,beq_eq_false_iff_ne]
    exact fun e=>h (by simpa using e)
theorem same_calls (s t:Tm) (p q:Nat × Value) (w:World) (ok ok2:Nat→Prop) (hp:Has w ok s p) (hq:Has w ok2 t q) (hs:s.good) (ht:t.good) (h1:s.size≤1000000) (h2:t.size≤1000000) :
    Calls Tryz.prog 125 #[encI p,encI q] w fun e w'=>e=.returned (.bool (sameB s t))∧Below w.heap.size w w':=by
  obtain ⟨tid,pv⟩:=p
  obtain ⟨tid2,pv2⟩:=q
  obtain ⟨F,hF⟩:∃ F,F=txF (tid,pv):=⟨_,rfl⟩
  obtain ⟨G,hG⟩:∃ G,G=txF (tid2,pv2):=⟨_,rfl⟩
  have hm1:∀ w,(method 337 tid pv "numnah/rules.text").run Tryz.prog w=.ok (F,pv) w:=hF ▸ meth_text hp
  have hm2:∀ args w,(callFunc F args).run Tryz.prog w=.ok (.enter F args) w:=hF ▸ enters_text hp
  have hm3:∀ w,(method 337 tid2 pv2 "numnah/rules.text").run Tryz.prog w=.ok (G,pv2) w:=hG ▸ meth_text hq
  have hm4:∀ args w,(callFunc G args).run Tryz.prog w=.ok (.enter G args) w:=hG ▸ enters_text hq
  have c1:=text_calls s (tid,pv) w ok hp hs h1
  have c2:∀ w',Below w.heap.size w w'→_:=fun w' hb=>text_calls t (tid2,pv2) w' ok2 (hq.below hb) ht h2
  rw [←hF] at c1
  rw [←hG] at c2
  rw [←text_beq]
  obtain ⟨X,hX⟩:∃ X,X=s.text:=⟨_,rfl⟩
  obtain ⟨Y,hY⟩:∃ Y,Y=t.text:=⟨_,rfl⟩
  rw [←hX] at c1 ⊢
  rw [←hY] at c2 ⊢
  have C1:=Aside0.mk c1
  have C2:=Aside0.mk c2
  clear c1 c2 hp hq hs ht h1 h2 hF hG hX hY
  unfold encI
  go_enter Tryz.func125,Tryz.ntmps125
  go_wp2_with (first
    | (refine C1.out.mono ?_;rintro e w1 ⟨rfl,hb⟩;have B1:=Aside0.mk hb;clear hb)
    | (refine (C2.out _ B1.out).mono ?_;rintro e w2 ⟨rfl,hb⟩;have B2:=Aside0.mk (below_step B1.out hb);clear hb))
  go_ret
  exact ⟨rfl,B2.out⟩
abbrev Sub:=Int→Option Tm
def upd (σ:Sub) (c:Int) (t:Tm):Sub:=fun d=>if d=c then some t else σ d
def SubGood (σ:Sub):Prop:=∀ c u,σ c=some u→u.good∧u.size≤1000000
theorem SubGood.upd {σ:Sub} {c:Int} {t:Tm} (h:SubGood σ) (hg:t.good) (hs:t.size≤1000000):SubGood (upd σ c t):=by
  intro d u hu
  unfold Pr.upd at hu
  split at hu
  · injection hu with hu
    subst hu
    exact ⟨hg,hs⟩
  · exact h d u hu
mutual
def matchT:Tm→Tm→Sub→Option Sub
  | .var c,t,σ=>match σ c with
    | some old=>if sameB old t then some σ else none
    | none=>some (upd σ c t)
  | .app s l,.app s' l',σ=>if s'=s then matchL l l' σ else none
  | .app _ _,.var _,_=>none
def matchL:List Tm→List Tm→Sub→Option Sub
  | [],_,σ=>some σ
  | p :: ps,t :: ts,σ=>(matchT p t σ).bind fun σ'=>matchL ps ts σ'
  | _ :: _,[],_=>none
end
mutual
theorem matchT_good:∀ (p t:Tm) (σ σ':Sub),SubGood σ→t.good→t.size≤1000000→matchT p t σ=some σ'→SubGood σ'
  | .var c,t,σ,σ',h,hg,hs,e=>by
    rw [matchT] at e
    split at e
    · split at e
      · injection e with e
        subst e
        exact h
      · cases e
    · injection e with e
      subst e
      exact h.upd hg hs
  | .app s l,.app s' l',σ,σ',h,hg,hs,e=>by
    rw [matchT] at e
    rw [Tm.good] at hg
    rw [Tm.size] at hs
    split at e
    · exact matchL_good l l' σ σ' h hg.2.2 (by omega) e
    · cases e
  | .app _ _,.var _,_,_,_,_,_,e=>by rw [matchT] at e;cases e
theorem matchL_good:∀ (p t:List Tm) (σ σ':Sub),SubGood σ→Tm.goods t→Tm.sizes t≤1000000→matchL p t σ=some σ'→SubGood σ'
  | [],_,σ,σ',h,_,_,e=>by
    rw [matchL] at e
    injection e with e
    subst e
    exact h
  | p :: ps,t :: ts,σ,σ',h,hg,hs,e=>by
    rw [matchL] at e
    rw [Tm.goods] at hg
    rw [Tm.sizes] at hs
    have h1:=Tm.size_pos t
    have h2:=Tm.sizes_nn ts
    cases hm:matchT p t σ with
    | none=>rw [hm] at e;cases e
    | some σ1 =>
      rw [hm] at e
      exact matchL_good ps ts σ1 σ' (matchT_good p t σ σ1 h hg.1 (by omega) hm) hg.2 (by omega) e
  | _ :: _,[],_,_,_,_,_,e=>by rw [matchL] at e;cases e
end
theorem SubOk.put {w w1:World} {ok:Nat→Prop} {b n:Nat} {σ:Sub} {D:DataW Value} {c:Int} {t:Tm} {p:Nat × Value} (hown:w.ownsMap Tryz.prog 131 rH b n D) (hD:∀ c,0≤c∧c≤255→match σ c with
    | none=>Maps.has D (.int .u8 c)=false
    | some t=>Maps.has D (.int .u8 c)=true∧∃ p,D.atKey (.int .u8 c) (.held .nilIface)=.held (encI p)∧Has w ok t p) (ht:Has w ok t p)
    (h1:w1.ownsMap Tryz.prog 131 rH b (n+1) (D.put (.int .u8 c) (.held (encI p)))) (hg:w.grownBy w1 (some b)) (hb:∀ k,ok k→k≠b):SubOk w1 ok b (n+1) (upd σ c t):=by
  have hst:∀ k,ok k→k < w.heap.size→ok k∧w1.heap[k]?=w.heap[k]?:=fun k hk hl=>⟨hk,hg.block k hl (fun e=>hb k hk (by injection e))⟩
  refine ⟨_,h1,fun d hd=>?_⟩
  unfold upd
  by_cases hdc:d=c
  · subst hdc
    rw [if_pos rfl]
    exact ⟨has_put_same hown.isMap (by trivial) _,p,atKey_put_same hown.isMap (by trivial) _ _,ht.step hst⟩
  · rw [if_neg hdc]
    have hne:(Lit.int .u8 d)≠(Lit.int .u8 c):=fun e=>hdc (by injection e)
    rw [has_put_other hne,atKey_put_other hne]
    have:=hD d hd
    cases hs:σ d with
    | none=>rw [hs] at this;exact this
    | some u =>
      rw [hs] at this
      obtain ⟨a,q,b1,c1⟩:=this
      exact ⟨a,q,b1,c1.step hst⟩
def OutM (w:World) (ok:Nat→Prop) (b n:Nat) (R:Option Sub) (e:Ending) (w':World):Prop :=
  But b w w'∧match R with
  | none=>e=.returned (.bool false)
  | some σ'=>e=.returned (.bool true)∧SubOk w' ok b n σ'
section
attribute [local go_sem] asVV asVC asCC asCV
set_option maxRecDepth 100000 in
theorem match_var (c:Int) (hc:0≤c∧c≤255) (T:Tm) (q:Nat × Value) (w:World) (ok:Nat→Prop) (b n:Nat) (σ:Sub) (hT:Has w ok T q) (hg:T.good) (hs:T.size≤1000000) (hσ:SubOk w ok b n σ) (hG:SubGood σ) (hb:∀ k,ok k→k≠b) (hn:n≤1000000) :
    Calls Tryz.prog 96 #[.iface 131 (.int .u8 c),encI q,.map (some b)] w (OutM w ok b (n+1) (matchT (.var c) T σ)):=by
  have hσ0:=hσ
  obtain ⟨D,hown,hD⟩:=hσ
  have hDc:=hD c hc
  rw [matchT]
  cases hσc:σ c with
  | none =>
    rw [hσc] at hDc
    have HH:=Aside0.mk (And.intro hD hT)
    clear hD hT hσ0
    go_enter Tryz.func96,Tryz.ntmps96
    go_wp2_with (first
      | (at_lookup;refine wpList_lookup_own_ok _ rfl _ _ 128 rfl 131 99 k131 Tryz.underlying128 rH (zero99 _) (.held .nilIface) [] rfl b n D rfl hown _ _ rfl (key131 c hc) ?_;intro v ps hv;rw [hDc];clear hv)
      | (at_mapUpdate;refine wpList_mapUpdate_own _ rfl _ _ _ 128 rfl 131 99 k131 Tryz.underlying128 rH b n D rfl hown (by unfold maxLen;omega) (.int .u8 c) (encI q) (.int .u8 c) rfl rfl (key131 c hc) (.held (encI q)) [] rfl ?_;intro w1 hown1 hgrow1;have H1:=Aside0.mk (And.intro hown1 hgrow1);clear hown1 hgrow1))
    go_ret
    obtain ⟨hown1,hgrow1⟩:=H1.out
    obtain ⟨hD,hT⟩:=HH.out
    exact ⟨⟨hgrow1.os,hgrow1.tape,hgrow1.output,hgrow1.size,fun k hk hkb=>hgrow1.block k hk (fun e=>hkb (by injection e))⟩,rfl,SubOk.put hown hD hT hown1 hgrow1 hb⟩
  | some old =>
    rw [hσc] at hDc
    obtain ⟨hD1,p,hD2,hp⟩:=hDc
    have hgo:=hG c old hσc
    have hc1:=same_calls old T p q w ok ok hp hT hgo.1 hg hgo.2 hs
    have hfin:∀ w',Below w.heap.size w w'→OutM w ok b (n+1) (if sameB old T then some σ else none) (.returned (.bool (sameB old T))) w':=by
      intro w' hb1
      refine ⟨But.of_below hb1,?_⟩
      cases sameB old T with
      | true=>exact ⟨rfl,by
          obtain ⟨D',h1,h2⟩:=hσ0.below hb1
          exact ⟨D',h1.mono (Nat.le_succ _),h2⟩⟩
      | false=>rfl
    show Calls Tryz.prog 96 _ w (OutM w ok b (n+1) (if sameB old T then some σ else none))
    generalize (if sameB old T then some σ else none)=R at *
    have HC:=Aside0.mk hc1
    have HH:=Aside0.mk (And.intro hD (And.intro hT (And.intro hσ0 (And.intro hb hfin))))
    clear hD hT hσ0 hc1 hp hb hfin
    go_enter Tryz.func96,Tryz.ntmps96
    go_wp2_with (first
      | (at_lookup;refine wpList_lookup_own_ok _ rfl _ _ 128 rfl 131 99 k131 Tryz.underlying128 rH (zero99 _) (.held .nilIface) [] rfl b n D rfl hown _ _ rfl (key131 c hc) ?_;intro v ps hv;rw [hD1];obtain rfl:v=encI p:=(by unfold rH at hv;rw [hD2] at hv;injection hv with hv;injection hv with hv1 hv2;injection hv1);clear hv)
      | (go_at_call 125;refine HC.out.mono ?_;rintro e w1 ⟨rfl,hb1⟩;have H1:=Aside0.mk hb1;clear hb1))
    all_goals (go_ret;exact HH.out.2.2.2.2 _ H1.out)
theorem HasL.step' {w w':World} {ok:Nat→Prop} {l:List Tm} {A:Option Addr} (hL:HasL w ok l A 0) (h:∀ k,ok k→k < w.heap.size→w'.heap[k]?=w.heap[k]?) (i:Nat) (hi:i < l.length) :
    ∃ g p,A=some ⟨g,0,none⟩∧w'.cell? ⟨g,i,none⟩=some (encI p)∧Has w' ok l[i] p:=by
  obtain ⟨g,cs,p,h1,h2,h3,h4,h5⟩:=hL.get i hi
  rw [Nat.zero_add] at h4
  have hgl:=(gl_ h3)
  exact ⟨g,p,h1,(blk_cell ((h g h2 hgl).trans h3) i).trans h4,h5.step (fun k hk hl=>⟨hk,h k hk hl⟩)⟩
def MaOk (P:Tm):Prop:=∀ (T:Tm) (p q:Nat × Value) (w:World) (ok okP:Nat→Prop) (b n:Nat) (σ:Sub),Has w okP P p→Has w ok T q→P.good→T.good→T.size≤1000000→SubOk w ok b n σ→SubGood σ→(∀ k,ok k→k≠b)→(∀ k,okP k→k≠b)→(n:Int)+P.size≤1000000 →
  Calls Tryz.prog 96 #[encI p,encI q,.map (some b)] w (OutM w ok b (n+P.size.toNat) (matchT P T σ))
set_option maxHeartbeats 1000000 in
set_option maxRecDepth 100000 in
theorem match_app (s:Int) (l l':List Tm) (ih:∀ x,x∈l→MaOk x) (A A':Option Addr) (cap cap':Nat) (w:World) (ok okP:Nat→Prop) (b n:Nat) (σ:Sub) (hL:HasL w okP l A 0) (hL':HasL w ok l' A' 0) (hg:Tm.goods l) (hg':Tm.goods l') (hll:l.length=l'.length) (hs':Tm.sizes l'≤1000000) (hσ:SubOk w ok b n σ) (hG:SubGood σ) (hb:∀ k,ok k→k≠b) (hbP:∀ k,okP k→k≠b) (hn:(n:Int)+Tm.sizes l≤1000000) (hl2:l.length≤1000) (R:Option Sub) (hR:R=matchL l l' σ) :
    Calls Tryz.prog 96 #[.iface 149 (.agg #[.int .u8 s,.slice A l.length cap]),.iface 149 (.agg #[.int .u8 s,.slice A' l'.length cap']),.map (some b)] w (OutM w ok b (n+(Tm.sizes l).toNat) R):=by
  have hbl:=hσ.lt
  have hB2:Below w.heap.size w ((w.alloc (.cells #[.int .u8 s,.slice A l.length cap] 149)).alloc (.cells #[.int .u8 s,.slice A' l'.length cap'] 149)):=below_alloc (below_alloc (Below.refl _ _) _) _
  have hsz2:((w.alloc (.cells #[.int .u8 s,.slice A l.length cap] 149)).alloc (.cells #[.int .u8 s,.slice A' l'.length cap'] 149)).heap.size=w.heap.size+2:=by simp
  have hcB:((w.alloc (.cells #[.int .u8 s,.slice A l.length cap] 149)).alloc (.cells #[.int .u8 s,.slice A' l'.length cap'] 149)).heap[w.heap.size+1]?=some (.cells #[.int .u8 s,.slice A' l'.length cap'] 149 (0,0)):=by
    have:=blk_new (w.alloc (.cells #[.int .u8 s,.slice A l.length cap] 149)) (.cells #[.int .u8 s,.slice A' l'.length cap'] 149)
    simpa using this
  have HP:=Aside0.mk (And.intro ih (And.intro hL (And.intro hL' (And.intro hg (And.intro hg' (And.intro hs' (And.intro hσ (And.intro hG (And.intro hb (And.intro hbP (And.intro hn (And.intro hl2 (And.intro hR (And.intro hbl (And.intro hB2 (And.intro hsz2 hcB))))))))))))))))
  have HLL:=Aside0.mk hll
  clear ih hL hL' hg hg' hs' hσ hG hb hbP hn hl2 hR hbl hB2 hsz2 hcB hll
  go_enter Tryz.func96,Tryz.ntmps96
  go_wp2
  go_loopw [52] (fun v52 wr=>∃ (i:Nat) (σi:Sub) (ni:Nat),v52=.int .i64 (i:Int)∧Aside0 (i≤l.length)∧Aside0 (R=matchL (l.drop i) (l'.drop i) σi)∧Aside0 (SubOk wr ok b ni σi)∧Aside0 (SubGood σi)∧Aside0 ((ni:Int)+Tm.sizes (l.drop i)≤n+Tm.sizes l)∧Aside0 (But b ((w.alloc (.cells #[.int .u8 s,.slice A l.length cap] 149)).alloc (.cells #[.int .u8 s,.slice A' l'.length cap'] 149)) wr)) (fun v52 _=>l.length - (intOf v52).toNat)
  case atStart =>
    obtain ⟨ih,hL,hL',hg,hg',hs',hσ,hG,hb,hbP,hn,hl2,hR,hbl,hB2,hsz2,hcB⟩:=HP.out
    exact ⟨0,σ,n,rfl,⟨Nat.zero_le _⟩,⟨by rw [List.drop_zero,List.drop_zero];exact hR⟩,⟨hσ.below hB2⟩,⟨hG⟩,⟨by rw [List.drop_zero];omega⟩,⟨But.refl _ _⟩⟩
  case round =>
    obtain ⟨i,σi,ni,rfl,HI,HR,HS,HG,HN,HB⟩:=hrel
    obtain ⟨ih,hL,hL',hg,hg',hs',hσ,hG,hb,hbP,hn,hl2,hR,hbl,hB2,hsz2,hcB⟩:=HP.out
    have hfr:∀ k,k≠b→k < w.heap.size→wr.heap[k]?=w.heap[k]?:=fun k hk hl=>(HB.out.block k (by omega) hk).trans (hB2.block k hl)
    by_cases hlt:i < l.length
    · have hlb:decide ((i:Int) < (l.length:Int))=true:=decide_eq_true (by omega)
      have hlt':i < l'.length:=by have:=HLL.out;omega
      obtain ⟨g,⟨t1,v1⟩,rfl,hc1,hq1⟩:=hL.step' (fun k hk hl=>hfr k (hbP k hk) hl) i hlt
      obtain ⟨g',⟨t2,v2⟩,rfl,hc2,hq2⟩:=hL'.step' (fun k hk hl=>hfr k (hb k hk) hl) i hlt'
      have hcB2:=(HB.out.block (w.heap.size+1) (by omega) (by omega)).trans hcB
      have hcF:wr.cell? ⟨w.heap.size+1,1,none⟩=some (.slice (some ⟨g',0,none⟩) l'.length cap'):=blk_cell hcB2 1
      have hd1:l.drop i=l[i] :: l.drop (i+1):=List.drop_eq_getElem_cons hlt
      have hd2:l'.drop i=l'[i] :: l'.drop (i+1):=List.drop_eq_getElem_cons hlt'
      have hm1:l[i]∈l:=List.getElem_mem hlt
      have hm2:l'[i]∈l':=List.getElem_mem hlt'
      have hsl:l'[i].size≤1000000:=by have:=sizes_mem l' _ hm2;omega
      have hcall:=ih l[i] hm1 l'[i] (t1,v1) (t2,v2) wr ok okP b ni σi hq1 hq2 (goods_mem hg hm1) (goods_mem hg' hm2) hsl HS.out HG.out hb hbP (by have:=HN.out;rw [hd1,Tm.sizes] at this;have:=Tm.sizes_nn (l.drop (i+1));omega)
      have hR2:=HR.out
      rw [hd1,hd2,matchL] at hR2
      have hN2:=HN.out
      rw [hd1,Tm.sizes] at hN2
      have hsp:=Tm.size_pos l[i]
      have hgs:=matchT_good l[i] l'[i] σi
      have hg2:=goods_mem hg' hm2
      have w1i:wrap64 ((i:Int)+1)=(i:Int)+1:=wrp i (by omega)
      generalize l[i]=x at *
      generalize l'[i]=y at *
      cases hm:matchT x y σi with
      | none =>
        rw [hm] at hcall hR2
        have HC:=Aside0.mk hcall
        have HH:=Aside0.mk (And.intro hR2 (And.intro hbl hB2))
        clear hcall hR2 hB2 hbl ih hL hL' hg hg' hs' hσ hG hb hbP hn hl2 hR hsz2 hcB hcB2 hfr hd1 hd2 hm1 hm2 hsl hN2 hsp hgs hg2 hq1 hq2
        unfold encI at hc1 hc2 HC
        go_wp2_with (go_at_call 96;refine HC.out.mono ?_;rintro e w1 ⟨hb1,rfl⟩;have H1:=Aside0.mk hb1;clear hb1)
        obtain ⟨hR2,hbl,hB2⟩:=HH.out
        rw [hR2]
        go_ret
        exact ⟨((But.of_below hB2).trans HB.out).trans H1.out,rfl⟩
      | some σ1 =>
        rw [hm] at hcall hR2
        have HC:=Aside0.mk hcall
        have HH:=Aside0.mk (And.intro hR2 (And.intro hN2 (And.intro hsp (And.intro hlt (hgs σ1 HG.out hg2 hsl hm)))))
        clear hcall hR2 hB2 hbl ih hL hL' hg hg' hs' hσ hG hb hbP hn hl2 hR hsz2 hcB hcB2 hfr hd1 hd2 hm1 hm2 hsl hN2 hsp hgs hg2 hq1 hq2
        unfold encI at hc1 hc2 HC
        go_wp2_with (go_at_call 96;refine HC.out.mono ?_;rintro e w1 ⟨hb1,rfl,hs1⟩;have H1:=Aside0.mk (And.intro hb1 hs1);clear hb1 hs1)
        obtain ⟨hR2,hN2,hsp,hlt2,hgs⟩:=HH.out
        rw [w1i]
        refine ⟨⟨i+1,σ1,ni+x.size.toNat,by simp,⟨by omega⟩,⟨hR2⟩,⟨H1.out.2⟩,⟨hgs⟩,⟨by omega⟩,⟨HB.out.trans H1.out.1⟩⟩,?_⟩
        simp only [intOf]
        omega
    · have hlb:decide ((i:Int) < (l.length:Int))=false:=decide_eq_false (by omega)
      have e1:l.drop i=[]:=List.drop_of_length_le (by omega)
      have hfin:OutM w ok b (n+(Tm.sizes l).toNat) R (.returned (.bool true)) wr:=by
        have hR2:=HR.out
        rw [e1,matchL] at hR2
        rw [hR2]
        have hN2:=HN.out
        rw [e1,Tm.sizes] at hN2
        obtain ⟨D,h1,h2⟩:=HS.out
        exact ⟨(But.of_below hB2).trans HB.out,rfl,D,h1.mono (by omega),h2⟩
      have HF:=Aside0.mk hfin
      clear hfin hB2 hbl ih hL hL' hg hg' hs' hσ hG hb hbP hn hl2 hR hsz2 hcB hfr e1
      go_wp2
      go_ret
      exact HF.out
theorem match_no1 (s:Int) (A:Option Addr) (k cap:Nat) (c:Int) (w:World) (ok:Nat→Prop) (b n:Nat) :
    Calls Tryz.prog 96 #[.iface 149 (.agg #[.int .u8 s,.slice A k cap]),.iface 131 (.int .u8 c),.map (some b)] w (OutM w ok b n none):=by
  have hB:∀ w',Below w.heap.size w w'→OutM w ok b n none (.returned (.bool false)) w':=fun w' h=>⟨But.of_below h,rfl⟩
  go_enter Tryz.func96,Tryz.ntmps96
  go_wp2
  go_ret
  exact hB _ (below_alloc (below_alloc (Below.refl _ _) _) _)
theorem match_no2 (s s':Int) (hs:s'≠s) (A A':Option Addr) (k cap k' cap':Nat) (w:World) (ok:Nat→Prop) (b n:Nat) :
    Calls Tryz.prog 96 #[.iface 149 (.agg #[.int .u8 s,.slice A k cap]),.iface 149 (.agg #[.int .u8 s',.slice A' k' cap']),.map (some b)] w (OutM w ok b n none):=by
  have hB:∀ w',Below w.heap.size w w'→OutM w ok b n none (.returned (.bool false)) w':=fun w' h=>⟨But.of_below h,rfl⟩
  have hne:(s' == s)=false:=beq_eq_false_iff_ne.2 hs
  go_enter Tryz.func96,Tryz.ntmps96
  go_wp2
  go_ret
  exact hB _ (below_alloc (below_alloc (Below.refl _ _) _) _)
end
theorem match_calls:∀ P,MaOk P:=by
  refine Tm.ind (fun c T p q w ok okP b n σ h hT hg hg' hs hσ hG hb hbP hn=>?_) (fun s l ih T p q w ok okP b n σ h hT hg hg' hs hσ hG hb hbP hn=>?_)
  · rw [Has.var_] at h
    subst h
    rw [Tm.good] at hg
    rw [Tm.size] at hn
    exact match_var c (by omega) T q w ok b n σ hT hg' hs hσ hG hb (by omega)
  · rw [Has.app_] at h
    obtain ⟨A,cap,rfl,hc,hL⟩:=h
    have hl2:=good_len hg
    rw [Tm.size] at hn
    have h1:(n+(Tm.sizes l).toNat)≤n+(Tm.size (.app s l)).toNat:=by rw [Tm.size];have:=Tm.sizes_nn l;omega
    have hm:∀ (R:Option Sub) e w',OutM w ok b (n+(Tm.sizes l).toNat) R e w'→OutM w ok b (n+(Tm.size (.app s l)).toNat) R e w':=by
      rintro R e w' ⟨h2,h3⟩
      refine ⟨h2,?_⟩
      cases R with
      | none=>exact h3
      | some σ' =>
        obtain ⟨h4,D,h5,h6⟩:=h3
        exact ⟨h4,D,h5.mono h1,h6⟩
    cases T with
    | var c =>
      rw [Has.var_] at hT
      subst hT
      rw [matchT]
      exact match_no1 s A l.length cap c w ok b _
    | app s' l' =>
      rw [Has.app_] at hT
      obtain ⟨A',cap',rfl,hc',hL'⟩:=hT
      rw [matchT]
      by_cases hss:s'=s
      · subst hss
        rw [if_pos rfl]
        have e1:l.length=l'.length:=by
          rw [Tm.good] at hg hg'
          omega
        rw [Tm.good] at hg hg'
        rw [Tm.size] at hs
        exact (match_app s' l l' ih A A' cap cap' w ok okP b n σ hL hL' hg.2.2 hg'.2.2 e1 (by omega) hσ hG hb hbP (by omega) (by omega) _ rfl).mono (fun e w' hh=>hm _ e w' hh)
      · rw [if_neg hss]
        exact match_no2 s s' hss A A' l.length cap l'.length cap' w ok b _
def HasW (w:World) (ok:Nat→Prop) (ls:List (Tm × Tm)) (A:Option Addr):Prop :=
  ∀ j (h:j < ls.length),∃ g cs p q,A=some ⟨g,0,none⟩∧ok g∧w.heap[g]?=some (.cells cs 144 (0,0))∧cs[j * 2]?=some (encI p)∧cs[j * 2+1]?=some (encI q)∧Has w ok ls[j].1 p∧Has w ok ls[j].2 q
theorem HasW.step {w w':World} {ok ok':Nat→Prop} {ls:List (Tm × Tm)} {A:Option Addr} (hh:HasW w ok ls A) (h:∀ k,ok k→k < w.heap.size→ok' k∧w'.heap[k]?=w.heap[k]?):HasW w' ok' ls A:=by
  intro j hj
  obtain ⟨g,cs,p,q,h1,h2,h3,h4,h5,h6,h7⟩:=hh j hj
  have hg:=h g h2 (gl_ h3)
  exact ⟨g,cs,p,q,h1,hg.1,hg.2.trans h3,h4,h5,h6.step h,h7.step h⟩
theorem HasW.below {w w':World} {ok:Nat→Prop} {ls:List (Tm × Tm)} {A:Option Addr} (hh:HasW w ok ls A) (h:Below w.heap.size w w'):HasW w' ok ls A:=hh.step (fun k hk hl=>⟨hk,h.block k hl⟩)
def LawsGood (ls:List (Tm × Tm)):Prop:=∀ l,l∈ls→l.1.good∧l.2.good∧l.1.size≤12∧l.2.size≤12
def noSub:Sub:=fun _=>none
theorem noSub_good:SubGood noSub:=fun c u h=>by cases h
def rootT (ls:List (Tm × Tm)) (T:Tm):List Tm:=ls.filterMap fun l=>(matchT l.1 T noSub).map fun σ=>l.2.sub σ
theorem subOk_new (w:World) (ok:Nat→Prop):SubOk (w.alloc (.map #[] 0)) ok w.heap.size 0 noSub :=
  ⟨.map [],World.ownsMap_made w Tryz.prog 131 rH,fun c hc=>rfl⟩
def Row (w:World) (base:Nat) (ok:Nat→Prop) (v:Value) (ts:List Tm):Prop :=
  ∃ vs,Kd.R kI 99 w base (fun _=>True) v vs∧ts.length=vs.length∧∀ j (h1:j < ts.length) (h2:j < vs.length),Has w (fun k=>ok k∧some k≠v.ownBlock) ts[j] vs[j]
theorem Row.nil (w:World) (base:Nat) (ok:Nat→Prop):Row w base ok (.slice none 0 0) []:=⟨[],Kd.R_nil _ _ _ _ _,rfl,fun j h=>absurd h (by simp)⟩
theorem Row.below {w w':World} {base:Nat} {ok:Nat→Prop} {v:Value} {ts:List Tm} (h:Row w base ok v ts) (hb:Below w.heap.size w w'):Row w' base ok v ts:=by
  obtain ⟨vs,h1,h2,h3⟩:=h
  exact ⟨vs,Kd.R_below h1 hb,h2,fun j a b=>(h3 j a b).below hb⟩
theorem Row.own {w:World} {base:Nat} {ok:Nat→Prop} {v:Value} {ts:List Tm} (h:Row w base ok v ts) (k:Nat) (hk:v.ownBlock=some k):base≤k∧k < w.heap.size:=by
  obtain ⟨vs,h1,h2,h3⟩:=h
  exact ⟨Kd.R_base h1 k hk,Kd.R_lt h1 k hk⟩
theorem Row.read {w:World} {base:Nat} {ok:Nat→Prop} {v:Value} {ts:List Tm} (h:Row w base ok v ts) (hok:∀ k,base≤k→ok k):∃ A cap,v=.slice A ts.length cap∧ts.length≤cap∧HasL w ok ts A 0:=by
  obtain ⟨vs,h1,h2,h3⟩:=h
  exact hasL_of_R h1 h2 (fun j a b=>(h3 j a b).mono (fun k hk=>hk.1)) (fun k hk=>hok k (Kd.R_base h1 k hk))
theorem Row.snoc {w3 w6:World} {base:Nat} {ok:Nat→Prop} {v v6:Value} {acc:List Tm} {vs:List (Nat × Value)} {t:Tm} {p:Nat × Value} (hl:acc.length=vs.length) (hT:∀ j (h1:j < acc.length) (h2:j < vs.length),Has w3 (fun k=>ok k∧some k≠v.ownBlock) acc[j] vs[j]) (hp:Has w3 (fun k=>ok k∧some k≠v.ownBlock) t p)
    (ho:Kd.R kI 99 w6 base (fun _=>True) v6 (vs++[p])) (hg:w3.grownBy w6 v.ownBlock) (hat:v6.ownBlock=v.ownBlock∨∃ b,v6.ownBlock=some b∧w3.heap.size≤b):Row w6 base ok v6 (acc++[t]):=by
  have hst:∀ {t':Tm} {p':Nat × Value},Has w3 (fun k=>ok k∧some k≠v.ownBlock) t' p'→Has w6 (fun k=>ok k∧some k≠v6.ownBlock) t' p':=by
    intro t' p' hh
    refine Has.step (fun k hk hl=>⟨⟨hk.1,?_⟩,hg.block k hl hk.2⟩) hh
    intro e
    rcases hat with h6|⟨b,h6,h7⟩
    · exact hk.2 (e.trans h6)
    · rw [h6] at e
      injection e with e
      omega
  refine ⟨vs++[p],ho,by simp [hl],fun j h1 h2=>?_⟩
  by_cases hj:j < acc.length
  · have hj2:j < vs.length:=by omega
    rw [List.getElem_append_left hj,List.getElem_append_left hj2]
    exact hst (hT j hj hj2)
  · have hj1:j=acc.length:=by rw [List.length_append] at h1;simp at h1;omega
    have hj2:j=vs.length:=by omega
    rw [List.getElem_append_right (by omega),List.getElem_append_right (by omega)]
    simp only [hj1,Nat.sub_self,show acc.length - vs.length=0 by omega,List.getElem_cons_zero]
    exact hst hp
theorem rootT_snoc (ls:List (Tm × Tm)) (T:Tm) (i:Nat) (h:i < ls.length):rootT (ls.take (i+1)) T=rootT (ls.take i) T++(match matchT ls[i].1 T noSub with|none=>[]|some σ=>[ls[i].2.sub σ]):=by
  unfold rootT
  rw [List.take_succ_eq_append_getElem h,List.filterMap_append]
  congr 1
  rw [List.filterMap_cons]
  cases matchT ls[i].1 T noSub<;>rfl
set_option maxHeartbeats 1000000 in
set_option maxRecDepth 100000 in
theorem root_calls (ls:List (Tm × Tm)) (A:Option Addr) (cap:Nat) (T:Tm) (q:Nat × Value) (w:World) (ok okL:Nat→Prop) (hL:HasW w okL ls A) (hT:Has w ok T q) (hg:T.good) (hs:T.size≤1000000) (hls:LawsGood ls) (hln:ls.length≤1000) (hok:∀ k,w.heap.size≤k→ok k) :
    Calls Tryz.prog 123 #[.slice A ls.length cap,encI q] w fun e w'=>∃ v,e=.returned v∧Row w' w.heap.size ok v (rootT ls T)∧Below w.heap.size w w':=by
  have HP:=Aside0.mk (And.intro hL (And.intro hT (And.intro hg (And.intro hs (And.intro hls (And.intro hln hok))))))
  clear hL hT hg hs hls hln hok
  have hmm:=@run_makeMap Tryz.prog
  go_enter Tryz.func123,Tryz.ntmps123
  go_wp2
  go_loopw [5,11] (fun v5 v11 wr=>∃ (i:Nat) (acc:List Tm) (vs:List (Nat × Value)),v11=.int .i64 (i:Int)∧Aside0 (i≤ls.length∧ls.length≤1000)∧Aside0 (acc=rootT (ls.take i) T∧acc.length≤i)∧Aside0 (Kd.R kI 99 wr w.heap.size (fun _=>True) v5 vs)∧Aside0 (acc.length=vs.length∧∀ j (h1:j < acc.length) (h2:j < vs.length),Has wr (fun k=>ok k∧some k≠v5.ownBlock) acc[j] vs[j])∧Aside0 (Below w.heap.size w wr)) (fun _ v11 _=>ls.length - (intOf v11).toNat)
  case atStart =>
    obtain ⟨hL,hT,hg,hs,hls,hln,hok⟩:=HP.out
    exact ⟨0,[],[],rfl,⟨Nat.zero_le _,hln⟩,⟨by simp [rootT],Nat.le_refl _⟩,⟨Kd.R_nil _ _ _ _ _⟩,⟨rfl,fun j h=>absurd h (by simp)⟩,⟨Below.refl _ _⟩⟩
  case round =>
    obtain ⟨i,acc,vs,rfl,HI,HA,HO,HT,HB⟩:=hrel
    by_cases hlt:i < ls.length
    · have hlb:decide ((i:Int) < (ls.length:Int))=true:=decide_eq_true (by omega)
      obtain ⟨hL,hT,hg,hs,hls,hln,hok⟩:=HP.out
      obtain ⟨g,cs,⟨t1,p1⟩,⟨t2,p2⟩,rfl,hg1,hg2,hc1,hc2,hl1,hl2⟩:=(hL.below HB.out) i hlt
      have hcell1:wr.cell? ⟨g,i * 2,none⟩=some (.iface t1 p1):=(blk_cell hg2 (i * 2)).trans hc1
      have hcell2:wr.cell? ⟨g,i * 2+1,none⟩=some (.iface t2 p2):=(blk_cell hg2 (i * 2+1)).trans hc2
      have hlm:ls[i]∈ls:=List.getElem_mem hlt
      obtain ⟨hg3,hg4,hs3,hs4⟩:=hls _ hlm
      have hsn:=rootT_snoc ls T i hlt
      have hBW:Below wr.heap.size wr ((wr.alloc (.cells #[.iface t1 p1,.iface t2 p2] 144)).alloc (.map #[] 0)):=below_alloc (below_alloc (Below.refl _ _) _) _
      have hbw:w.heap.size≤wr.heap.size:=HB.out.size
      have hTm:Has ((wr.alloc (.cells #[.iface t1 p1,.iface t2 p2] 144)).alloc (.map #[] 0)) (fun k=>ok k∧k < w.heap.size) T q:=(hT.bound.below HB.out).below hBW
      have hLb:HasW wr (fun k=>okL k∧k < w.heap.size) ls (some ⟨g,0,none⟩):=(hL.step (ok':=fun k=>okL k∧k < w.heap.size) (fun k hk hl=>⟨⟨hk,hl⟩,rfl⟩)).below HB.out
      obtain ⟨g',cs',⟨t1',p1'⟩,⟨t2',p2'⟩,eg,_,hg2',hc1',hc2',hl1',hl2'⟩:=hLb i hlt
      obtain rfl:g=g':=by injection eg with eg;injection eg
      obtain rfl:cs=cs':=by have:=hg2.symm.trans hg2';injection this with this;injection this
      have e1:=hc1.symm.trans hc1'
      have e2:=hc2.symm.trans hc2'
      unfold encI at e1 e2
      injection e1 with e1
      injection e1 with e1 e1b
      injection e2 with e2
      injection e2 with e2 e2b
      dsimp only at e1 e1b e2 e2b
      subst e1 e1b e2 e2b
      have hsub0:SubOk ((wr.alloc (.cells #[.iface t1 p1,.iface t2 p2] 144)).alloc (.map #[] 0)) (fun k=>ok k∧k < w.heap.size) (wr.heap.size+1) 0 noSub:=by
        have:=subOk_new (wr.alloc (.cells #[.iface t1 p1,.iface t2 p2] 144)) (fun k=>ok k∧k < w.heap.size)
        simpa using this
      have hcm:=match_calls ls[i].1 T (t1,p1) q ((wr.alloc (.cells #[.iface t1 p1,.iface t2 p2] 144)).alloc (.map #[] 0)) (fun k=>ok k∧k < w.heap.size) (fun k=>okL k∧k < w.heap.size) (wr.heap.size+1) 0 noSub (hl1'.below hBW) hTm hg3 hg hs hsub0 noSub_good (fun k hk=>by omega) (fun k hk=>by omega) (by omega)
      have hO1:=fun (w2:World) (hb2:But (wr.heap.size+1) ((wr.alloc (.cells #[.iface t1 p1,.iface t2 p2] 144)).alloc (.map #[] 0)) w2)=>hBW.trans (hb2.below (B:=wr.heap.size) (by omega) (by simp;omega))
      have w1i:wrap64 ((i:Int)+1)=(i:Int)+1:=wrp i (by omega)
      cases hR:matchT ls[i].1 T noSub with
      | none =>
        rw [hR] at hcm hsn
        have HC:=Aside0.mk hcm
        have HH:=Aside0.mk (And.intro hsn (And.intro hO1 hbw))
        clear hcm hsn hO1 hbw hL hT hg hs hls hln hok hg1 hg2 hc1 hc2 hl1 hl2 hlm hg3 hg4 hs3 hs4 hBW hTm hLb eg hg2' hc1' hc2' hl1' hl2' hsub0 hR
        go_wp2_with (go_at_call 96;refine HC.out.mono ?_;rintro e w2 ⟨hb2,rfl⟩;have H1:=Aside0.mk hb2;clear hb2)
        obtain ⟨hsn,hO1,hbw⟩:=HH.out
        have hb3:=hO1 _ H1.out
        rw [w1i]
        refine ⟨⟨i+1,acc,vs,by simp,⟨by omega,HI.out.2⟩,⟨by rw [hsn,HA.out.1,List.append_nil],by have:=HA.out.2;omega⟩,⟨Kd.R_below HO.out hb3⟩,⟨HT.out.1,fun j h1 h2=>(HT.out.2 j h1 h2).below hb3⟩,⟨below_step HB.out hb3⟩⟩,?_⟩
        simp only [intOf]
        omega
      | some σ =>
        rw [hR] at hcm hsn
        have hcw:=fun (w2:World) (hb2:But (wr.heap.size+1) ((wr.alloc (.cells #[.iface t1 p1,.iface t2 p2] 144)).alloc (.map #[] 0)) w2) (hs2:SubOk w2 (fun k=>ok k∧k < w.heap.size) (wr.heap.size+1) (0+ls[i].1.size.toNat) σ) =>
          with_calls ls[i].2 (t2,p2) w2 (fun k=>ok k∧some k≠u5.ownBlock) _ _ _ σ (hl2'.below (hO1 w2 hb2)) (hs2.mono (ok':=fun k=>ok k∧some k≠u5.ownBlock) (fun k hk=>⟨hk.1,fun e=>by have:=Kd.R_base HO.out k e.symm;omega⟩)) (fun k hk=>⟨hok k (by have:=(hO1 w2 hb2).size;omega),fun e=>by have:=Kd.R_lt HO.out k e.symm;have:=(hO1 w2 hb2).size;omega⟩) hg4
        obtain ⟨F,hF⟩:∃ F,F=wiF (t2,p2):=⟨_,rfl⟩
        have hm1:∀ w,(method 337 t2 p2 "numnah/rules.with").run Tryz.prog w=.ok (F,p2) w:=hF ▸ meth_with hl2'
        have hm2:∀ args w,(callFunc F args).run Tryz.prog w=.ok (.enter F args) w:=hF ▸ enters_with hl2'
        rw [←hF] at hcw
        have HC:=Aside0.mk hcm
        have HC2:=Aside0.mk hcw
        have HH:=Aside0.mk (And.intro hsn (And.intro hO1 hbw))
        clear hcm hsn hO1 hbw hL hT hg hs hls hln hok hg1 hg2 hc1 hc2 hl1 hl2 hlm hg3 hg4 hs3 hs4 hBW hTm hLb eg hg2' hc1' hc2' hl1' hl2' hsub0 hR hcw hF
        generalize ls[i].2=y at *
        go_wp2_with (first
          | (go_at_call 96;refine HC.out.mono ?_;rintro e w2 ⟨hb2,rfl,hs2⟩;have H1:=Aside0.mk (And.intro hb2 hs2);clear hb2 hs2;have hbl:=((H1.out.1.block wr.heap.size (by simp;omega) (by omega)).trans (blk_alloc (blk_new wr _) _));have hx0:=blk_cell hbl 0;have hx1:=blk_cell hbl 1;clear hbl)
          | (refine (HC2.out _ H1.out.1 H1.out.2).mono ?_;rintro e w3 ⟨⟨t3,p3⟩,he3,hp3,hb3⟩;obtain rfl:e=.returned (.iface t3 p3):=he3;have H3:=Aside0.mk (And.intro hp3 (below_step (HH.out.2.1 _ H1.out.1) hb3));clear hp3 hb3)
          | ((with_reducible refine gate_builtin (b:=.append) (xs:=#[.tmp 21,.tmp 26]) rfl ?_);at_builtin;refine Kd.R_append kI (w0:=w) w.heap.size rfl (.tmp 21) (.tmp 26) 111 99 .nilIface 16 rfl Tryz.underlying111 info99 rfl (by decide) (by omega) u5 vs (t3,p3) [.iface t3 p3] (fun _=>True) (fun _=>False) rfl rfl ?aP (fun _ hk=>hk.elim) ?aF ?aO ?aB ?aS ?aL ?_;(case aP=>exact rfl);(case aB=>exact below_then HB.out HB.out.size H3.out.2);(case aF=>exact (fun _ _=>trivial));(case aO=>exact Kd.R_below HO.out H3.out.2);(case aS=>exact Nat.le_trans HB.out.size H3.out.2.size);(case aL=>have:=HI.out;have:=HA.out;have:=HT.out.1;omega);intro v6 w6 ho hb hg hat;have H6:=Aside0.mk (And.intro ho (And.intro hb (And.intro hg hat)));clear ho hb hg hat))
        obtain ⟨hsn,hO1,hbw⟩:=HH.out
        obtain ⟨ho6,hb6,hg6,hat6⟩:=H6.out
        obtain ⟨hp3,hb3⟩:=H3.out
        obtain ⟨vs',ho',hl',hT'⟩:=Row.snoc (ok:=ok) HT.out.1 (fun j h1 h2=>(HT.out.2 j h1 h2).below hb3) hp3 ho6 hg6 hat6
        rw [w1i]
        refine ⟨⟨i+1,acc++[y.sub σ],vs',by simp,⟨by omega,HI.out.2⟩,⟨by rw [hsn,HA.out.1],by have:=HA.out.2;simp;omega⟩,⟨ho'⟩,⟨hl',hT'⟩,⟨hb6⟩⟩,?_⟩
        simp only [intOf]
        omega
    · have hlb:decide ((i:Int) < (ls.length:Int))=false:=decide_eq_false (by omega)
      go_wp2
      have ea:acc=rootT ls T:=by rw [HA.out.1,List.take_of_length_le (by omega)]
      subst ea
      go_ret
      exact ⟨_,rfl,⟨vs,HO.out,HT.out.1,HT.out.2⟩,HB.out⟩
end Go.Proofs.YtaafeallcaiooaaGreat.Pr
namespace Go.Proofs
open Go.Shelf
def Tryz.laysSlE041_f126_ren:Go.Shelf.Ren:=⟨fun|41=>126|n=>n,fun|22=>111|23=>99|4=>4|n=>n,fun|n=>n⟩
theorem Tryz.laysSlE041_f126:Go.Proofs.SlLaysE0.n41 Tryz.prog Tryz.laysSlE041_f126_ren:={
  mixed:=by kernel_rfl
  f41:=⟨Tryz.f126.name,by decide,Tryz.func126.trans (congrArg some (by kernel_rfl))⟩
  t4:=Tryz.underlying4
  a4:=Tryz.isAgg4
  z4:=Tryz.sizeOf4
  v4:=Tryz.zeroValue4
  t22:=Tryz.underlying111
  a22:=Tryz.isAgg111
  z22:=Tryz.sizeOf111
  v22:=Tryz.zeroValue111 }
end Go.Proofs
namespace Go.Proofs.YtaafeallcaiooaaGreat.Pr
open Go.RowKit Go.Maps Go.Proofs.Zw Go.Proofs.Zl Go.Proofs.Zm
set_option linter.unusedVariables false
set_option linter.unusedSimpArgs false
theorem kI_cells {w:World} {base:Nat} {okr:Nat→Prop} {v:Value} {vs:List (Nat × Value)} (h:Kd.R kI 99 w base okr v vs) (hz:0 < vs.length) :
    ∃ g cap cells,v=.slice (some ⟨g,0,none⟩) vs.length cap∧vs.length≤cap∧base≤g∧w.heap[g]?=some (.cells cells 99 (0,0))∧∀ j (hj:j < vs.length),cells[j]?=some (encI vs[j]):=by
  obtain ⟨g,cap,rfl,hb,hlt,cells,hc⟩:=Kd.R_form h hz
  obtain ⟨e1,e2,hC⟩:=Kd.R_reads' h
  refine ⟨g,cap,cells,rfl,by omega,hb,hc,fun j hj=>?_⟩
  obtain ⟨ad,c,ea,_,hK,hget⟩:=Kd.C_get hC (0,.nilIface) (j:Int) (by omega) (by omega)
  have ea2:ad=⟨g,0,none⟩:=by injection ea with ea;exact ea.symm
  subst ea2
  have hK2:c=[encI (vs.getD ((j:Int)).toNat (0,.nilIface))]:=hK
  rw [Int.toNat_natCast,List.getD_eq_getElem?_getD,List.getElem?_eq_getElem hj] at hK2
  have:=hget 0 (encI vs[j]) (by rw [hK2];rfl)
  have h4:w.cell? ⟨g,j,none⟩=cells[j]?:=blk_cell hc j
  rw [←h4]
  simp [Addr.add,kI,Kd.scalar] at this
  by_cases hj0:j=0
  · subst hj0
    simpa using this
  · simpa [hj0] using this
theorem sizeOf99 (w:World):(Go.sizeOf 99).run Tryz.prog w=.ok 1 w:=by kernel_rfl
theorem clone_calls (ps:List (Nat × Value)) (g c:Nat) (cs:Array Value) (w:World) (hg:w.heap[g]?=some (.cells cs 99 (0,0))) (hcs:∀ j (h:j < ps.length),cs[j]?=some (encI ps[j])) (hn:ps.length≤1000) :
    Calls Tryz.prog 126 #[.slice (some ⟨g,0,none⟩) ps.length c] w fun e w'=>∃ v',e=.returned v'∧Kd.R kI 99 w' w.heap.size (fun _=>True) v' ps∧Below w.heap.size w w':=by
  obtain ⟨i0,hi,hz0,hz1,hz2⟩:=info_parts info99
  refine (AnyE.slices_Clone Tryz.laysSlE041_f126 i0 .nilIface 1 16 hi hz0 hz1 hz2 rfl (by omega) sizeOf99 g 0 ps.length c (encs encI ps) w (by simp [encs]) (by unfold maxLen;omega) (by omega) (fun j u hu=>?_) (fun u hu=>?_)).mono (fun e w' hh=>?_)
  · have hj:j < ps.length:=by
      have:=(List.getElem?_eq_some_iff.1 hu).1
      simpa [encs] using this
    have e1:u=encI ps[j]:=by
      have:=(List.getElem?_eq_some_iff.1 hu).2
      rw [←this]
      simp [encs]
    rw [Nat.zero_add,e1]
    exact (blk_cell hg j).trans (hcs j hj)
  · simp [encs] at hu
    obtain ⟨a,b,_,rfl⟩:=hu
    rfl
  · obtain ⟨v',h1,h2,h3,h4⟩:=hh
    exact ⟨v',h1,Kd.R_of_own (enc:=encI) (h1:=encI_one) h2 (fun _ _=>trivial),h4⟩
end Go.Proofs.YtaafeallcaiooaaGreat.Pr
