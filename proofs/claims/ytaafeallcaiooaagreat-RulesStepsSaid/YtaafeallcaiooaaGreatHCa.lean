/- compare at two compound terms. -/
import Derived.Test.YtaafeallcaiooaaGreatHPn
namespace Go.Proofs.YtaafeallcaiooaaGreat.Pr
open Go.RowKit Go.Proofs.Zw Go.Proofs.Zl Go.Proofs.Zm
set_option linter.unusedVariables false
set_option linter.unusedSimpArgs false
def IsRow (w:World) (k:Nat):Prop:=∃ cs,w.heap[k]?=some (.cells cs 99 (0,0))
mutual
theorem Has.rows {w:World} {ok:Nat→Prop}:∀ {t:Tm} {p:Nat × Value},Has w ok t p→Has w (fun k=>ok k∧IsRow w k) t p
  | .var c,p,hh=>hh
  | .app s l,p,hh=>by
    rw [Has] at hh ⊢
    obtain ⟨A,cap,h1,h2,h3⟩:=hh
    exact ⟨A,cap,h1,h2,HasL.rows h3⟩
theorem HasL.rows {w:World} {ok:Nat→Prop}:∀ {l:List Tm} {A:Option Addr} {i:Nat},HasL w ok l A i→HasL w (fun k=>ok k∧IsRow w k) l A i
  | [],_,_,_=>by rw [HasL];trivial
  | t :: l,A,i,hh=>by
    rw [HasL] at hh ⊢
    obtain ⟨⟨g,cs,p,h1,h2,h3,h4,h5⟩,h6⟩:=hh
    exact ⟨⟨g,cs,p,h1,⟨h2,cs,h3⟩,h3,h4,Has.rows h5⟩,HasL.rows h6⟩
end
theorem Has.apart {α:Type} {enc:α→Value} {w:World} {ok:Nat→Prop} {t:Tm} {p:Nat × Value} {b:Nat} {L:List (α × Value)} (h:Has w ok t p) (hm:MapIs enc w b L):Has w (fun k=>k≠b) t p :=
  h.rows.mono (fun k hk e=>by
    obtain ⟨cs,hc⟩:=hk.2
    obtain ⟨es,cl,hb,_⟩:=hm
    rw [e,hb] at hc
    cases hc)
def Known (r:Int→Int) (L:List ((ByteArray × ByteArray) × Value)):Prop:=∀ a b v,a.good→b.good→getL L (a.text,b.text)=some v→v=.bool (gt r a b)
def Prec (w:World) (r:Int→Int) (b1 b2:Nat):Prop:=Ranks w b1 r∧b1≠b2∧∃ L,MapIs enP w b2 L∧Known r L
def precV (b1 b2:Nat):Value:=.agg #[.map (some b1),.map (some b2)]
theorem Ranks.move {w w':World} {b:Nat} {r:Int→Int} (h:Ranks w b r) (hb:w'.heap[b]?=w.heap[b]?):Ranks w' b r:=by
  obtain ⟨L,h1,h2⟩:=h
  exact ⟨L,h1.move hb,h2⟩
theorem Ranks.lt {w:World} {b:Nat} {r:Int→Int} (h:Ranks w b r):b < w.heap.size:=by
  obtain ⟨L,h1,h2⟩:=h
  exact h1.lt
theorem Prec.below {w w':World} {r:Int→Int} {b1 b2:Nat} (h:Prec w r b1 b2) (hb:Below w.heap.size w w'):Prec w' r b1 b2:=by
  obtain ⟨h1,h2,L,h3,h4⟩:=h
  exact ⟨h1.move (hb.block _ h1.lt),h2,L,h3.below hb,h4⟩
theorem getL_putG {α:Type} [DecidableEq α] {L:List (α × Value)} {a c:α} {v:Value}:getL (putL L a v) c=if c=a then some v else getL L c:=by
  induction L with
  | nil =>
    simp only [putL,getL,List.find?_cons,List.find?_nil]
    by_cases h:a=c
    · subst h;simp
    · simp [h,show ¬ c=a from fun e=>h e.symm]
  | cons q L ih =>
    simp only [putL]
    split
    · rename_i hq
      simp only [getL,List.find?_cons]
      by_cases h:a=c
      · subst h;simp
      · have:¬ q.1=c:=fun e=>h (hq.symm.trans e)
        simp [h,this,show ¬ c=a from fun e=>h e.symm]
    · rename_i hq
      simp only [getL,List.find?_cons] at ih ⊢
      by_cases h:q.1=c
      · have:¬ c=a:=fun e=>hq (h.trans e)
        simp [h,this]
      · simp only [h,decide_false]
        exact ih
theorem Known.put {r:Int→Int} {L:List ((ByteArray × ByteArray) × Value)} (h:Known r L) {a b:Tm} (ha:a.good) (hb:b.good):Known r (putL L (a.text,b.text) (.bool (gt r a b))):=by
  intro a' b' v ha' hb' hv
  rw [getL_putG] at hv
  split at hv
  · rename_i e
    injection e with e1 e2
    injection hv with hv
    rw [←hv,text_inj ha' ha e1,text_inj hb' hb e2]
  · exact h a' b' v ha' hb' hv
theorem zero4 (w:World):(zeroValue 4).run Tryz.prog w=.ok (.bool false) w:=by kernel_rfl
theorem look1 {w:World} {m:Nat} {L:List ((ByteArray × ByteArray) × Value)} (h:MapIs enP w m L) (x y:ByteArray):(Instr.lookup 118 (.map (some m)) (.agg #[.string x,.string y]) true).run Tryz.prog w=.ok (.tuple #[(getL L (x,y)).getD (.bool false),.bool (getL L (x,y)).isSome]) w:=by
  have:=MapIs.lookup keyd42 Tryz.underlying118 zero4 h (x,y) true
  unfold enP at this
  simpa using this
theorem look2 {w:World} {m:Nat} {L:List ((ByteArray × ByteArray) × Value)} (h:MapIs enP w m L) (x y:ByteArray):(Instr.lookup 118 (.map (some m)) (.agg #[.string x,.string y]) false).run Tryz.prog w=.ok ((getL L (x,y)).getD (.bool false)) w:=by
  have:=MapIs.lookup keyd42 Tryz.underlying118 zero4 h (x,y) false
  unfold enP at this
  simpa using this
def CmpOk (F:Nat) (r:Int→Int) (a b:Tm):Prop:=∀ (p q:Nat × Value) (w:World) (ok ok':Nat→Prop) (b1 b2:Nat),Has w ok a p→Has w ok' b q→Prec w r b1 b2 →
  Calls Tryz.prog F #[precV b1 b2,encI p,encI q] w fun e w'=>e=.returned (.bool (gt r a b))∧But b2 w w'∧Prec w' r b1 b2
set_option maxRecDepth 100000 in
set_option maxHeartbeats 2000000 in
theorem greater_of (r:Int→Int) (a b:Tm) (ha:a.good) (hb:b.good) (hsa:a.size≤1000000) (hsb:b.size≤1000000) (hc:CmpOk 130 r a b):CmpOk 93 r a b:=by
  intro p q w ok ok' b1 b2 hp hq hP
  obtain ⟨hr,hne,L,hL,hK⟩:=hP
  have hpa:=hp.apart hL
  have hqa:=hq.apart hL
  have hb2l:=hL.lt
  have hta:=fun w' h=>text_calls a p w' (fun k=>k≠b2) h ha hsa
  have htb:=fun w' h=>text_calls b q w' (fun k=>k≠b2) h hb hsb
  obtain ⟨g,hg⟩:∃ g,g=gt r a b:=⟨_,rfl⟩
  obtain ⟨tid,pv⟩:=p
  obtain ⟨tid2,pv2⟩:=q
  obtain ⟨F,hF⟩:∃ F,F=txF (tid,pv):=⟨_,rfl⟩
  have hm1:∀ w,(method 337 tid pv "numnah/rules.text").run Tryz.prog w=.ok (F,pv) w:=hF ▸ meth_text hp
  have hm2:∀ args w,(callFunc F args).run Tryz.prog w=.ok (.enter F args) w:=hF ▸ enters_text hp
  obtain ⟨G,hG⟩:∃ G,G=txF (tid2,pv2):=⟨_,rfl⟩
  have hn1:∀ w,(method 337 tid2 pv2 "numnah/rules.text").run Tryz.prog w=.ok (G,pv2) w:=hG ▸ meth_text hq
  have hn2:∀ args w,(callFunc G args).run Tryz.prog w=.ok (.enter G args) w:=hG ▸ enters_text hq
  rw [←hF] at hta
  rw [←hG] at htb
  clear hF hG hp hq
  have hBx:Below w.heap.size w (w.alloc (.cells #[.map (some b1),.map (some b2)] 120)):=below_alloc (Below.refl _ _) _
  have hcc:=fun w' h1 h2 h3=>hc (tid,pv) (tid2,pv2) w' (fun k=>k≠b2) (fun k=>k≠b2) b1 b2 h1 h2 h3
  have hBk:(w.alloc (.cells #[.map (some b1),.map (some b2)] 120)).heap[w.heap.size]?=some (.cells #[.map (some b1),.map (some b2)] 120 (0,0)):=blk_new w _
  have HBK:=Aside0.mk hBk
  clear hBk
  cases hgl:getL L (a.text,b.text) with
  | some v =>
    obtain rfl:=hK a b v ha hb hgl
    have hP:Prec w r b1 b2:=⟨hr,hne,L,hL,hK⟩
    have HLK:=Aside0.mk (fun (w':World) (h:MapIs enP w' b2 L)=>And.intro (by have:=look1 h a.text b.text;rw [hgl] at this;exact this) (by have:=look2 h a.text b.text;rw [hgl] at this;exact this):∀ w',MapIs enP w' b2 L→(Instr.lookup 118 (.map (some b2)) (.agg #[.string a.text,.string b.text]) true).run Tryz.prog w'=.ok (.tuple #[.bool (gt r a b),.bool true]) w'∧(Instr.lookup 118 (.map (some b2)) (.agg #[.string a.text,.string b.text]) false).run Tryz.prog w'=.ok (.bool (gt r a b)) w')
    rw [←hg] at HLK ⊢
    have HH:=Aside0.mk (And.intro hP (And.intro hpa (And.intro hqa hL)))
    have HTA:=Aside0.mk hta
    have HTB:=Aside0.mk htb
    clear hr hne hL hK hgl hP hpa hqa hcc hta htb hg hc ha hb hsa hsb
    unfold precV encI
    generalize a.text=ta at *
    generalize b.text=tb at *
    go_enter Tryz.func93,Tryz.ntmps93
    go_wp2_with (first
      | (refine (HTA.out _ (HH.out.2.1.below hBx)).mono ?_;rintro e w2 ⟨rfl,h2⟩;have H2:=Aside0.mk (And.intro (below_on hBx h2) (blk_below HBK.out h2));clear h2 hBx)
      | (refine (HTB.out _ (HH.out.2.2.1.below H2.out.1)).mono ?_;rintro e w3 ⟨rfl,h3⟩;have H3:=Aside0.mk (below_on H2.out.1 h3);have hx0:=blk_cell (blk_alloc (blk_below H2.out.2 h3) (.cells #[.string ta,.string tb] 42)) 0;have hx1:(w3.alloc (.cells #[.string ta,.string tb] 42)).cell? ⟨w.heap.size,1,none⟩=some (.map (some b2)):=blk_cell (blk_alloc (blk_below H2.out.2 h3) (.cells #[.string ta,.string tb] 42)) 1;have hk1:=(HLK.out (w3.alloc (.cells #[.string ta,.string tb] 42)) (HH.out.2.2.2.below (below_alloc H3.out _))).1;have hk2:=(HLK.out (w3.alloc (.cells #[.string ta,.string tb] 42)) (HH.out.2.2.2.below (below_alloc H3.out _))).2;clear h3 H2))
    go_ret
    exact ⟨rfl,But.of_below (below_alloc H3.out _),HH.out.1.below (below_alloc H3.out _)⟩
  | none =>
    have HLK:=Aside0.mk (fun (w':World) (h:MapIs enP w' b2 L)=>(by have:=look1 h a.text b.text;rw [hgl] at this;exact this):∀ w',MapIs enP w' b2 L→(Instr.lookup 118 (.map (some b2)) (.agg #[.string a.text,.string b.text]) true).run Tryz.prog w'=.ok (.tuple #[.bool false,.bool false]) w')
    have hP:Prec w r b1 b2:=⟨hr,hne,L,hL,hK⟩
    have hup:∀ w',Prec w' r b1 b2→∃ o,(Instr.mapUpdate 118 (.map (some b2)) (.agg #[.string a.text,.string b.text]) (.bool g)).run Tryz.prog w'=.ok () (blockSet w' b2 o)∧Prec (blockSet w' b2 o) r b1 b2∧(Instr.lookup 118 (.map (some b2)) (.agg #[.string a.text,.string b.text]) false).run Tryz.prog (blockSet w' b2 o)=.ok (.bool g) (blockSet w' b2 o):=by
      rintro w' ⟨h1,h2,L',h3,h4⟩
      obtain ⟨o,ho,hm⟩:=MapIs.update keyd42 Tryz.underlying118 h3 (a.text,b.text) (.bool g)
      refine ⟨o,ho,⟨h1.move (set_other o h2),h2,_,hm,by rw [hg];exact h4.put ha hb⟩,?_⟩
      have:=look2 hm a.text b.text
      rw [getL_putG,if_pos rfl] at this
      exact this
    rw [←hg] at hcc ⊢
    have HH:=Aside0.mk (And.intro hP (And.intro hpa (And.intro hqa hL)))
    have HTA:=Aside0.mk hta
    have HTB:=Aside0.mk htb
    have HUP:=Aside0.mk hup
    have HCC:=Aside0.mk hcc
    have HBL:=Aside0.mk hb2l
    clear hr hne hL hK hgl hP hpa hqa hcc hta htb hg hc ha hb hsa hsb hup hb2l
    unfold precV encI at *
    generalize a.text=ta at *
    generalize b.text=tb at *
    go_enter Tryz.func93,Tryz.ntmps93
    go_wp2_with (first
      | (go_at_call 130;refine (HCC.out _ (HH.out.2.1.below (below_alloc H3.out _)) (HH.out.2.2.1.below (below_alloc H3.out _)) (HH.out.1.below (below_alloc H3.out _))).mono ?_;rintro e w5 ⟨rfl,h5,h6⟩;obtain ⟨o,ho,hP7,hk7⟩:=HUP.out w5 h6;have HU:=Aside0.mk hP7;have e1:=(h5.block _ (gl_ HB3.out) (Nat.ne_of_gt HBL.out)).trans HB3.out;have e2:=(h5.block _ (Array.getElem?_eq_some_iff.1 (blk_new w3 (.cells #[.string ta,.string tb] 42))).1 (Nat.ne_of_gt (Nat.lt_of_lt_of_le HBL.out H3.out.size))).trans (blk_new w3 (.cells #[.string ta,.string tb] 42));have e3:=(set_other o (Nat.ne_of_gt HBL.out)).trans e1;have e4:=(set_other o (Nat.ne_of_gt (Nat.lt_of_lt_of_le HBL.out H3.out.size))).trans e2;have hy1:w5.cell? ⟨w.heap.size,1,none⟩=some (.map (some b2)):=blk_cell e1 1;have hy2:w5.cell? ⟨w3.heap.size,0,none⟩=some (.string ta):=blk_cell e2 0;have hy3:w5.cell? ⟨w3.heap.size,1,none⟩=some (.string tb):=blk_cell e2 1;have hy4:(blockSet w5 b2 o).cell? ⟨w.heap.size,1,none⟩=some (.map (some b2)):=blk_cell e3 1;have hy5:(blockSet w5 b2 o).cell? ⟨w3.heap.size,0,none⟩=some (.string ta):=blk_cell e4 0;have hy6:(blockSet w5 b2 o).cell? ⟨w3.heap.size,1,none⟩=some (.string tb):=blk_cell e4 1;have HB5:=Aside0.mk h5;clear h5 h6 hP7 e1 e2 e3 e4)
      | (refine (HTA.out _ (HH.out.2.1.below hBx)).mono ?_;rintro e w2 ⟨rfl,h2⟩;have H2:=Aside0.mk (And.intro (below_on hBx h2) (blk_below HBK.out h2));clear h2 hBx)
      | (refine (HTB.out _ (HH.out.2.2.1.below H2.out.1)).mono ?_;rintro e w3 ⟨rfl,h3⟩;have H3:=Aside0.mk (below_on H2.out.1 h3);have hx0:=blk_cell (blk_alloc (blk_below H2.out.2 h3) (.cells #[.string ta,.string tb] 42)) 0;have hx1:(w3.alloc (.cells #[.string ta,.string tb] 42)).cell? ⟨w.heap.size,1,none⟩=some (.map (some b2)):=blk_cell (blk_alloc (blk_below H2.out.2 h3) (.cells #[.string ta,.string tb] 42)) 1;have hk1:=HLK.out (w3.alloc (.cells #[.string ta,.string tb] 42)) (HH.out.2.2.2.below (below_alloc H3.out _));have HB3:=Aside0.mk (blk_alloc (blk_below H2.out.2 h3) (.cells #[.string ta,.string tb] 42));clear h3 H2))
    go_ret
    exact ⟨rfl,((But.of_below (below_alloc H3.out _)).trans HB5.out).trans (but_blockSet _ _ _),HU.out⟩
section
attribute [local go_sem] asVV asVC asCC asCV
set_option maxRecDepth 100000 in
set_option maxHeartbeats 2000000 in
theorem cmp_var (r:Int→Int) (a:Tm) (v:Int) (ha:a.good) (hsa:a.size≤1000000):CmpOk 130 r a (.var v):=by
  intro p q w ok ok' b1 b2 hp hq hP
  rw [Has.var_] at hq
  subst hq
  have hB:Below w.heap.size w (w.alloc (.cells #[.map (some b1),.map (some b2)] 120)):=below_alloc (Below.refl _ _) _
  have hoc:=occurs_calls v a p (w.alloc (.cells #[.map (some b1),.map (some b2)] 120)) ok (hp.below hB) ha hsa
  have HP:=Aside0.mk (And.intro hP hB)
  cases a with
  | var c =>
    rw [Has.var_] at hp
    subst hp
    rw [gt_var]
    clear hP hB hoc ha hsa
    unfold precV encI
    go_enter Tryz.func130,Tryz.ntmps130
    go_wp2
    go_ret
    exact ⟨rfl,But.of_below HP.out.2,HP.out.1.below HP.out.2⟩
  | app s l =>
    have hp2:=Has.app_.1 hp
    obtain ⟨A,cap,rfl,hc,hL⟩:=hp2
    rw [gt_var]
    dsimp only
    have HO:=Aside0.mk hoc
    clear hP hB hoc ha hsa hp hL hc
    generalize occT v (.app s l)=g at *
    unfold precV encI at *
    go_enter Tryz.func130,Tryz.ntmps130
    go_wp2_with (go_at_call 121;refine HO.out.mono ?_;rintro e w2 ⟨rfl,hb⟩;have H2:=Aside0.mk (below_on HP.out.2 hb);clear hb)
    go_ret
    exact ⟨rfl,But.of_below H2.out,HP.out.1.below H2.out⟩
set_option maxRecDepth 100000 in
set_option maxHeartbeats 2000000 in
theorem cmp_va (r:Int→Int) (c s:Int) (l:List Tm):CmpOk 130 r (.var c) (.app s l):=by
  intro p q w ok ok' b1 b2 hp hq hP
  rw [Has.var_] at hp
  subst hp
  obtain ⟨A,cap,rfl,hc,hL⟩:=Has.app_.1 hq
  have hB:∀ o,Below w.heap.size w ((w.alloc (.cells #[.map (some b1),.map (some b2)] 120)).alloc o):=fun o=>below_alloc (below_alloc (Below.refl _ _) _) o
  have HP:=Aside0.mk (And.intro hP hB)
  rw [gt_va]
  clear hP hB hc hL hq
  unfold precV encI
  go_enter Tryz.func130,Tryz.ntmps130
  go_wp2
  go_ret
  exact ⟨rfl,But.of_below (HP.out.2 _),HP.out.1.below (HP.out.2 _)⟩
end
theorem gA1 {r:Int→Int} {s s':Int} {l l':List Tm} (i:Nat) (hi:i < l.length) (h:(sameB l[i] (.app s' l') || gt r l[i] (.app s' l'))=true):gt r (.app s l) (.app s' l')=true:=by
 rw [gt_app,if_pos (List.any_eq_true.2 ⟨l[i],List.getElem_mem hi,h⟩)]
theorem gA2 {r:Int→Int} {s s':Int} {l l':List Tm} (h:∀ i (hi:i < l.length),(sameB l[i] (.app s' l') || gt r l[i] (.app s' l'))=false):gt r (.app s l) (.app s' l')=(if r s > r s' then false else if !(l'.all (fun u=>gt r (.app s l) u)) then false else if s≠s' then true else lexF (gt r) l l'):=by
 rw [gt_app,if_neg (by
  intro hh
  obtain ⟨x,hx,h2⟩:=List.any_eq_true.1 hh
  obtain ⟨i,hi,rfl⟩:=List.getElem_of_mem hx
  rw [h i hi] at h2
  cases h2)]
theorem gB1 {r:Int→Int} {s s':Int} {l l':List Tm} (h:∀ i (hi:i < l.length),(sameB l[i] (.app s' l') || gt r l[i] (.app s' l'))=false) (i:Nat) (hi:i < l'.length) (hg:gt r (.app s l) l'[i]=false):gt r (.app s l) (.app s' l')=false:=by
 rw [gA2 h]
 split
 ·rfl
 ·have:(l'.all fun u=>gt r (.app s l) u)=false:=List.all_eq_false.2 ⟨l'[i],List.getElem_mem hi,by rw [hg];simp⟩
  rw [this]
  rfl
theorem gB2 {r:Int→Int} {s s':Int} {l l':List Tm} (h:∀ i (hi:i < l.length),(sameB l[i] (.app s' l') || gt r l[i] (.app s' l'))=false) (hr:¬ r s > r s') (hg:∀ i (hi:i < l'.length),gt r (.app s l) l'[i]=true):gt r (.app s l) (.app s' l')=(if s≠s' then true else lexF (gt r) l l'):=by
 have:(l'.all fun u=>gt r (.app s l) u)=true:=List.all_eq_true.2 (fun x hx=>by
  obtain ⟨i,hi,rfl⟩:=List.getElem_of_mem hx
  exact hg i hi)
 rw [gA2 h,if_neg hr,this]
 rfl
theorem lex1 {g:Tm→Tm→Bool}:∀ (l m:List Tm) (i:Nat) (hi:i < l.length) (hj:i < m.length),(∀ j (h1:j < l.length) (h2:j < m.length),j < i→sameB l[j] m[j]=true)→sameB l[i] m[i]=false→lexF g l m=g l[i] m[i]
 | t :: ts,u :: us,0,hi,hj,h,hn=>by
  rw [lexF,if_neg (by simpa using hn)]
  rfl
 | t :: ts,u :: us,i+1,hi,hj,h,hn=>by
  have h0:=h 0 (by simp) (by simp) (by omega)
  rw [lexF,if_pos (by simpa using h0),lex1 ts us i (by simpa using hi) (by simpa using hj) (fun j h1 h2 hji=>by
   have:=h (j+1) (by simpa using h1) (by simpa using h2) (by omega)
   simpa using this) (by simpa using hn)]
  rfl
theorem lex2 {g:Tm→Tm→Bool}:∀ (l m:List Tm),(∀ j (h1:j < l.length) (h2:j < m.length),sameB l[j] m[j]=true)→lexF g l m=false
 | [],[],h=>rfl
 | [],_ :: _,h=>rfl
 | _ :: _,[],h=>rfl
 | t :: ts,u :: us,h=>by
  have h0:=h 0 (by simp) (by simp)
  rw [lexF,if_pos (by simpa using h0)]
  exact lex2 ts us (fun j h1 h2=>by
   have:=h (j+1) (by simpa using h1) (by simpa using h2)
   simpa using this)
def StW (w wx:World) (r:Int→Int) (b1 b2:Nat) (s:Int) (A:Option Addr) (n cap:Nat):Prop :=
 But b2 w wx∧Prec wx r b1 b2∧wx.heap[w.heap.size]?=some (.cells #[.map (some b1),.map (some b2)] 120 (0,0))∧wx.heap[w.heap.size+1]?=some (.cells #[.int .u8 s,.slice A n cap] 149 (0,0))∧b2 < w.heap.size
theorem StW.but {w wx wy:World} {r:Int→Int} {b1 b2:Nat} {s:Int} {A:Option Addr} {n cap:Nat} (h:StW w wx r b1 b2 s A n cap) (hb:But b2 wx wy) (hP:Prec wy r b1 b2):StW w wy r b1 b2 s A n cap:=by
 obtain ⟨h1,h2,h3,h4,h5⟩:=h
 exact ⟨h1.trans hb,hP,(hb.block _ (gl_ h3) (by omega)).trans h3,(hb.block _ (gl_ h4) (by omega)).trans h4,h5⟩
theorem StW.below {w wx wy:World} {r:Int→Int} {b1 b2:Nat} {s:Int} {A:Option Addr} {n cap:Nat} (h:StW w wx r b1 b2 s A n cap) (hb:Below wx.heap.size wx wy):StW w wy r b1 b2 s A n cap:=h.but (But.of_below hb) (h.2.1.below hb)
theorem StW.blk {w wx:World} {r:Int→Int} {b1 b2:Nat} {s:Int} {A:Option Addr} {n cap:Nat} (h:StW w wx r b1 b2 s A n cap) {g:Nat} {o:Obj} (hg:w.heap[g]?=some o) (hne:g≠b2):wx.heap[g]?=some o:=(h.1.block g (gl_ hg) hne).trans hg
theorem asC0 (v:Value) (w:World):(Instr.typeAssert (.iface 149 v) 99 149 false).run Tryz.prog w=.ok v w:=by kernel_rfl
theorem zero3' (w:World):(zeroValue 3).run Tryz.prog w=.ok (.int .i64 0) w:=by kernel_rfl
theorem lookR {w:World} {b:Nat} {r:Int→Int} (h:Ranks w b r) (c:Int) (hc:97≤c∧c≤102):(Instr.lookup 117 (.map (some b)) (.int .u8 c) false).run Tryz.prog w=.ok (.int .i64 (r c)) w:=by
 obtain ⟨L,h1,h2⟩:=h
 have:=MapIs.lookup keyd5 Tryz.underlying117 zero3' h1 c false
 unfold enB at this
 rw [h2 c hc] at this
 simpa using this
section
attribute [local go_sem] asVV asVC asCC asCV asC0
set_option maxRecDepth 100000 in
set_option maxHeartbeats 8000000 in
theorem cmp_app (r:Int→Int) (s:Int) (l:List Tm) (s':Int) (l':List Tm) (ha:(Tm.app s l).good) (hb:(Tm.app s' l').good) (hsa:(Tm.app s l).size≤1000000) (hsb:(Tm.app s' l').size≤1000000)
  (hIH:∀ x y,x.good→y.good→x.size+y.size < (Tm.app s l).size+(Tm.app s' l').size→CmpOk 93 r x y):CmpOk 130 r (.app s l) (.app s' l'):=by
 intro p q w ok ok' b1 b2 hp hq hP
 obtain ⟨hr,hne,L,hL,hK⟩:=hP
 have hpa:=hp.apart hL
 have hqa:=hq.apart hL
 have hb2l:=hL.lt
 have hP:Prec w r b1 b2:=⟨hr,hne,L,hL,hK⟩
 obtain ⟨A,cap,rfl,hc,hLa⟩:=Has.app_.1 hpa
 obtain ⟨B,capB,rfl,hcB,hLb⟩:=Has.app_.1 hqa
 have hla:=good_len ha
 have hlb':=good_len hb
 have hga:=ha
 have hgb:=hb
 rw [Tm.good] at hga hgb
 have ea:=Tm.size.eq_2 s l
 have eb:=Tm.size.eq_2 s' l'
 have hs0:StW w ((w.alloc (.cells #[.map (some b1),.map (some b2)] 120)).alloc (.cells #[.int .u8 s,.slice A l.length cap] 149)) r b1 b2 s A l.length cap :=
  ⟨But.of_below (below_alloc (below_alloc (Below.refl _ _) _) _),hP.below (below_alloc (below_alloc (Below.refl _ _) _) _),blk_alloc (blk_new w _) _,blk_new1' w _ _,hb2l⟩
 obtain ⟨g,hg⟩:∃ g,g=gt r (.app s l) (.app s' l'):=⟨_,rfl⟩
 have h1:∀ i (hi:i < l.length),(sameB l[i] (.app s' l') || gt r l[i] (.app s' l'))=true→g=true:=fun i hi h=>hg.trans (gA1 i hi h)
 have h2:(∀ i (hi:i < l.length),(sameB l[i] (.app s' l') || gt r l[i] (.app s' l'))=false)→r s > r s'→g=false:=fun h hr=>by rw [hg,gA2 h,if_pos hr]
 have h3:(∀ i (hi:i < l.length),(sameB l[i] (.app s' l') || gt r l[i] (.app s' l'))=false)→∀ i (hi:i < l'.length),gt r (.app s l) l'[i]=false→g=false:=fun h i hi hh=>hg.trans (gB1 h i hi hh)
 have h4:(∀ i (hi:i < l.length),(sameB l[i] (.app s' l') || gt r l[i] (.app s' l'))=false)→¬ r s > r s'→(∀ i (hi:i < l'.length),gt r (.app s l) l'[i]=true)→g=(if s≠s' then true else lexF (gt r) l l'):=fun h hr hh=>hg.trans (gB2 h hr hh)
 have HG:=Aside0.mk (And.intro h1 (And.intro h2 (And.intro h3 h4)))
 rw [←hg]
 have hsame:=fun (x:Tm) (qx:Nat × Value) (w':World) (okx:Nat→Prop) (hx:Has w' okx x qx) (hB:Has w' (fun k=>k≠b2) (.app s' l') (149,.agg #[.int .u8 s',.slice B l'.length capB])) (hgx:x.good) (hsx:x.size≤1000000)=>same_calls x (.app s' l') qx (149,.agg #[.int .u8 s',.slice B l'.length capB]) w' okx _ hx hB hgx hb hsx hsb
 have HK:=Aside0.mk (And.intro hpa (And.intro hqa (And.intro hLa (And.intro hLb (And.intro hla (And.intro hlb' (And.intro hga (And.intro hgb (And.intro ea (And.intro eb (And.intro hsa (And.intro hsb (And.intro hIH (And.intro ha hb))))))))))))))
 have HSM:=Aside0.mk hsame
 have HS0:=Aside0.mk hs0
 clear hr hne hL hK hpa hqa hp hq hb2l hP hLa hLb hla hlb' hga hgb ea eb hsa hsb hIH ha hb hs0 hg h1 h2 h3 h4 hsame hc hcB
 unfold encI
 unfold precV
 go_enter Tryz.func130,Tryz.ntmps130
 go_wp2
 go_loopw [48] (fun v48 wr=>∃ i:Nat,v48=.int .i64 (i:Int)∧Aside0 (i≤l.length)∧Aside0 (∀ j (hj:j < l.length),j < i→(sameB l[j] (.app s' l') || gt r l[j] (.app s' l'))=false)∧Aside0 (StW w wr r b1 b2 s A l.length cap)) (fun v48 _=>l.length - (intOf v48).toNat)
 case atStart=>exact ⟨0,rfl,⟨Nat.zero_le _⟩,⟨fun j hj h=>absurd h (Nat.not_lt_zero _)⟩,HS0⟩
 case round =>
  obtain ⟨i,rfl,HI,HA,HS⟩:=hrel
  obtain ⟨hpa,hqa,hLa,hLb,hla,hlb',hga,hgb,ea,eb,hsa,hsb,hIH,ha,hb⟩:=HK.out
  by_cases hlt:i < l.length
  ·have hlb:decide ((i:Int) < (l.length:Int))=true:=decide_eq_true (by omega)
   obtain ⟨g1,cs,qx,rfl,hgne,hgc,hcs,hqx⟩:=hLa.get i hlt
   rw [Nat.zero_add] at hcs
   have hcell:wr.cell? ⟨g1,i,none⟩=some (encI qx):=(blk_cell (HS.out.blk hgc hgne) i).trans hcs
   have hm:=List.getElem_mem hlt
   have hgx:=goods_mem hga.2.2 hm
   have hsx:=sizes_mem l _ hm
   have hA1:=HG.out.1 i hlt
   have hx0:=blk_cell HS.out.2.2.1 0
   have hx1:wr.cell? ⟨w.heap.size,1,none⟩=some (.map (some b2)):=blk_cell HS.out.2.2.1 1
   have hAi:=HA.out
   have HX:=Aside0.mk (And.intro (HSM.out l[i] qx wr _ (hqx.but HS.out.1 (fun k hk=>hk)) (hqa.but HS.out.1 (fun k hk=>hk)) hgx (by omega)) (And.intro (fun (w':World) (h:But b2 w w')=>And.intro (hqx.but h (fun k hk=>hk)) (hqa.but h (fun k hk=>hk))) (hIH l[i] _ hgx hb (by omega))))
   have hnx:(sameB l[i] (.app s' l') || gt r l[i] (.app s' l'))=false→∀ j (hj:j < l.length),j < i+1→(sameB l[j] (.app s' l') || gt r l[j] (.app s' l'))=false:=fun h j hj hji=>by
    by_cases e:j=i
    ·subst e;exact h
    ·exact hAi j hj (by omega)
   have hw1:=wr4 i (Nat.lt_of_lt_of_le hlt (Nat.le_trans hla (by decide)))
   have HN:=Aside0.mk (And.intro hA1 hnx)
   clear hpa hqa hLa hLb hla hlb' hga hgb ea eb hsa hsb hIH ha hb hgc hcs hqx hgne hm hgx hsx hA1 hAi hnx HI HA
   obtain ⟨tid,pv⟩:=qx
   unfold CmpOk at HX
   unfold encI at hcell HX
   unfold precV at HX
   generalize l[i]=x at *
   generalize sameB x (.app s' l')=sb at *
   generalize gt r x (.app s' l')=gx at *
   cases sb with
   | true =>
    obtain rfl:g=true:=HN.out.1 rfl
    go_wp2_with (go_at_call 125;refine HX.out.1.mono ?_;rintro e w2 ⟨rfl,hb⟩;have H2:=Aside0.mk (HS.out.below hb);clear hb)
    go_ret
    exact ⟨rfl,H2.out.1,H2.out.2.1⟩
   | false =>
    cases gx with
    | true =>
     obtain rfl:g=true:=HN.out.1 rfl
     go_wp2_with (first
      | (go_at_call 125;refine HX.out.1.mono ?_;rintro e w2 ⟨rfl,hb⟩;have H2:=Aside0.mk (HS.out.below hb);have hx0:=blk_cell H2.out.2.2.1 0;have hx1:w2.cell? ⟨w.heap.size,1,none⟩=some (.map (some b2)):=blk_cell H2.out.2.2.1 1;clear hb)
      | (go_at_call 93;refine (HX.out.2.2 _ _ w2 _ _ _ _ (HX.out.2.1 w2 H2.out.1).1 (HX.out.2.1 w2 H2.out.1).2 H2.out.2.1).mono ?_;rintro e w3 ⟨rfl,hb,hP3⟩;have H3:=Aside0.mk (H2.out.but hb hP3);clear hb hP3))
     go_ret
     exact ⟨rfl,H3.out.1,H3.out.2.1⟩
    | false =>
     go_wp2_with (first
      | (go_at_call 125;refine HX.out.1.mono ?_;rintro e w2 ⟨rfl,hb⟩;have H2:=Aside0.mk (HS.out.below hb);have hx0:=blk_cell H2.out.2.2.1 0;have hx1:w2.cell? ⟨w.heap.size,1,none⟩=some (.map (some b2)):=blk_cell H2.out.2.2.1 1;clear hb)
      | (go_at_call 93;refine (HX.out.2.2 _ _ w2 _ _ _ _ (HX.out.2.1 w2 H2.out.1).1 (HX.out.2.1 w2 H2.out.1).2 H2.out.2.1).mono ?_;rintro e w3 ⟨rfl,hb,hP3⟩;have H3:=Aside0.mk (H2.out.but hb hP3);clear hb hP3))
     refine ⟨⟨i+1,by first|rfl|(rw [hw1];rfl),⟨hlt⟩,⟨by first|exact HN.out.2 rfl|exact HN.out.2 trivial⟩,H3⟩,?_⟩
     try rw [hw1]
     simp only [intOf]
     clear hw1
     omega
  ·have hlb:decide ((i:Int) < (l.length:Int))=false:=decide_eq_false (by omega)
   have hAll:∀ j (hj:j < l.length),(sameB l[j] (.app s' l') || gt r l[j] (.app s' l'))=false:=fun j hj=>HA.out j hj (by omega)
   have HALL:=Aside0.mk (And.intro (HG.out.2.1 hAll) (And.intro (HG.out.2.2.1 hAll) (HG.out.2.2.2 hAll)))
   have hx0:=blk_cell HS.out.2.2.1 0
   have hbB:∀ o,Below wr.heap.size wr (wr.alloc o):=fun o=>below_alloc (Below.refl _ _) o
   have hS2:=HS.out.below (hbB (.cells #[.int .u8 s',.slice B l'.length capB] 149))
   have hy0:=blk_cell hS2.2.2.1 0
   have hya:=blk_cell hS2.2.2.2.1 0
   have hl1:=lookR hS2.2.1.1 s hga.1
   have hl2:=lookR hS2.2.1.1 s' hgb.1
   have hbb:(wr.alloc (.cells #[.int .u8 s',.slice B l'.length capB] 149)).heap[wr.heap.size]?=some (.cells #[.int .u8 s',.slice B l'.length capB] 149 (0,0)):=blk_new wr _
   have hwz:w.heap.size≤wr.heap.size:=HS.out.1.size
   have HS2:=Aside0.mk (And.intro hS2 (And.intro hbb hwz))
   clear hpa hqa hLa hLb hla hlb' hga hgb ea eb hsa hsb hIH ha hb hAll hbB hS2 hbb hwz HI HA
   by_cases hrr:r s > r s'
   ·obtain rfl:g=false:=HALL.out.1 hrr
    go_wp2
    go_ret
    exact ⟨rfl,HS2.out.1.1,HS2.out.1.2.1⟩
   ·have hrd:decide (r s > r s')=false:=decide_eq_false hrr
    have HH:=Aside0.mk (And.intro HALL.out.2.1 (HALL.out.2.2 (by first|exact hrr|exact Int.not_lt.1 hrr)))
    go_wp2
    obtain ⟨bx,hbx⟩:∃ bx,bx=wr.heap.size:=⟨_,rfl⟩
    rw [←hbx] at HS2 ⊢
    clear HALL HS hx0 hy0 hya hl1 hl2 hlb hlt hrr hrd hbx
    go_loopw [78] (fun v78 wr=>∃ i:Nat,v78=.int .i64 (i:Int)∧Aside0 (i≤l'.length)∧Aside0 (∀ j (hj:j < l'.length),j < i→gt r (.app s l) l'[j]=true)∧Aside0 (StW w wr r b1 b2 s A l.length cap∧wr.heap[bx]?=some (.cells #[.int .u8 s',.slice B l'.length capB] 149 (0,0))∧w.heap.size≤bx)) (fun v78 _=>l'.length - (intOf v78).toNat)
    case atStart=>exact ⟨0,rfl,⟨Nat.zero_le _⟩,⟨fun j hj h=>absurd h (Nat.not_lt_zero _)⟩,HS2⟩
    case round =>
     obtain ⟨i,rfl,HI,HA,HS⟩:=hrel
     obtain ⟨hpa,hqa,hLa,hLb,hla,hlb',hga,hgb,ea,eb,hsa,hsb,hIH,ha,hb⟩:=HK.out
     have hx0:=blk_cell HS.out.1.2.2.1 0
     have hx1:wr.cell? ⟨w.heap.size,1,none⟩=some (.map (some b2)):=blk_cell HS.out.1.2.2.1 1
     by_cases hlt:i < l'.length
     ·have hlb:decide ((i:Int) < (l'.length:Int))=true:=decide_eq_true (by omega)
      obtain ⟨g1,cs,qx,rfl,hgne,hgc,hcs,hqx⟩:=hLb.get i hlt
      rw [Nat.zero_add] at hcs
      have hcell:wr.cell? ⟨g1,i,none⟩=some (encI qx):=(blk_cell (HS.out.1.blk hgc hgne) i).trans hcs
      have hm:=List.getElem_mem hlt
      have hgx:=goods_mem hgb.2.2 hm
      have hsx:=sizes_mem l' _ hm
      have hB1:=HH.out.1 i hlt
      have hAi:=HA.out
      have HX:=Aside0.mk (hIH _ l'[i] ha hgx (by omega) _ _ wr _ _ b1 b2 (hpa.but HS.out.1.1 (fun k hk=>hk)) (hqx.but HS.out.1.1 (fun k hk=>hk)) HS.out.1.2.1)
      have hnx:gt r (.app s l) l'[i]=true→∀ j (hj:j < l'.length),j < i+1→gt r (.app s l) l'[j]=true:=fun h j hj hji=>by
       by_cases e:j=i
       ·subst e;exact h
       ·exact hAi j hj (by omega)
      have hw1:=wr4 i (Nat.lt_of_lt_of_le hlt (Nat.le_trans hlb' (by decide)))
      have HN:=Aside0.mk (And.intro hB1 hnx)
      clear hpa hqa hLa hLb hla hlb' hga hgb ea eb hsa hsb hIH ha hb hgc hcs hqx hgne hm hgx hsx hB1 hAi hnx HI HA
      obtain ⟨tid,pv⟩:=qx
      unfold encI at hcell HX
      unfold precV at HX
      generalize l'[i]=x at *
      generalize gt r (.app s l) x=gx at *
      cases gx with
      | false =>
       obtain rfl:g=false:=HN.out.1 rfl
       go_wp2_with (go_at_call 93;refine HX.out.mono ?_;rintro e w3 ⟨rfl,hb,hP3⟩;have H3:=Aside0.mk (HS.out.1.but hb hP3);clear hb hP3)
       go_ret
       exact ⟨rfl,H3.out.1,H3.out.2.1⟩
      | true =>
       go_wp2_with (go_at_call 93;refine HX.out.mono ?_;rintro e w3 ⟨rfl,hb,hP3⟩;have H3:=Aside0.mk (And.intro (HS.out.1.but hb hP3) ((hb.block _ (gl_ HS.out.2.1) (Nat.ne_of_gt (Nat.lt_of_lt_of_le HS.out.1.2.2.2.2 HS.out.2.2))).trans HS.out.2.1));clear hb hP3)
       refine ⟨⟨i+1,by first|rfl|(rw [hw1];rfl),⟨hlt⟩,⟨by first|exact HN.out.2 rfl|exact HN.out.2 trivial⟩,⟨H3.out.1,H3.out.2,HS.out.2.2⟩⟩,?_⟩
       try rw [hw1]
       simp only [intOf]
       clear hw1
       omega
     ·have hlb:decide ((i:Int) < (l'.length:Int))=false:=decide_eq_false (by omega)
      have hAll:∀ j (hj:j < l'.length),gt r (.app s l) l'[j]=true:=fun j hj=>HA.out j hj (by omega)
      have hg2:=HH.out.2 hAll
      have hya:=blk_cell HS.out.1.2.2.2.1 0
      have hyb:=blk_cell HS.out.2.1 0
      have hya1:wr.cell? ⟨w.heap.size+1,1,none⟩=some (.slice A l.length cap):=blk_cell HS.out.1.2.2.2.1 1
      by_cases hss:s=s'
      ·subst hss
       have hg3:g=lexF (gt r) l l':=by rw [hg2,if_neg (fun h=>h rfl)]
       have hll:l.length=l'.length:=by omega
       have hC1:∀ i (hi:i < l.length) (hj:i < l'.length),(∀ j (h1:j < l.length) (h2:j < l'.length),j < i→sameB l[j] l'[j]=true)→sameB l[i] l'[i]=false→g=gt r l[i] l'[i]:=fun i hi hj h hn=>hg3.trans (lex1 l l' i hi hj h hn)
       have hC2:(∀ j (h1:j < l.length) (h2:j < l'.length),sameB l[j] l'[j]=true)→g=false:=fun h=>hg3.trans (lex2 l l' h)
       have HC:=Aside0.mk (And.intro hC1 (And.intro hC2 hll))
       have hsb2:(s != s)=false:=by simp
       clear hpa hqa hLa hLb hla hlb' hga hgb ea eb hsa hsb hIH ha hb hAll hg2 hg3 hC1 hC2 hll HI HA HH
       go_wp2
       go_loopw [96] (fun v96 wr=>∃ i:Nat,v96=.int .i64 (i:Int)∧Aside0 (i≤l.length)∧Aside0 (∀ j (h1:j < l.length) (h2:j < l'.length),j < i→sameB l[j] l'[j]=true)∧Aside0 (StW w wr r b1 b2 s A l.length cap∧wr.heap[bx]?=some (.cells #[.int .u8 s,.slice B l'.length capB] 149 (0,0))∧w.heap.size≤bx)) (fun v96 _=>l.length - (intOf v96).toNat)
       case atStart=>exact ⟨0,rfl,⟨Nat.zero_le _⟩,⟨fun j h1 h2 h=>absurd h (Nat.not_lt_zero _)⟩,HS⟩
       case round =>
        clear HS hx0 hx1 hya hyb hya1 hlt hlb hsb2
        obtain ⟨i,rfl,HI,HA,HS⟩:=hrel
        obtain ⟨hpa,hqa,hLa,hLb,hla,hlb',hga,hgb,ea,eb,hsa,hsb,hIH,ha,hb⟩:=HK.out
        by_cases hlt:i < l.length
        ·have hlb:decide ((i:Int) < (l.length:Int))=true:=decide_eq_true (by omega)
         have hltB:i < l'.length:=by rw [←HC.out.2.2];exact hlt
         have hltI:(i:Int) < (l'.length:Int):=Int.ofNat_lt.2 hltB
         obtain ⟨g1,cs,qx,rfl,hgne,hgc,hcs,hqx⟩:=hLa.get i hlt
         obtain ⟨g2,cs2,qy,rfl,hgne2,hgc2,hcs2,hqy⟩:=hLb.get i hltB
         rw [Nat.zero_add] at hcs hcs2
         have hcell:wr.cell? ⟨g1,i,none⟩=some (encI qx):=(blk_cell (HS.out.1.blk hgc hgne) i).trans hcs
         have hcel2:wr.cell? ⟨g2,i,none⟩=some (encI qy):=(blk_cell (HS.out.1.blk hgc2 hgne2) i).trans hcs2
         have hbb1:wr.cell? ⟨bx,1,none⟩=some (.slice (some ⟨g2,0,none⟩) l'.length capB):=blk_cell HS.out.2.1 1
         have hm:=List.getElem_mem hlt
         have hm2:=List.getElem_mem hltB
         have hgx:=goods_mem hga.2.2 hm
         have hgy:=goods_mem hgb.2.2 hm2
         have hsx:=sizes_mem l _ hm
         have hsy:=sizes_mem l' _ hm2
         have hC1:=HC.out.1 i hlt hltB HA.out
         have hAi:=HA.out
         have HHx:=Aside0.mk (And.intro (hqx.but HS.out.1.1 (fun k hk=>hk)) (hqy.but HS.out.1.1 (fun k hk=>hk)))
         have HSM2:=Aside0.mk (same_calls l[i] l'[i] qx qy wr _ _ HHx.out.1 HHx.out.2 hgx hgy (by omega) (by omega))
         have hGT:∀ w',Prec w' r b1 b2→Has w' (fun k=>k≠b2) l[i] qx→Has w' (fun k=>k≠b2) l'[i] qy→Calls Tryz.prog 93 #[precV b1 b2,encI qx,encI qy] w' fun e w''=>e=.returned (.bool (gt r l[i] l'[i]))∧But b2 w' w''∧Prec w'' r b1 b2:=fun w' hP hx hy=>hIH l[i] l'[i] hgx hgy (by omega) qx qy w' _ _ b1 b2 hx hy hP
         have HGT:=Aside0.mk hGT
         have hnx:sameB l[i] l'[i]=true→∀ j (h1:j < l.length) (h2:j < l'.length),j < i+1→sameB l[j] l'[j]=true:=fun h j h1 h2 hji=>by
          by_cases e:j=i
          ·subst e;exact h
          ·exact hAi j h1 h2 (by omega)
         have hw1:=wr4 i (Nat.lt_of_lt_of_le hlt (Nat.le_trans hla (by decide)))
         have HN:=Aside0.mk (And.intro hC1 hnx)
         have HG2:=Aside0.mk (And.intro (HS.out.1.blk hgc2 hgne2) (And.intro hcs2 hgne2))
         clear hpa hqa hLa hLb hla hlb' hga hgb ea eb hsa hsb hIH ha hb hgc hcs hqx hgne hm hgx hsx hC1 hAi hnx HI HA hGT hgc2 hcs2 hgne2 hqy hm2 hgy hsy
         obtain ⟨tid,pv⟩:=qx
         obtain ⟨tid2,pv2⟩:=qy
         unfold encI at hcell hcel2 HSM2 HGT
         generalize l[i]=x at *
         generalize l'[i]=y at *
         clear hltB
         generalize gt r x y=gx at *
         generalize sameB x y=sb at *
         cases sb with
         | true =>
          go_wp2_with (go_at_call 125;refine HSM2.out.mono ?_;rintro e w2 ⟨rfl,hb⟩;have H2:=Aside0.mk (And.intro (HS.out.1.below hb) ((hb.block _ (gl_ HS.out.2.1)).trans HS.out.2.1));clear hb)
          refine ⟨⟨i+1,by first|rfl|(rw [hw1];rfl),⟨hlt⟩,⟨by first|exact HN.out.2 rfl|exact HN.out.2 trivial⟩,⟨H2.out.1,H2.out.2,HS.out.2.2⟩⟩,?_⟩
          try rw [hw1]
          simp only [intOf]
          clear hw1
          omega
         | false =>
          obtain rfl:g=gx:=by first|exact HN.out.1 rfl|exact HN.out.1 trivial
          go_wp2_with (go_at_call 125;refine HSM2.out.mono ?_;rintro e w2 ⟨rfl,hb⟩;have H2:=Aside0.mk (And.intro (HS.out.1.below hb) (And.intro hb ((hb.block _ (gl_ HS.out.2.1)).trans HS.out.2.1)));clear hb)
          have HS3:=Aside0.mk (And.intro H2.out.1 (And.intro (HHx.out.1.below H2.out.2.1) (And.intro (HHx.out.2.below H2.out.2.1) H2.out.1.2.1)))
          have hy0:w2.drew.cell? ⟨w.heap.size,0,none⟩=some (.map (some b1)):=blk_cell (blk_drew H2.out.1.2.2.1) 0
          have hy1:w2.drew.cell? ⟨w.heap.size,1,none⟩=some (.map (some b2)):=blk_cell (blk_drew H2.out.1.2.2.1) 1
          have hy2:w2.drew.cell? ⟨bx,1,none⟩=some (.slice (some ⟨g2,0,none⟩) l'.length capB):=blk_cell (blk_drew H2.out.2.2) 1
          have hy3:w2.drew.cell? ⟨g2,i,none⟩=some (.iface tid2 pv2):=(blk_cell (blk_drew (blk_below HG2.out.1 H2.out.2.1)) i).trans HG2.out.2.1
          refine start_ (n:=9) (S:=fun w'=>w'.cell? ⟨w.heap.size,0,none⟩=some (.map (some b1))∧w'.cell? ⟨w.heap.size,1,none⟩=some (.map (some b2))∧w'.cell? ⟨bx,1,none⟩=some (.slice (some ⟨g2,0,none⟩) l'.length capB)∧w'.cell? ⟨g2,i,none⟩=some (.iface tid2 pv2)) (ds:=[7]) (bm 9 0) (by kernel_rfl) rfl rfl ⟨hy0,hy1,hy2,hy3⟩ (fun hHeld=>?_)
          refine pk_ 1 110 (bm 9 2) ?_
          refine pk_ 2 111 (bm 9 6) ?_
          refine pk_ 4 113 (bm 9 22) ?_
          refine take_ (i:=0) (N:=some 109) (v:=?_) (a':=?_) (bm 9 23) rfl rfl (by kernel_rfl) (fun _ _ _ h=>h) (Or.inl ⟨by rfl,?_⟩) hHeld ?_ ?_;rotate_left;(rintro w' ⟨s0,s1,s2,s3⟩;go_simp;with_reducible rfl);rotate_left;exact tP_
          refine take_ (i:=3) (N:=some 112) (v:=?_) (a':=?_) (bm 9 31) rfl rfl (by kernel_rfl) (fun _ _ _ h=>h) (Or.inl ⟨by rfl,?_⟩) hHeld ?_ ?_;rotate_left;(rintro w' ⟨s0,s1,s2,s3⟩;go_simp;with_reducible rfl);rotate_left;exact tP_
          refine pk_ 5 114 (bm 9 63) ?_
          refine take_ (i:=6) (N:=some 115) (v:=?_) (a':=?_) (bm 9 127) rfl rfl (by kernel_rfl) (fun _ _ _ h=>h) (Or.inl ⟨by rfl,?_⟩) hHeld ?_ ?_;rotate_left;(rintro w' ⟨s0,s1,s2,s3⟩;go_simp;with_reducible rfl);rotate_left;exact tP_
          refine last_ (i:=7) (N:=some 116) (bm 9 255) rfl rfl (by kernel_rfl) (by decide) (fun K hK=>?_)
          refine goesD_ Tryz.func93 (by kernel_rfl) rfl #[precV b1 b2,.iface tid pv,.iface tid2 pv2] (by rfl) rfl rfl (by simp only [List.map_toArray,List.map_cons,List.map_nil];rfl) ?_
          refine (HGT.out _ (HS3.out.2.2.2.below (below_draw _)) (HS3.out.2.1.below (below_draw _)) (HS3.out.2.2.1.below (below_draw _))).mono ?_
          rintro e w5 ⟨rfl,hb5,hP5⟩
          refine .inl ⟨_,rfl,?_⟩
          refine hK.out _ _ ?_
          clear hK K
          refine norm_ (a':=?_) ?_ ?_;rotate_left;(show Act.put _ (some 116) _=_;exact tP_)
          refine pk_ 8 6 (bm 9 511) ?_
          refine done_ (by kernel_rfl) ?_
          first|go_ret|(go_wp2;go_ret)|trace_state
          exact ⟨rfl,HS3.out.1.1.trans ((But.of_below (below_draw _)).trans hb5),hP5⟩
        ·have hlb:decide ((i:Int) < (l.length:Int))=false:=decide_eq_false (by omega)
         obtain rfl:g=false:=HC.out.2.1 (fun j h1 h2=>HA.out j h1 h2 (by omega))
         clear hpa hqa hLa hLb hla hlb' hga hgb ea eb hsa hsb hIH ha hb HI HA
         go_wp2
         go_ret
         exact ⟨rfl,HS.out.1.1,HS.out.1.2.1⟩
      ·obtain rfl:g=true:=by rw [hg2,if_pos hss]
       have hsb1:(s == s')=false:=beq_eq_false_iff_ne.2 hss
       have hsb2:(s != s')=true:=by rw [bne,hsb1];rfl
       clear hpa hqa hLa hLb hla hlb' hga hgb ea eb hsa hsb hIH ha hb hAll hg2 HI HA
       go_wp2
       go_ret
       exact ⟨rfl,HS.out.1.1,HS.out.1.2.1⟩
end
end Go.Proofs.YtaafeallcaiooaaGreat.Pr
