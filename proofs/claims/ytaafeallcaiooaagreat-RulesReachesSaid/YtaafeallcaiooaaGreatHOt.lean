/- Orient. -/
import Derived.Test.YtaafeallcaiooaaGreatHPn
import Derived.Test.YtaafeallcaiooaaGreatHPt
import Derived.Lib.ConvBytes
import Derived.Test.YtaafeallcaiooaaGreatHNe
namespace Go.Proofs.YtaafeallcaiooaaGreat.Pr
open Go.RowKit Go.Proofs.Zw Go.Proofs.Zl Go.Proofs.Zm
set_option linter.unusedVariables false
set_option linter.unusedSimpArgs false
def IsRow (w:World) (k:Nat):Prop:=∃ cs,w.heap[k]?=some (.cells cs 99 (0,0))
mutual
theorem Has.rows {w:World} {ok:Nat→Prop}:∀ {t:Tm} {p:Nat × Value},Has w ok t p→Has w (fun k=>ok k∧IsRow w k) t p
  | .var c,p,hh=>hh
  | .app s l,p,hh=>by
    rw [Has] at hh ⊢
    obtain ⟨A,cap,h1,h2,h3⟩:=hh
    exact ⟨A,cap,h1,h2,HasL.rows h3⟩
theorem HasL.rows {w:World} {ok:Nat→Prop}:∀ {l:List Tm} {A:Option Addr} {i:Nat},HasL w ok l A i→HasL w (fun k=>ok k∧IsRow w k) l A i
  | [],_,_,_=>by rw [HasL];trivial
  | t :: l,A,i,hh=>by
    rw [HasL] at hh ⊢
    obtain ⟨⟨g,cs,p,h1,h2,h3,h4,h5⟩,h6⟩:=hh
    exact ⟨⟨g,cs,p,h1,⟨h2,cs,h3⟩,h3,h4,Has.rows h5⟩,HasL.rows h6⟩
end
theorem Has.apart {α:Type} {enc:α→Value} {w:World} {ok:Nat→Prop} {t:Tm} {p:Nat × Value} {b:Nat} {L:List (α × Value)} (h:Has w ok t p) (hm:MapIs enc w b L):Has w (fun k=>k≠b) t p :=
  h.rows.mono (fun k hk e=>by
    obtain ⟨cs,hc⟩:=hk.2
    obtain ⟨es,cl,hb,_⟩:=hm
    rw [e,hb] at hc
    cases hc)
def Known (r:Int→Int) (L:List ((ByteArray × ByteArray) × Value)):Prop:=∀ a b v,a.good→b.good→getL L (a.text,b.text)=some v→v=.bool (gt r a b)
def Prec (w:World) (r:Int→Int) (b1 b2:Nat):Prop:=Ranks w b1 r∧b1≠b2∧∃ L,MapIs enP w b2 L∧Known r L
def precV (b1 b2:Nat):Value:=.agg #[.map (some b1),.map (some b2)]
theorem Ranks.move {w w':World} {b:Nat} {r:Int→Int} (h:Ranks w b r) (hb:w'.heap[b]?=w.heap[b]?):Ranks w' b r:=by
  obtain ⟨L,h1,h2⟩:=h
  exact ⟨L,h1.move hb,h2⟩
theorem Ranks.lt {w:World} {b:Nat} {r:Int→Int} (h:Ranks w b r):b < w.heap.size:=by
  obtain ⟨L,h1,h2⟩:=h
  exact h1.lt
theorem Prec.below {w w':World} {r:Int→Int} {b1 b2:Nat} (h:Prec w r b1 b2) (hb:Below w.heap.size w w'):Prec w' r b1 b2:=by
  obtain ⟨h1,h2,L,h3,h4⟩:=h
  exact ⟨h1.move (hb.block _ h1.lt),h2,L,h3.below hb,h4⟩
theorem getL_putG {α:Type} [DecidableEq α] {L:List (α × Value)} {a c:α} {v:Value}:getL (putL L a v) c=if c=a then some v else getL L c:=by
  induction L with
  | nil =>
    simp only [putL,getL,List.find?_cons,List.find?_nil]
    by_cases h:a=c
    · subst h;simp
    · simp [h,show ¬ c=a from fun e=>h e.symm]
  | cons q L ih =>
    simp only [putL]
    split
    · rename_i hq
      simp only [getL,List.find?_cons]
      by_cases h:a=c
      · subst h;simp
      · have:¬ q.1=c:=fun e=>h (hq.symm.trans e)
        simp [h,this,show ¬ c=a from fun e=>h e.symm]
    · rename_i hq
      simp only [getL,List.find?_cons] at ih ⊢
      by_cases h:q.1=c
      · have:¬ c=a:=fun e=>hq (h.trans e)
        simp [h,this]
      · simp only [h,decide_false]
        exact ih
theorem Known.put {r:Int→Int} {L:List ((ByteArray × ByteArray) × Value)} (h:Known r L) {a b:Tm} (ha:a.good) (hb:b.good):Known r (putL L (a.text,b.text) (.bool (gt r a b))):=by
  intro a' b' v ha' hb' hv
  rw [getL_putG] at hv
  split at hv
  · rename_i e
    injection e with e1 e2
    injection hv with hv
    rw [←hv,text_inj ha' ha e1,text_inj hb' hb e2]
  · exact h a' b' v ha' hb' hv
theorem zero4 (w:World):(zeroValue 4).run Tryz.prog w=.ok (.bool false) w:=by kernel_rfl
theorem look1 {w:World} {m:Nat} {L:List ((ByteArray × ByteArray) × Value)} (h:MapIs enP w m L) (x y:ByteArray):(Instr.lookup 118 (.map (some m)) (.agg #[.string x,.string y]) true).run Tryz.prog w=.ok (.tuple #[(getL L (x,y)).getD (.bool false),.bool (getL L (x,y)).isSome]) w:=by
  have:=MapIs.lookup keyd42 Tryz.underlying118 zero4 h (x,y) true
  unfold enP at this
  simpa using this
theorem look2 {w:World} {m:Nat} {L:List ((ByteArray × ByteArray) × Value)} (h:MapIs enP w m L) (x y:ByteArray):(Instr.lookup 118 (.map (some m)) (.agg #[.string x,.string y]) false).run Tryz.prog w=.ok ((getL L (x,y)).getD (.bool false)) w:=by
  have:=MapIs.lookup keyd42 Tryz.underlying118 zero4 h (x,y) false
  unfold enP at this
  simpa using this
def CmpOk (F:Nat) (r:Int→Int) (a b:Tm):Prop:=∀ (p q:Nat × Value) (w:World) (ok ok':Nat→Prop) (b1 b2:Nat),Has w ok a p→Has w ok' b q→Prec w r b1 b2 →
  Calls Tryz.prog F #[precV b1 b2,encI p,encI q] w fun e w'=>e=.returned (.bool (gt r a b))∧But b2 w w'∧Prec w' r b1 b2
set_option maxRecDepth 100000 in
set_option maxHeartbeats 2000000 in
theorem greater_of (r:Int→Int) (a b:Tm) (ha:a.good) (hb:b.good) (hsa:a.size≤1000000) (hsb:b.size≤1000000) (hc:CmpOk 130 r a b):CmpOk 93 r a b:=by
  intro p q w ok ok' b1 b2 hp hq hP
  obtain ⟨hr,hne,L,hL,hK⟩:=hP
  have hpa:=hp.apart hL
  have hqa:=hq.apart hL
  have hb2l:=hL.lt
  have hta:=fun w' h=>text_calls a p w' (fun k=>k≠b2) h ha hsa
  have htb:=fun w' h=>text_calls b q w' (fun k=>k≠b2) h hb hsb
  obtain ⟨g,hg⟩:∃ g,g=gt r a b:=⟨_,rfl⟩
  obtain ⟨tid,pv⟩:=p
  obtain ⟨tid2,pv2⟩:=q
  obtain ⟨F,hF⟩:∃ F,F=txF (tid,pv):=⟨_,rfl⟩
  have hm1:∀ w,(method 337 tid pv "numnah/rules.text").run Tryz.prog w=.ok (F,pv) w:=hF ▸ meth_text hp
  have hm2:∀ args w,(callFunc F args).run Tryz.prog w=.ok (.enter F args) w:=hF ▸ enters_text hp
  obtain ⟨G,hG⟩:∃ G,G=txF (tid2,pv2):=⟨_,rfl⟩
  have hn1:∀ w,(method 337 tid2 pv2 "numnah/rules.text").run Tryz.prog w=.ok (G,pv2) w:=hG ▸ meth_text hq
  have hn2:∀ args w,(callFunc G args).run Tryz.prog w=.ok (.enter G args) w:=hG ▸ enters_text hq
  rw [←hF] at hta
  rw [←hG] at htb
  clear hF hG hp hq
  have hBx:Below w.heap.size w (w.alloc (.cells #[.map (some b1),.map (some b2)] 120)):=below_alloc (Below.refl _ _) _
  have hcc:=fun w' h1 h2 h3=>hc (tid,pv) (tid2,pv2) w' (fun k=>k≠b2) (fun k=>k≠b2) b1 b2 h1 h2 h3
  have hBk:(w.alloc (.cells #[.map (some b1),.map (some b2)] 120)).heap[w.heap.size]?=some (.cells #[.map (some b1),.map (some b2)] 120 (0,0)):=blk_new w _
  have HBK:=Aside0.mk hBk
  clear hBk
  cases hgl:getL L (a.text,b.text) with
  | some v =>
    obtain rfl:=hK a b v ha hb hgl
    have hP:Prec w r b1 b2:=⟨hr,hne,L,hL,hK⟩
    have HLK:=Aside0.mk (fun (w':World) (h:MapIs enP w' b2 L)=>And.intro (by have:=look1 h a.text b.text;rw [hgl] at this;exact this) (by have:=look2 h a.text b.text;rw [hgl] at this;exact this):∀ w',MapIs enP w' b2 L→(Instr.lookup 118 (.map (some b2)) (.agg #[.string a.text,.string b.text]) true).run Tryz.prog w'=.ok (.tuple #[.bool (gt r a b),.bool true]) w'∧(Instr.lookup 118 (.map (some b2)) (.agg #[.string a.text,.string b.text]) false).run Tryz.prog w'=.ok (.bool (gt r a b)) w')
    rw [←hg] at HLK ⊢
    have HH:=Aside0.mk (And.intro hP (And.intro hpa (And.intro hqa hL)))
    have HTA:=Aside0.mk hta
    have HTB:=Aside0.mk htb
    clear hr hne hL hK hgl hP hpa hqa hcc hta htb hg hc ha hb hsa hsb
    unfold precV encI
    generalize a.text=ta at *
    generalize b.text=tb at *
    go_enter Tryz.func93,Tryz.ntmps93
    go_wp2_with (first
      | (refine (HTA.out _ (HH.out.2.1.below hBx)).mono ?_;rintro e w2 ⟨rfl,h2⟩;have H2:=Aside0.mk (And.intro (below_on hBx h2) (blk_below HBK.out h2));clear h2 hBx)
      | (refine (HTB.out _ (HH.out.2.2.1.below H2.out.1)).mono ?_;rintro e w3 ⟨rfl,h3⟩;have H3:=Aside0.mk (below_on H2.out.1 h3);have hx0:=blk_cell (blk_alloc (blk_below H2.out.2 h3) (.cells #[.string ta,.string tb] 42)) 0;have hx1:(w3.alloc (.cells #[.string ta,.string tb] 42)).cell? ⟨w.heap.size,1,none⟩=some (.map (some b2)):=blk_cell (blk_alloc (blk_below H2.out.2 h3) (.cells #[.string ta,.string tb] 42)) 1;have hk1:=(HLK.out (w3.alloc (.cells #[.string ta,.string tb] 42)) (HH.out.2.2.2.below (below_alloc H3.out _))).1;have hk2:=(HLK.out (w3.alloc (.cells #[.string ta,.string tb] 42)) (HH.out.2.2.2.below (below_alloc H3.out _))).2;clear h3 H2))
    go_ret
    exact ⟨rfl,But.of_below (below_alloc H3.out _),HH.out.1.below (below_alloc H3.out _)⟩
  | none =>
    have HLK:=Aside0.mk (fun (w':World) (h:MapIs enP w' b2 L)=>(by have:=look1 h a.text b.text;rw [hgl] at this;exact this):∀ w',MapIs enP w' b2 L→(Instr.lookup 118 (.map (some b2)) (.agg #[.string a.text,.string b.text]) true).run Tryz.prog w'=.ok (.tuple #[.bool false,.bool false]) w')
    have hP:Prec w r b1 b2:=⟨hr,hne,L,hL,hK⟩
    have hup:∀ w',Prec w' r b1 b2→∃ o,(Instr.mapUpdate 118 (.map (some b2)) (.agg #[.string a.text,.string b.text]) (.bool g)).run Tryz.prog w'=.ok () (blockSet w' b2 o)∧Prec (blockSet w' b2 o) r b1 b2∧(Instr.lookup 118 (.map (some b2)) (.agg #[.string a.text,.string b.text]) false).run Tryz.prog (blockSet w' b2 o)=.ok (.bool g) (blockSet w' b2 o):=by
      rintro w' ⟨h1,h2,L',h3,h4⟩
      obtain ⟨o,ho,hm⟩:=MapIs.update keyd42 Tryz.underlying118 h3 (a.text,b.text) (.bool g)
      refine ⟨o,ho,⟨h1.move (set_other o h2),h2,_,hm,by rw [hg];exact h4.put ha hb⟩,?_⟩
      have:=look2 hm a.text b.text
      rw [getL_putG,if_pos rfl] at this
      exact this
    rw [←hg] at hcc ⊢
    have HH:=Aside0.mk (And.intro hP (And.intro hpa (And.intro hqa hL)))
    have HTA:=Aside0.mk hta
    have HTB:=Aside0.mk htb
    have HUP:=Aside0.mk hup
    have HCC:=Aside0.mk hcc
    have HBL:=Aside0.mk hb2l
    clear hr hne hL hK hgl hP hpa hqa hcc hta htb hg hc ha hb hsa hsb hup hb2l
    unfold precV encI at *
    generalize a.text=ta at *
    generalize b.text=tb at *
    go_enter Tryz.func93,Tryz.ntmps93
    go_wp2_with (first
      | (go_at_call 130;refine (HCC.out _ (HH.out.2.1.below (below_alloc H3.out _)) (HH.out.2.2.1.below (below_alloc H3.out _)) (HH.out.1.below (below_alloc H3.out _))).mono ?_;rintro e w5 ⟨rfl,h5,h6⟩;obtain ⟨o,ho,hP7,hk7⟩:=HUP.out w5 h6;have HU:=Aside0.mk hP7;have e1:=(h5.block _ (gl_ HB3.out) (Nat.ne_of_gt HBL.out)).trans HB3.out;have e2:=(h5.block _ (Array.getElem?_eq_some_iff.1 (blk_new w3 (.cells #[.string ta,.string tb] 42))).1 (Nat.ne_of_gt (Nat.lt_of_lt_of_le HBL.out H3.out.size))).trans (blk_new w3 (.cells #[.string ta,.string tb] 42));have e3:=(set_other o (Nat.ne_of_gt HBL.out)).trans e1;have e4:=(set_other o (Nat.ne_of_gt (Nat.lt_of_lt_of_le HBL.out H3.out.size))).trans e2;have hy1:w5.cell? ⟨w.heap.size,1,none⟩=some (.map (some b2)):=blk_cell e1 1;have hy2:w5.cell? ⟨w3.heap.size,0,none⟩=some (.string ta):=blk_cell e2 0;have hy3:w5.cell? ⟨w3.heap.size,1,none⟩=some (.string tb):=blk_cell e2 1;have hy4:(blockSet w5 b2 o).cell? ⟨w.heap.size,1,none⟩=some (.map (some b2)):=blk_cell e3 1;have hy5:(blockSet w5 b2 o).cell? ⟨w3.heap.size,0,none⟩=some (.string ta):=blk_cell e4 0;have hy6:(blockSet w5 b2 o).cell? ⟨w3.heap.size,1,none⟩=some (.string tb):=blk_cell e4 1;have HB5:=Aside0.mk h5;clear h5 h6 hP7 e1 e2 e3 e4)
      | (refine (HTA.out _ (HH.out.2.1.below hBx)).mono ?_;rintro e w2 ⟨rfl,h2⟩;have H2:=Aside0.mk (And.intro (below_on hBx h2) (blk_below HBK.out h2));clear h2 hBx)
      | (refine (HTB.out _ (HH.out.2.2.1.below H2.out.1)).mono ?_;rintro e w3 ⟨rfl,h3⟩;have H3:=Aside0.mk (below_on H2.out.1 h3);have hx0:=blk_cell (blk_alloc (blk_below H2.out.2 h3) (.cells #[.string ta,.string tb] 42)) 0;have hx1:(w3.alloc (.cells #[.string ta,.string tb] 42)).cell? ⟨w.heap.size,1,none⟩=some (.map (some b2)):=blk_cell (blk_alloc (blk_below H2.out.2 h3) (.cells #[.string ta,.string tb] 42)) 1;have hk1:=HLK.out (w3.alloc (.cells #[.string ta,.string tb] 42)) (HH.out.2.2.2.below (below_alloc H3.out _));have HB3:=Aside0.mk (blk_alloc (blk_below H2.out.2 h3) (.cells #[.string ta,.string tb] 42));clear h3 H2))
    go_ret
    exact ⟨rfl,((But.of_below (below_alloc H3.out _)).trans HB5.out).trans (but_blockSet _ _ _),HU.out⟩
section
attribute [local go_sem] asVV asVC asCC asCV
set_option maxRecDepth 100000 in
set_option maxHeartbeats 2000000 in
theorem cmp_var (r:Int→Int) (a:Tm) (v:Int) (ha:a.good) (hsa:a.size≤1000000):CmpOk 130 r a (.var v):=by
  intro p q w ok ok' b1 b2 hp hq hP
  rw [Has.var_] at hq
  subst hq
  have hB:Below w.heap.size w (w.alloc (.cells #[.map (some b1),.map (some b2)] 120)):=below_alloc (Below.refl _ _) _
  have hoc:=occurs_calls v a p (w.alloc (.cells #[.map (some b1),.map (some b2)] 120)) ok (hp.below hB) ha hsa
  have HP:=Aside0.mk (And.intro hP hB)
  cases a with
  | var c =>
    rw [Has.var_] at hp
    subst hp
    rw [gt_var]
    clear hP hB hoc ha hsa
    unfold precV encI
    go_enter Tryz.func130,Tryz.ntmps130
    go_wp2
    go_ret
    exact ⟨rfl,But.of_below HP.out.2,HP.out.1.below HP.out.2⟩
  | app s l =>
    have hp2:=Has.app_.1 hp
    obtain ⟨A,cap,rfl,hc,hL⟩:=hp2
    rw [gt_var]
    dsimp only
    have HO:=Aside0.mk hoc
    clear hP hB hoc ha hsa hp hL hc
    generalize occT v (.app s l)=g at *
    unfold precV encI at *
    go_enter Tryz.func130,Tryz.ntmps130
    go_wp2_with (go_at_call 121;refine HO.out.mono ?_;rintro e w2 ⟨rfl,hb⟩;have H2:=Aside0.mk (below_on HP.out.2 hb);clear hb)
    go_ret
    exact ⟨rfl,But.of_below H2.out,HP.out.1.below H2.out⟩
set_option maxRecDepth 100000 in
set_option maxHeartbeats 2000000 in
theorem cmp_va (r:Int→Int) (c s:Int) (l:List Tm):CmpOk 130 r (.var c) (.app s l):=by
  intro p q w ok ok' b1 b2 hp hq hP
  rw [Has.var_] at hp
  subst hp
  obtain ⟨A,cap,rfl,hc,hL⟩:=Has.app_.1 hq
  have hB:∀ o,Below w.heap.size w ((w.alloc (.cells #[.map (some b1),.map (some b2)] 120)).alloc o):=fun o=>below_alloc (below_alloc (Below.refl _ _) _) o
  have HP:=Aside0.mk (And.intro hP hB)
  rw [gt_va]
  clear hP hB hc hL hq
  unfold precV encI
  go_enter Tryz.func130,Tryz.ntmps130
  go_wp2
  go_ret
  exact ⟨rfl,But.of_below (HP.out.2 _),HP.out.1.below (HP.out.2 _)⟩
end
theorem gA1 {r:Int→Int} {s s':Int} {l l':List Tm} (i:Nat) (hi:i < l.length) (h:(sameB l[i] (.app s' l') || gt r l[i] (.app s' l'))=true):gt r (.app s l) (.app s' l')=true:=by
 rw [gt_app,if_pos (List.any_eq_true.2 ⟨l[i],List.getElem_mem hi,h⟩)]
theorem gA2 {r:Int→Int} {s s':Int} {l l':List Tm} (h:∀ i (hi:i < l.length),(sameB l[i] (.app s' l') || gt r l[i] (.app s' l'))=false):gt r (.app s l) (.app s' l')=(if r s > r s' then false else if !(l'.all (fun u=>gt r (.app s l) u)) then false else if s≠s' then true else lexF (gt r) l l'):=by
 rw [gt_app,if_neg (by
  intro hh
  obtain ⟨x,hx,h2⟩:=List.any_eq_true.1 hh
  obtain ⟨i,hi,rfl⟩:=List.getElem_of_mem hx
  rw [h i hi] at h2
  cases h2)]
theorem gB1 {r:Int→Int} {s s':Int} {l l':List Tm} (h:∀ i (hi:i < l.length),(sameB l[i] (.app s' l') || gt r l[i] (.app s' l'))=false) (i:Nat) (hi:i < l'.length) (hg:gt r (.app s l) l'[i]=false):gt r (.app s l) (.app s' l')=false:=by
 rw [gA2 h]
 split
 ·rfl
 ·have:(l'.all fun u=>gt r (.app s l) u)=false:=List.all_eq_false.2 ⟨l'[i],List.getElem_mem hi,by rw [hg];simp⟩
  rw [this]
  rfl
theorem gB2 {r:Int→Int} {s s':Int} {l l':List Tm} (h:∀ i (hi:i < l.length),(sameB l[i] (.app s' l') || gt r l[i] (.app s' l'))=false) (hr:¬ r s > r s') (hg:∀ i (hi:i < l'.length),gt r (.app s l) l'[i]=true):gt r (.app s l) (.app s' l')=(if s≠s' then true else lexF (gt r) l l'):=by
 have:(l'.all fun u=>gt r (.app s l) u)=true:=List.all_eq_true.2 (fun x hx=>by
  obtain ⟨i,hi,rfl⟩:=List.getElem_of_mem hx
  exact hg i hi)
 rw [gA2 h,if_neg hr,this]
 rfl
theorem lex1 {g:Tm→Tm→Bool}:∀ (l m:List Tm) (i:Nat) (hi:i < l.length) (hj:i < m.length),(∀ j (h1:j < l.length) (h2:j < m.length),j < i→sameB l[j] m[j]=true)→sameB l[i] m[i]=false→lexF g l m=g l[i] m[i]
 | t :: ts,u :: us,0,hi,hj,h,hn=>by
  rw [lexF,if_neg (by simpa using hn)]
  rfl
 | t :: ts,u :: us,i+1,hi,hj,h,hn=>by
  have h0:=h 0 (by simp) (by simp) (by omega)
  rw [lexF,if_pos (by simpa using h0),lex1 ts us i (by simpa using hi) (by simpa using hj) (fun j h1 h2 hji=>by
   have:=h (j+1) (by simpa using h1) (by simpa using h2) (by omega)
   simpa using this) (by simpa using hn)]
  rfl
theorem lex2 {g:Tm→Tm→Bool}:∀ (l m:List Tm),(∀ j (h1:j < l.length) (h2:j < m.length),sameB l[j] m[j]=true)→lexF g l m=false
 | [],[],h=>rfl
 | [],_ :: _,h=>rfl
 | _ :: _,[],h=>rfl
 | t :: ts,u :: us,h=>by
  have h0:=h 0 (by simp) (by simp)
  rw [lexF,if_pos (by simpa using h0)]
  exact lex2 ts us (fun j h1 h2=>by
   have:=h (j+1) (by simpa using h1) (by simpa using h2)
   simpa using this)
def StW (w wx:World) (r:Int→Int) (b1 b2:Nat) (s:Int) (A:Option Addr) (n cap:Nat):Prop :=
 But b2 w wx∧Prec wx r b1 b2∧wx.heap[w.heap.size]?=some (.cells #[.map (some b1),.map (some b2)] 120 (0,0))∧wx.heap[w.heap.size+1]?=some (.cells #[.int .u8 s,.slice A n cap] 149 (0,0))∧b2 < w.heap.size
theorem StW.but {w wx wy:World} {r:Int→Int} {b1 b2:Nat} {s:Int} {A:Option Addr} {n cap:Nat} (h:StW w wx r b1 b2 s A n cap) (hb:But b2 wx wy) (hP:Prec wy r b1 b2):StW w wy r b1 b2 s A n cap:=by
 obtain ⟨h1,h2,h3,h4,h5⟩:=h
 exact ⟨h1.trans hb,hP,(hb.block _ (gl_ h3) (by omega)).trans h3,(hb.block _ (gl_ h4) (by omega)).trans h4,h5⟩
theorem StW.below {w wx wy:World} {r:Int→Int} {b1 b2:Nat} {s:Int} {A:Option Addr} {n cap:Nat} (h:StW w wx r b1 b2 s A n cap) (hb:Below wx.heap.size wx wy):StW w wy r b1 b2 s A n cap:=h.but (But.of_below hb) (h.2.1.below hb)
theorem StW.blk {w wx:World} {r:Int→Int} {b1 b2:Nat} {s:Int} {A:Option Addr} {n cap:Nat} (h:StW w wx r b1 b2 s A n cap) {g:Nat} {o:Obj} (hg:w.heap[g]?=some o) (hne:g≠b2):wx.heap[g]?=some o:=(h.1.block g (gl_ hg) hne).trans hg
theorem asC0 (v:Value) (w:World):(Instr.typeAssert (.iface 149 v) 99 149 false).run Tryz.prog w=.ok v w:=by kernel_rfl
theorem zero3' (w:World):(zeroValue 3).run Tryz.prog w=.ok (.int .i64 0) w:=by kernel_rfl
theorem lookR {w:World} {b:Nat} {r:Int→Int} (h:Ranks w b r) (c:Int) (hc:97≤c∧c≤102):(Instr.lookup 117 (.map (some b)) (.int .u8 c) false).run Tryz.prog w=.ok (.int .i64 (r c)) w:=by
 obtain ⟨L,h1,h2⟩:=h
 have:=MapIs.lookup keyd5 Tryz.underlying117 zero3' h1 c false
 unfold enB at this
 rw [h2 c hc] at this
 simpa using this
section
attribute [local go_sem] asVV asVC asCC asCV asC0
set_option maxRecDepth 100000 in
set_option maxHeartbeats 8000000 in
theorem cmp_app (r:Int→Int) (s:Int) (l:List Tm) (s':Int) (l':List Tm) (ha:(Tm.app s l).good) (hb:(Tm.app s' l').good) (hsa:(Tm.app s l).size≤1000000) (hsb:(Tm.app s' l').size≤1000000)
  (hIH:∀ x y,x.good→y.good→x.size+y.size < (Tm.app s l).size+(Tm.app s' l').size→CmpOk 93 r x y):CmpOk 130 r (.app s l) (.app s' l'):=by
 intro p q w ok ok' b1 b2 hp hq hP
 obtain ⟨hr,hne,L,hL,hK⟩:=hP
 have hpa:=hp.apart hL
 have hqa:=hq.apart hL
 have hb2l:=hL.lt
 have hP:Prec w r b1 b2:=⟨hr,hne,L,hL,hK⟩
 obtain ⟨A,cap,rfl,hc,hLa⟩:=Has.app_.1 hpa
 obtain ⟨B,capB,rfl,hcB,hLb⟩:=Has.app_.1 hqa
 have hla:=good_len ha
 have hlb':=good_len hb
 have hga:=ha
 have hgb:=hb
 rw [Tm.good] at hga hgb
 have ea:=Tm.size.eq_2 s l
 have eb:=Tm.size.eq_2 s' l'
 have hs0:StW w ((w.alloc (.cells #[.map (some b1),.map (some b2)] 120)).alloc (.cells #[.int .u8 s,.slice A l.length cap] 149)) r b1 b2 s A l.length cap :=
  ⟨But.of_below (below_alloc (below_alloc (Below.refl _ _) _) _),hP.below (below_alloc (below_alloc (Below.refl _ _) _) _),blk_alloc (blk_new w _) _,blk_new1' w _ _,hb2l⟩
 obtain ⟨g,hg⟩:∃ g,g=gt r (.app s l) (.app s' l'):=⟨_,rfl⟩
 have h1:∀ i (hi:i < l.length),(sameB l[i] (.app s' l') || gt r l[i] (.app s' l'))=true→g=true:=fun i hi h=>hg.trans (gA1 i hi h)
 have h2:(∀ i (hi:i < l.length),(sameB l[i] (.app s' l') || gt r l[i] (.app s' l'))=false)→r s > r s'→g=false:=fun h hr=>by rw [hg,gA2 h,if_pos hr]
 have h3:(∀ i (hi:i < l.length),(sameB l[i] (.app s' l') || gt r l[i] (.app s' l'))=false)→∀ i (hi:i < l'.length),gt r (.app s l) l'[i]=false→g=false:=fun h i hi hh=>hg.trans (gB1 h i hi hh)
 have h4:(∀ i (hi:i < l.length),(sameB l[i] (.app s' l') || gt r l[i] (.app s' l'))=false)→¬ r s > r s'→(∀ i (hi:i < l'.length),gt r (.app s l) l'[i]=true)→g=(if s≠s' then true else lexF (gt r) l l'):=fun h hr hh=>hg.trans (gB2 h hr hh)
 have HG:=Aside0.mk (And.intro h1 (And.intro h2 (And.intro h3 h4)))
 rw [←hg]
 have hsame:=fun (x:Tm) (qx:Nat × Value) (w':World) (okx:Nat→Prop) (hx:Has w' okx x qx) (hB:Has w' (fun k=>k≠b2) (.app s' l') (149,.agg #[.int .u8 s',.slice B l'.length capB])) (hgx:x.good) (hsx:x.size≤1000000)=>same_calls x (.app s' l') qx (149,.agg #[.int .u8 s',.slice B l'.length capB]) w' okx _ hx hB hgx hb hsx hsb
 have HK:=Aside0.mk (And.intro hpa (And.intro hqa (And.intro hLa (And.intro hLb (And.intro hla (And.intro hlb' (And.intro hga (And.intro hgb (And.intro ea (And.intro eb (And.intro hsa (And.intro hsb (And.intro hIH (And.intro ha hb))))))))))))))
 have HSM:=Aside0.mk hsame
 have HS0:=Aside0.mk hs0
 clear hr hne hL hK hpa hqa hp hq hb2l hP hLa hLb hla hlb' hga hgb ea eb hsa hsb hIH ha hb hs0 hg h1 h2 h3 h4 hsame hc hcB
 unfold encI
 unfold precV
 go_enter Tryz.func130,Tryz.ntmps130
 go_wp2
 go_loopw [48] (fun v48 wr=>∃ i:Nat,v48=.int .i64 (i:Int)∧Aside0 (i≤l.length)∧Aside0 (∀ j (hj:j < l.length),j < i→(sameB l[j] (.app s' l') || gt r l[j] (.app s' l'))=false)∧Aside0 (StW w wr r b1 b2 s A l.length cap)) (fun v48 _=>l.length - (intOf v48).toNat)
 case atStart=>exact ⟨0,rfl,⟨Nat.zero_le _⟩,⟨fun j hj h=>absurd h (Nat.not_lt_zero _)⟩,HS0⟩
 case round =>
  obtain ⟨i,rfl,HI,HA,HS⟩:=hrel
  obtain ⟨hpa,hqa,hLa,hLb,hla,hlb',hga,hgb,ea,eb,hsa,hsb,hIH,ha,hb⟩:=HK.out
  by_cases hlt:i < l.length
  ·have hlb:decide ((i:Int) < (l.length:Int))=true:=decide_eq_true (by omega)
   obtain ⟨g1,cs,qx,rfl,hgne,hgc,hcs,hqx⟩:=hLa.get i hlt
   rw [Nat.zero_add] at hcs
   have hcell:wr.cell? ⟨g1,i,none⟩=some (encI qx):=(blk_cell (HS.out.blk hgc hgne) i).trans hcs
   have hm:=List.getElem_mem hlt
   have hgx:=goods_mem hga.2.2 hm
   have hsx:=sizes_mem l _ hm
   have hA1:=HG.out.1 i hlt
   have hx0:=blk_cell HS.out.2.2.1 0
   have hx1:wr.cell? ⟨w.heap.size,1,none⟩=some (.map (some b2)):=blk_cell HS.out.2.2.1 1
   have hAi:=HA.out
   have HX:=Aside0.mk (And.intro (HSM.out l[i] qx wr _ (hqx.but HS.out.1 (fun k hk=>hk)) (hqa.but HS.out.1 (fun k hk=>hk)) hgx (by omega)) (And.intro (fun (w':World) (h:But b2 w w')=>And.intro (hqx.but h (fun k hk=>hk)) (hqa.but h (fun k hk=>hk))) (hIH l[i] _ hgx hb (by omega))))
   have hnx:(sameB l[i] (.app s' l') || gt r l[i] (.app s' l'))=false→∀ j (hj:j < l.length),j < i+1→(sameB l[j] (.app s' l') || gt r l[j] (.app s' l'))=false:=fun h j hj hji=>by
    by_cases e:j=i
    ·subst e;exact h
    ·exact hAi j hj (by omega)
   have hw1:=wr4 i (Nat.lt_of_lt_of_le hlt (Nat.le_trans hla (by decide)))
   have HN:=Aside0.mk (And.intro hA1 hnx)
   clear hpa hqa hLa hLb hla hlb' hga hgb ea eb hsa hsb hIH ha hb hgc hcs hqx hgne hm hgx hsx hA1 hAi hnx HI HA
   obtain ⟨tid,pv⟩:=qx
   unfold CmpOk at HX
   unfold encI at hcell HX
   unfold precV at HX
   generalize l[i]=x at *
   generalize sameB x (.app s' l')=sb at *
   generalize gt r x (.app s' l')=gx at *
   cases sb with
   | true =>
    obtain rfl:g=true:=HN.out.1 rfl
    go_wp2_with (go_at_call 125;refine HX.out.1.mono ?_;rintro e w2 ⟨rfl,hb⟩;have H2:=Aside0.mk (HS.out.below hb);clear hb)
    go_ret
    exact ⟨rfl,H2.out.1,H2.out.2.1⟩
   | false =>
    cases gx with
    | true =>
     obtain rfl:g=true:=HN.out.1 rfl
     go_wp2_with (first
      | (go_at_call 125;refine HX.out.1.mono ?_;rintro e w2 ⟨rfl,hb⟩;have H2:=Aside0.mk (HS.out.below hb);have hx0:=blk_cell H2.out.2.2.1 0;have hx1:w2.cell? ⟨w.heap.size,1,none⟩=some (.map (some b2)):=blk_cell H2.out.2.2.1 1;clear hb)
      | (go_at_call 93;refine (HX.out.2.2 _ _ w2 _ _ _ _ (HX.out.2.1 w2 H2.out.1).1 (HX.out.2.1 w2 H2.out.1).2 H2.out.2.1).mono ?_;rintro e w3 ⟨rfl,hb,hP3⟩;have H3:=Aside0.mk (H2.out.but hb hP3);clear hb hP3))
     go_ret
     exact ⟨rfl,H3.out.1,H3.out.2.1⟩
    | false =>
     go_wp2_with (first
      | (go_at_call 125;refine HX.out.1.mono ?_;rintro e w2 ⟨rfl,hb⟩;have H2:=Aside0.mk (HS.out.below hb);have hx0:=blk_cell H2.out.2.2.1 0;have hx1:w2.cell? ⟨w.heap.size,1,none⟩=some (.map (some b2)):=blk_cell H2.out.2.2.1 1;clear hb)
      | (go_at_call 93;refine (HX.out.2.2 _ _ w2 _ _ _ _ (HX.out.2.1 w2 H2.out.1).1 (HX.out.2.1 w2 H2.out.1).2 H2.out.2.1).mono ?_;rintro e w3 ⟨rfl,hb,hP3⟩;have H3:=Aside0.mk (H2.out.but hb hP3);clear hb hP3))
     refine ⟨⟨i+1,by first|rfl|(rw [hw1];rfl),⟨hlt⟩,⟨by first|exact HN.out.2 rfl|exact HN.out.2 trivial⟩,H3⟩,?_⟩
     try rw [hw1]
     simp only [intOf]
     clear hw1
     omega
  ·have hlb:decide ((i:Int) < (l.length:Int))=false:=decide_eq_false (by omega)
   have hAll:∀ j (hj:j < l.length),(sameB l[j] (.app s' l') || gt r l[j] (.app s' l'))=false:=fun j hj=>HA.out j hj (by omega)
   have HALL:=Aside0.mk (And.intro (HG.out.2.1 hAll) (And.intro (HG.out.2.2.1 hAll) (HG.out.2.2.2 hAll)))
   have hx0:=blk_cell HS.out.2.2.1 0
   have hbB:∀ o,Below wr.heap.size wr (wr.alloc o):=fun o=>below_alloc (Below.refl _ _) o
   have hS2:=HS.out.below (hbB (.cells #[.int .u8 s',.slice B l'.length capB] 149))
   have hy0:=blk_cell hS2.2.2.1 0
   have hya:=blk_cell hS2.2.2.2.1 0
   have hl1:=lookR hS2.2.1.1 s hga.1
   have hl2:=lookR hS2.2.1.1 s' hgb.1
   have hbb:(wr.alloc (.cells #[.int .u8 s',.slice B l'.length capB] 149)).heap[wr.heap.size]?=some (.cells #[.int .u8 s',.slice B l'.length capB] 149 (0,0)):=blk_new wr _
   have hwz:w.heap.size≤wr.heap.size:=HS.out.1.size
   have HS2:=Aside0.mk (And.intro hS2 (And.intro hbb hwz))
   clear hpa hqa hLa hLb hla hlb' hga hgb ea eb hsa hsb hIH ha hb hAll hbB hS2 hbb hwz HI HA
   by_cases hrr:r s > r s'
   ·obtain rfl:g=false:=HALL.out.1 hrr
    go_wp2
    go_ret
    exact ⟨rfl,HS2.out.1.1,HS2.out.1.2.1⟩
   ·have hrd:decide (r s > r s')=false:=decide_eq_false hrr
    have HH:=Aside0.mk (And.intro HALL.out.2.1 (HALL.out.2.2 (by first|exact hrr|exact Int.not_lt.1 hrr)))
    go_wp2
    obtain ⟨bx,hbx⟩:∃ bx,bx=wr.heap.size:=⟨_,rfl⟩
    rw [←hbx] at HS2 ⊢
    clear HALL HS hx0 hy0 hya hl1 hl2 hlb hlt hrr hrd hbx
    go_loopw [78] (fun v78 wr=>∃ i:Nat,v78=.int .i64 (i:Int)∧Aside0 (i≤l'.length)∧Aside0 (∀ j (hj:j < l'.length),j < i→gt r (.app s l) l'[j]=true)∧Aside0 (StW w wr r b1 b2 s A l.length cap∧wr.heap[bx]?=some (.cells #[.int .u8 s',.slice B l'.length capB] 149 (0,0))∧w.heap.size≤bx)) (fun v78 _=>l'.length - (intOf v78).toNat)
    case atStart=>exact ⟨0,rfl,⟨Nat.zero_le _⟩,⟨fun j hj h=>absurd h (Nat.not_lt_zero _)⟩,HS2⟩
    case round =>
     obtain ⟨i,rfl,HI,HA,HS⟩:=hrel
     obtain ⟨hpa,hqa,hLa,hLb,hla,hlb',hga,hgb,ea,eb,hsa,hsb,hIH,ha,hb⟩:=HK.out
     have hx0:=blk_cell HS.out.1.2.2.1 0
     have hx1:wr.cell? ⟨w.heap.size,1,none⟩=some (.map (some b2)):=blk_cell HS.out.1.2.2.1 1
     by_cases hlt:i < l'.length
     ·have hlb:decide ((i:Int) < (l'.length:Int))=true:=decide_eq_true (by omega)
      obtain ⟨g1,cs,qx,rfl,hgne,hgc,hcs,hqx⟩:=hLb.get i hlt
      rw [Nat.zero_add] at hcs
      have hcell:wr.cell? ⟨g1,i,none⟩=some (encI qx):=(blk_cell (HS.out.1.blk hgc hgne) i).trans hcs
      have hm:=List.getElem_mem hlt
      have hgx:=goods_mem hgb.2.2 hm
      have hsx:=sizes_mem l' _ hm
      have hB1:=HH.out.1 i hlt
      have hAi:=HA.out
      have HX:=Aside0.mk (hIH _ l'[i] ha hgx (by omega) _ _ wr _ _ b1 b2 (hpa.but HS.out.1.1 (fun k hk=>hk)) (hqx.but HS.out.1.1 (fun k hk=>hk)) HS.out.1.2.1)
      have hnx:gt r (.app s l) l'[i]=true→∀ j (hj:j < l'.length),j < i+1→gt r (.app s l) l'[j]=true:=fun h j hj hji=>by
       by_cases e:j=i
       ·subst e;exact h
       ·exact hAi j hj (by omega)
      have hw1:=wr4 i (Nat.lt_of_lt_of_le hlt (Nat.le_trans hlb' (by decide)))
      have HN:=Aside0.mk (And.intro hB1 hnx)
      clear hpa hqa hLa hLb hla hlb' hga hgb ea eb hsa hsb hIH ha hb hgc hcs hqx hgne hm hgx hsx hB1 hAi hnx HI HA
      obtain ⟨tid,pv⟩:=qx
      unfold encI at hcell HX
      unfold precV at HX
      generalize l'[i]=x at *
      generalize gt r (.app s l) x=gx at *
      cases gx with
      | false =>
       obtain rfl:g=false:=HN.out.1 rfl
       go_wp2_with (go_at_call 93;refine HX.out.mono ?_;rintro e w3 ⟨rfl,hb,hP3⟩;have H3:=Aside0.mk (HS.out.1.but hb hP3);clear hb hP3)
       go_ret
       exact ⟨rfl,H3.out.1,H3.out.2.1⟩
      | true =>
       go_wp2_with (go_at_call 93;refine HX.out.mono ?_;rintro e w3 ⟨rfl,hb,hP3⟩;have H3:=Aside0.mk (And.intro (HS.out.1.but hb hP3) ((hb.block _ (gl_ HS.out.2.1) (Nat.ne_of_gt (Nat.lt_of_lt_of_le HS.out.1.2.2.2.2 HS.out.2.2))).trans HS.out.2.1));clear hb hP3)
       refine ⟨⟨i+1,by first|rfl|(rw [hw1];rfl),⟨hlt⟩,⟨by first|exact HN.out.2 rfl|exact HN.out.2 trivial⟩,⟨H3.out.1,H3.out.2,HS.out.2.2⟩⟩,?_⟩
       try rw [hw1]
       simp only [intOf]
       clear hw1
       omega
     ·have hlb:decide ((i:Int) < (l'.length:Int))=false:=decide_eq_false (by omega)
      have hAll:∀ j (hj:j < l'.length),gt r (.app s l) l'[j]=true:=fun j hj=>HA.out j hj (by omega)
      have hg2:=HH.out.2 hAll
      have hya:=blk_cell HS.out.1.2.2.2.1 0
      have hyb:=blk_cell HS.out.2.1 0
      have hya1:wr.cell? ⟨w.heap.size+1,1,none⟩=some (.slice A l.length cap):=blk_cell HS.out.1.2.2.2.1 1
      by_cases hss:s=s'
      ·subst hss
       have hg3:g=lexF (gt r) l l':=by rw [hg2,if_neg (fun h=>h rfl)]
       have hll:l.length=l'.length:=by omega
       have hC1:∀ i (hi:i < l.length) (hj:i < l'.length),(∀ j (h1:j < l.length) (h2:j < l'.length),j < i→sameB l[j] l'[j]=true)→sameB l[i] l'[i]=false→g=gt r l[i] l'[i]:=fun i hi hj h hn=>hg3.trans (lex1 l l' i hi hj h hn)
       have hC2:(∀ j (h1:j < l.length) (h2:j < l'.length),sameB l[j] l'[j]=true)→g=false:=fun h=>hg3.trans (lex2 l l' h)
       have HC:=Aside0.mk (And.intro hC1 (And.intro hC2 hll))
       have hsb2:(s != s)=false:=by simp
       clear hpa hqa hLa hLb hla hlb' hga hgb ea eb hsa hsb hIH ha hb hAll hg2 hg3 hC1 hC2 hll HI HA HH
       go_wp2
       go_loopw [96] (fun v96 wr=>∃ i:Nat,v96=.int .i64 (i:Int)∧Aside0 (i≤l.length)∧Aside0 (∀ j (h1:j < l.length) (h2:j < l'.length),j < i→sameB l[j] l'[j]=true)∧Aside0 (StW w wr r b1 b2 s A l.length cap∧wr.heap[bx]?=some (.cells #[.int .u8 s,.slice B l'.length capB] 149 (0,0))∧w.heap.size≤bx)) (fun v96 _=>l.length - (intOf v96).toNat)
       case atStart=>exact ⟨0,rfl,⟨Nat.zero_le _⟩,⟨fun j h1 h2 h=>absurd h (Nat.not_lt_zero _)⟩,HS⟩
       case round =>
        clear HS hx0 hx1 hya hyb hya1 hlt hlb hsb2
        obtain ⟨i,rfl,HI,HA,HS⟩:=hrel
        obtain ⟨hpa,hqa,hLa,hLb,hla,hlb',hga,hgb,ea,eb,hsa,hsb,hIH,ha,hb⟩:=HK.out
        by_cases hlt:i < l.length
        ·have hlb:decide ((i:Int) < (l.length:Int))=true:=decide_eq_true (by omega)
         have hltB:i < l'.length:=by rw [←HC.out.2.2];exact hlt
         have hltI:(i:Int) < (l'.length:Int):=Int.ofNat_lt.2 hltB
         obtain ⟨g1,cs,qx,rfl,hgne,hgc,hcs,hqx⟩:=hLa.get i hlt
         obtain ⟨g2,cs2,qy,rfl,hgne2,hgc2,hcs2,hqy⟩:=hLb.get i hltB
         rw [Nat.zero_add] at hcs hcs2
         have hcell:wr.cell? ⟨g1,i,none⟩=some (encI qx):=(blk_cell (HS.out.1.blk hgc hgne) i).trans hcs
         have hcel2:wr.cell? ⟨g2,i,none⟩=some (encI qy):=(blk_cell (HS.out.1.blk hgc2 hgne2) i).trans hcs2
         have hbb1:wr.cell? ⟨bx,1,none⟩=some (.slice (some ⟨g2,0,none⟩) l'.length capB):=blk_cell HS.out.2.1 1
         have hm:=List.getElem_mem hlt
         have hm2:=List.getElem_mem hltB
         have hgx:=goods_mem hga.2.2 hm
         have hgy:=goods_mem hgb.2.2 hm2
         have hsx:=sizes_mem l _ hm
         have hsy:=sizes_mem l' _ hm2
         have hC1:=HC.out.1 i hlt hltB HA.out
         have hAi:=HA.out
         have HHx:=Aside0.mk (And.intro (hqx.but HS.out.1.1 (fun k hk=>hk)) (hqy.but HS.out.1.1 (fun k hk=>hk)))
         have HSM2:=Aside0.mk (same_calls l[i] l'[i] qx qy wr _ _ HHx.out.1 HHx.out.2 hgx hgy (by omega) (by omega))
         have hGT:∀ w',Prec w' r b1 b2→Has w' (fun k=>k≠b2) l[i] qx→Has w' (fun k=>k≠b2) l'[i] qy→Calls Tryz.prog 93 #[precV b1 b2,encI qx,encI qy] w' fun e w''=>e=.returned (.bool (gt r l[i] l'[i]))∧But b2 w' w''∧Prec w'' r b1 b2:=fun w' hP hx hy=>hIH l[i] l'[i] hgx hgy (by omega) qx qy w' _ _ b1 b2 hx hy hP
         have HGT:=Aside0.mk hGT
         have hnx:sameB l[i] l'[i]=true→∀ j (h1:j < l.length) (h2:j < l'.length),j < i+1→sameB l[j] l'[j]=true:=fun h j h1 h2 hji=>by
          by_cases e:j=i
          ·subst e;exact h
          ·exact hAi j h1 h2 (by omega)
         have hw1:=wr4 i (Nat.lt_of_lt_of_le hlt (Nat.le_trans hla (by decide)))
         have HN:=Aside0.mk (And.intro hC1 hnx)
         have HG2:=Aside0.mk (And.intro (HS.out.1.blk hgc2 hgne2) (And.intro hcs2 hgne2))
         clear hpa hqa hLa hLb hla hlb' hga hgb ea eb hsa hsb hIH ha hb hgc hcs hqx hgne hm hgx hsx hC1 hAi hnx HI HA hGT hgc2 hcs2 hgne2 hqy hm2 hgy hsy
         obtain ⟨tid,pv⟩:=qx
         obtain ⟨tid2,pv2⟩:=qy
         unfold encI at hcell hcel2 HSM2 HGT
         generalize l[i]=x at *
         generalize l'[i]=y at *
         clear hltB
         generalize gt r x y=gx at *
         generalize sameB x y=sb at *
         cases sb with
         | true =>
          go_wp2_with (go_at_call 125;refine HSM2.out.mono ?_;rintro e w2 ⟨rfl,hb⟩;have H2:=Aside0.mk (And.intro (HS.out.1.below hb) ((hb.block _ (gl_ HS.out.2.1)).trans HS.out.2.1));clear hb)
          refine ⟨⟨i+1,by first|rfl|(rw [hw1];rfl),⟨hlt⟩,⟨by first|exact HN.out.2 rfl|exact HN.out.2 trivial⟩,⟨H2.out.1,H2.out.2,HS.out.2.2⟩⟩,?_⟩
          try rw [hw1]
          simp only [intOf]
          clear hw1
          omega
         | false =>
          obtain rfl:g=gx:=by first|exact HN.out.1 rfl|exact HN.out.1 trivial
          go_wp2_with (go_at_call 125;refine HSM2.out.mono ?_;rintro e w2 ⟨rfl,hb⟩;have H2:=Aside0.mk (And.intro (HS.out.1.below hb) (And.intro hb ((hb.block _ (gl_ HS.out.2.1)).trans HS.out.2.1)));clear hb)
          have HS3:=Aside0.mk (And.intro H2.out.1 (And.intro (HHx.out.1.below H2.out.2.1) (And.intro (HHx.out.2.below H2.out.2.1) H2.out.1.2.1)))
          have hy0:w2.drew.cell? ⟨w.heap.size,0,none⟩=some (.map (some b1)):=blk_cell (blk_drew H2.out.1.2.2.1) 0
          have hy1:w2.drew.cell? ⟨w.heap.size,1,none⟩=some (.map (some b2)):=blk_cell (blk_drew H2.out.1.2.2.1) 1
          have hy2:w2.drew.cell? ⟨bx,1,none⟩=some (.slice (some ⟨g2,0,none⟩) l'.length capB):=blk_cell (blk_drew H2.out.2.2) 1
          have hy3:w2.drew.cell? ⟨g2,i,none⟩=some (.iface tid2 pv2):=(blk_cell (blk_drew (blk_below HG2.out.1 H2.out.2.1)) i).trans HG2.out.2.1
          refine start_ (n:=9) (S:=fun w'=>w'.cell? ⟨w.heap.size,0,none⟩=some (.map (some b1))∧w'.cell? ⟨w.heap.size,1,none⟩=some (.map (some b2))∧w'.cell? ⟨bx,1,none⟩=some (.slice (some ⟨g2,0,none⟩) l'.length capB)∧w'.cell? ⟨g2,i,none⟩=some (.iface tid2 pv2)) (ds:=[7]) (bm 9 0) (by kernel_rfl) rfl rfl ⟨hy0,hy1,hy2,hy3⟩ (fun hHeld=>?_)
          refine pk_ 1 110 (bm 9 2) ?_
          refine pk_ 2 111 (bm 9 6) ?_
          refine pk_ 4 113 (bm 9 22) ?_
          refine take_ (i:=0) (N:=some 109) (v:=?_) (a':=?_) (bm 9 23) rfl rfl (by kernel_rfl) (fun _ _ _ h=>h) (Or.inl ⟨by rfl,?_⟩) hHeld ?_ ?_;rotate_left;(rintro w' ⟨s0,s1,s2,s3⟩;go_simp;with_reducible rfl);rotate_left;exact tP_
          refine take_ (i:=3) (N:=some 112) (v:=?_) (a':=?_) (bm 9 31) rfl rfl (by kernel_rfl) (fun _ _ _ h=>h) (Or.inl ⟨by rfl,?_⟩) hHeld ?_ ?_;rotate_left;(rintro w' ⟨s0,s1,s2,s3⟩;go_simp;with_reducible rfl);rotate_left;exact tP_
          refine pk_ 5 114 (bm 9 63) ?_
          refine take_ (i:=6) (N:=some 115) (v:=?_) (a':=?_) (bm 9 127) rfl rfl (by kernel_rfl) (fun _ _ _ h=>h) (Or.inl ⟨by rfl,?_⟩) hHeld ?_ ?_;rotate_left;(rintro w' ⟨s0,s1,s2,s3⟩;go_simp;with_reducible rfl);rotate_left;exact tP_
          refine last_ (i:=7) (N:=some 116) (bm 9 255) rfl rfl (by kernel_rfl) (by decide) (fun K hK=>?_)
          refine goesD_ Tryz.func93 (by kernel_rfl) rfl #[precV b1 b2,.iface tid pv,.iface tid2 pv2] (by rfl) rfl rfl (by simp only [List.map_toArray,List.map_cons,List.map_nil];rfl) ?_
          refine (HGT.out _ (HS3.out.2.2.2.below (below_draw _)) (HS3.out.2.1.below (below_draw _)) (HS3.out.2.2.1.below (below_draw _))).mono ?_
          rintro e w5 ⟨rfl,hb5,hP5⟩
          refine .inl ⟨_,rfl,?_⟩
          refine hK.out _ _ ?_
          clear hK K
          refine norm_ (a':=?_) ?_ ?_;rotate_left;(show Act.put _ (some 116) _=_;exact tP_)
          refine pk_ 8 6 (bm 9 511) ?_
          refine done_ (by kernel_rfl) ?_
          first|go_ret|(go_wp2;go_ret)|trace_state
          exact ⟨rfl,HS3.out.1.1.trans ((But.of_below (below_draw _)).trans hb5),hP5⟩
        ·have hlb:decide ((i:Int) < (l.length:Int))=false:=decide_eq_false (by omega)
         obtain rfl:g=false:=HC.out.2.1 (fun j h1 h2=>HA.out j h1 h2 (by omega))
         clear hpa hqa hLa hLb hla hlb' hga hgb ea eb hsa hsb hIH ha hb HI HA
         go_wp2
         go_ret
         exact ⟨rfl,HS.out.1.1,HS.out.1.2.1⟩
      ·obtain rfl:g=true:=by rw [hg2,if_pos hss]
       have hsb1:(s == s')=false:=beq_eq_false_iff_ne.2 hss
       have hsb2:(s != s')=true:=by rw [bne,hsb1];rfl
       clear hpa hqa hLa hLb hla hlb' hga hgb ea eb hsa hsb hIH ha hb hAll hg2 HI HA
       go_wp2
       go_ret
       exact ⟨rfl,HS.out.1.1,HS.out.1.2.1⟩
end
end Go.Proofs.YtaafeallcaiooaaGreat.Pr
namespace Go.Proofs.YtaafeallcaiooaaGreat.Pr
theorem cmp_all (r:Int→Int):∀ (n:Nat) (a b:Tm),a.good→b.good→a.size+b.size≤(n:Int)→n≤1000000→CmpOk 130 r a b:=by
  intro n
  induction n with
  | zero =>
    intro a b ha hb h _
    have h1:=a.size_pos
    have h2:=b.size_pos
    omega
  | succ n ih =>
    intro a b ha hb h hn
    have h1:=a.size_pos
    have h2:=b.size_pos
    cases b with
    | var v=>exact cmp_var r a v ha (by omega)
    | app s' l' =>
      cases a with
      | var c=>exact cmp_va r c s' l'
      | app s l =>
        refine cmp_app r s l s' l' ha hb (by omega) (by omega) (fun x y hx hy hlt=>?_)
        have h3:=x.size_pos
        have h4:=y.size_pos
        exact greater_of r x y hx hy (by omega) (by omega) (ih x y hx hy (by omega) (by omega))
theorem greater_all (r:Int→Int) (a b:Tm) (ha:a.good) (hb:b.good) (h:a.size+b.size≤1000000):CmpOk 93 r a b:=by
  have h1:=a.size_pos
  have h2:=b.size_pos
  exact greater_of r a b ha hb (by omega) (by omega) (cmp_all r 1000000 a b ha hb h (Nat.le_refl _))
open Go.RowKit Go.Proofs.Zw Go.Proofs.Zl Go.Proofs.Zm
theorem HasW.apart {α:Type} {enc:α→Value} {w:World} {ok:Nat→Prop} {ls:List (Tm × Tm)} {A:Option Addr} {b:Nat} {L:List (α × Value)} (h:HasW w ok ls A) (hm:MapIs enc w b L):HasW w (fun k=>k≠b) ls A:=by
  intro j hj
  obtain ⟨g,cs,p,q,h1,h2,h3,h4,h5,h6,h7⟩:=h j hj
  refine ⟨g,cs,p,q,h1,?_,h3,h4,h5,h6.apart hm,h7.apart hm⟩
  intro e
  obtain ⟨es,cl,hb,_⟩:=hm
  rw [e,hb] at h3
  cases h3
theorem HasW.but {w w':World} {b:Nat} {ls:List (Tm × Tm)} {A:Option Addr} (h:HasW w (fun k=>k≠b) ls A) (hb:But b w w'):HasW w' (fun k=>k≠b) ls A:=h.step (fun k hk hl=>⟨hk,hb.block k hl hk⟩)
def provT (r:Int→Int) (ls:List (Tm × Tm)):Bool:=!(ls.any fun l=>!gt r l.1 l.2)
theorem prov1_calls (r:Int→Int) (a b:Tm) (p q:Nat × Value) (B b1 b2:Nat) (w:World) (ok ok':Nat→Prop) (hp:Has w ok a p) (hq:Has w ok' b q) (ha:a.good) (hb:b.good) (hs:a.size+b.size≤1000000) (hB:w.heap[B]?=some (.cells #[.map (some b1),.map (some b2)] 120 (0,0))) (hP:Prec w r b1 b2) :
    Calls Tryz.prog 128 #[.agg #[encI p,encI q],.pointer (some ⟨B,0,none⟩)] w fun e w'=>e=.returned (.bool (!gt r a b))∧But b2 w w'∧Prec w' r b1 b2:=by
  have hB1:Below w.heap.size w (w.alloc (.cells #[encI p,encI q] 144)):=below_alloc (Below.refl _ _) _
  have hg:=greater_all r a b ha hb hs p q (w.alloc (.cells #[encI p,encI q] 144)) ok ok' b1 b2 (hp.below hB1) (hq.below hB1) (hP.below hB1)
  have hx0:(w.alloc (.cells #[encI p,encI q] 144)).cell? ⟨B,0,none⟩=some (.map (some b1)):=blk_cell (blk_alloc hB _) 0
  have hx1:(w.alloc (.cells #[encI p,encI q] 144)).cell? ⟨B,1,none⟩=some (.map (some b2)):=blk_cell (blk_alloc hB _) 1
  generalize gt r a b=g at *
  obtain ⟨t1,v1⟩:=p
  obtain ⟨t2,v2⟩:=q
  have HG:=Aside0.mk hg
  have HB:=Aside0.mk hB1
  clear hg hB1 hp hq ha hb hs hB hP
  unfold precV at HG
  unfold encI at *
  go_enter Tryz.func128,Tryz.ntmps128
  go_wp2_with (go_at_call 93;refine HG.out.mono ?_;rintro e w2 ⟨rfl,hb,hP⟩;have H2:=Aside0.mk (And.intro hb hP);clear hb hP)
  go_ret
  exact ⟨rfl,(But.of_below HB.out).trans H2.out.1,H2.out.2⟩
set_option maxRecDepth 100000 in
set_option maxHeartbeats 1000000 in
theorem indexLaw_calls (r:Int→Int) (ls:List (Tm × Tm)) (B b1 b2:Nat) (A:Option Addr) (cap:Nat) (w:World) (hL:HasW w (fun k=>k≠b2) ls A) (hls:LawsGood ls) (hln:ls.length≤1000) (hB:w.heap[B]?=some (.cells #[.map (some b1),.map (some b2)] 120 (0,0))) (hP:Prec w r b1 b2) (hne:B≠b2) :
    Calls Tryz.prog 147 #[.slice A ls.length cap,.func (.func 128) #[] #[.pointer (some ⟨B,0,none⟩)]] w fun e w'=>∃ k:Int,e=.returned (.int .i64 k)∧decide (k≥0)=ls.any (fun l=>!gt r l.1 l.2)∧But b2 w w'∧Prec w' r b1 b2:=by
  have HP:=Aside0.mk (And.intro hL (And.intro hls (And.intro hln (And.intro hB (And.intro hP hne)))))
  clear hL hls hln hB hP hne
  go_enter Tryz.func147,Tryz.ntmps147
  go_wp2
  go_loopw [8] (fun v8 wr=>∃ (i:Nat),v8=.int .i64 (i:Int)∧Aside0 (i≤ls.length)∧Aside0 ((ls.take i).any (fun l=>!gt r l.1 l.2)=false)∧Aside0 (But b2 w wr∧Prec wr r b1 b2)) (fun v8 _=>ls.length - (intOf v8).toNat)
  case atStart=>exact ⟨0,rfl,⟨Nat.zero_le _⟩,⟨rfl⟩,⟨But.refl _ _,HP.out.2.2.2.2.1⟩⟩
  case round =>
    obtain ⟨i,rfl,HI,HA,HB⟩:=hrel
    obtain ⟨hL,hls,hln,hB,hP,hne⟩:=HP.out
    by_cases hlt:i < ls.length
    · have hlb:decide ((i:Int) < (ls.length:Int))=true:=decide_eq_true (by omega)
      obtain ⟨g,cs,⟨t1,p1⟩,⟨t2,p2⟩,rfl,hg1,hg2,hc1,hc2,hl1,hl2⟩:=(hL.but HB.out.1) i hlt
      have hcell1:wr.cell? ⟨g,i * 2,none⟩=some (.iface t1 p1):=(blk_cell hg2 (i * 2)).trans hc1
      have hcell2:wr.cell? ⟨g,i * 2+1,none⟩=some (.iface t2 p2):=(blk_cell hg2 (i * 2+1)).trans hc2
      obtain ⟨hg3,hg4,hs3,hs4⟩:=hls _ (List.getElem_mem hlt)
      have hcall:=prov1_calls r ls[i].1 ls[i].2 (t1,p1) (t2,p2) B b1 b2 wr _ _ hl1 hl2 hg3 hg4 (by omega) ((HB.out.1.block B (gl_ hB) hne).trans hB) HB.out.2
      have hsn:(ls.take (i+1)).any (fun l=>!gt r l.1 l.2)=!gt r ls[i].1 ls[i].2:=by
        rw [List.take_succ_eq_append_getElem hlt,List.any_append,HA.out]
        simp
      have htr:(!gt r ls[i].1 ls[i].2)=true→ls.any (fun l=>!gt r l.1 l.2)=true:=fun h=>List.any_eq_true.2 ⟨ls[i],List.getElem_mem hlt,h⟩
      have w1i:wrap64 ((i:Int)+1)=(i:Int)+1:=wrS (by omega) (by omega)
      have HC:=Aside0.mk hcall
      have HH:=Aside0.mk (And.intro hsn htr)
      clear hcall hsn htr hL hls hln hB hP hne hg1 hg2 hc1 hc2 hl1 hl2 hg3 hg4 hs3 hs4
      unfold encI at HC
      generalize (!gt r ls[i].1 ls[i].2)=b at *
      cases b with
      | true =>
        go_wp2_with (go_at_call 128;refine HC.out.mono ?_;rintro e w1 ⟨rfl,hb,hP⟩;have H1:=Aside0.mk (And.intro hb hP);clear hb hP)
        go_ret
        exact ⟨_,rfl,(decide_eq_true (by omega)).trans (HH.out.2 (by simp)).symm,HB.out.1.trans H1.out.1,H1.out.2⟩
      | false =>
        go_wp2_with (go_at_call 128;refine HC.out.mono ?_;rintro e w1 ⟨rfl,hb,hP⟩;have H1:=Aside0.mk (And.intro hb hP);clear hb hP)
        rw [w1i]
        refine ⟨⟨i+1,by simp,⟨by omega⟩,⟨HH.out.1⟩,⟨HB.out.1.trans H1.out.1,H1.out.2⟩⟩,?_⟩
        simp only [intOf]
        omega
    · have hlb:decide ((i:Int) < (ls.length:Int))=false:=decide_eq_false (by omega)
      have hno:ls.any (fun l=>!gt r l.1 l.2)=false:=by have:=HA.out;rwa [List.take_of_length_le (by omega)] at this
      have HN:=Aside0.mk hno
      clear hL hls hln hB hP hne hno
      go_wp2
      go_ret
      exact ⟨-1,rfl,by rw [HN.out];rfl,HB.out⟩
theorem containsLaw_calls (r:Int→Int) (ls:List (Tm × Tm)) (B b1 b2:Nat) (A:Option Addr) (cap:Nat) (w:World) (hL:HasW w (fun k=>k≠b2) ls A) (hls:LawsGood ls) (hln:ls.length≤1000) (hB:w.heap[B]?=some (.cells #[.map (some b1),.map (some b2)] 120 (0,0))) (hP:Prec w r b1 b2) (hne:B≠b2) :
    Calls Tryz.prog 127 #[.slice A ls.length cap,.func (.func 128) #[] #[.pointer (some ⟨B,0,none⟩)]] w fun e w'=>e=.returned (.bool (ls.any (fun l=>!gt r l.1 l.2)))∧But b2 w w'∧Prec w' r b1 b2:=by
  have HC:=Aside0.mk (indexLaw_calls r ls B b1 b2 A cap w hL hls hln hB hP hne)
  clear hL hls hln hB hP hne
  generalize ls.any (fun l=>!gt r l.1 l.2)=b at *
  generalize ls.length=n at *
  go_enter Tryz.func127,Tryz.ntmps127
  go_wp2_with (go_at_call 147;refine HC.out.mono ?_;rintro e w1 ⟨k,rfl,hk,hb⟩;have H1:=Aside0.mk (And.intro hk hb);clear hb hk)
  go_ret
  rw [←H1.out.1]
  exact ⟨rfl,H1.out.2⟩
theorem proves_calls (r:Int→Int) (ls:List (Tm × Tm)) (b1 b2:Nat) (A:Option Addr) (cap:Nat) (w:World) (ok:Nat→Prop) (hL:HasW w ok ls A) (hls:LawsGood ls) (hln:ls.length≤1000) (hP:Prec w r b1 b2) :
    Calls Tryz.prog 88 #[precV b1 b2,.slice A ls.length cap] w fun e w'=>e=.returned (.bool (provT r ls))∧But b2 w w'∧Prec w' r b1 b2:=by
  obtain ⟨hr,hne,L,hM,hK⟩:=hP
  have hP:Prec w r b1 b2:=⟨hr,hne,L,hM,hK⟩
  have hB1:Below w.heap.size w (w.alloc (.cells #[.map (some b1),.map (some b2)] 120)):=below_alloc (Below.refl _ _) _
  have hlt:=hM.lt
  have HC:=Aside0.mk (containsLaw_calls r ls w.heap.size b1 b2 A cap (w.alloc (.cells #[.map (some b1),.map (some b2)] 120)) ((hL.apart hM).below hB1) hls hln (blk_new w _) (hP.below hB1) (by omega))
  have HB:=Aside0.mk hB1
  clear hL hls hln hP hB1 hlt hr hne hM hK
  unfold provT precV
  generalize ls.any (fun l=>!gt r l.1 l.2)=b at *
  generalize ls.length=n at *
  go_enter Tryz.func88,Tryz.ntmps88
  go_wp2_with (go_at_call 127;refine HC.out.mono ?_;rintro e w1 ⟨rfl,hb,hP⟩;have H1:=Aside0.mk (And.intro hb hP);clear hb hP)
  go_ret
  exact ⟨rfl,(But.of_below HB.out).trans H1.out.1,H1.out.2⟩
theorem indexB_calls (xs:List UInt8) (x:UInt8) (A:Option Addr) (cap:Nat) (w:World) (hc:∀ j (h:j < xs.length),∃ ad,A=some ad∧w.cell? (ad.add j)=some (.int .u8 (xs[j].toNat:Int))) (hln:xs.length≤1000) :
    Calls Tryz.prog 129 #[.slice A xs.length cap,.int .u8 (x.toNat:Int)] w fun e w'=>∃ k:Int,e=.returned (.int .i64 k)∧decide (k≥0)=xs.any (fun n=>n == x)∧w'=w:=by
  have HP:=Aside0.mk (And.intro hc hln)
  clear hc hln
  go_enter Tryz.func129,Tryz.ntmps129
  go_wp2
  go_loopw [8] (fun v8 wr=>∃ (i:Nat),v8=.int .i64 (i:Int)∧Aside0 (i≤xs.length)∧Aside0 ((xs.take i).any (fun n=>n == x)=false)∧wr=w) (fun v8 _=>xs.length - (intOf v8).toNat)
  case atStart=>exact ⟨0,rfl,⟨Nat.zero_le _⟩,⟨rfl⟩,rfl⟩
  case round =>
    obtain ⟨i,rfl,HI,HA,hwr⟩:=hrel
    subst wr
    obtain ⟨hc,hln⟩:=HP.out
    by_cases hlt:i < xs.length
    · have hlb:decide ((i:Int) < (xs.length:Int))=true:=decide_eq_true (by omega)
      obtain ⟨ad,rfl,hc1⟩:=hc i hlt
      have hsn:(xs.take (i+1)).any (fun n=>n == x)=(xs[i] == x):=by
        rw [List.take_succ_eq_append_getElem hlt,List.any_append,HA.out]
        simp
      have htr:(xs[i] == x)=true→xs.any (fun n=>n == x)=true:=fun h=>List.any_eq_true.2 ⟨xs[i],List.getElem_mem hlt,h⟩
      have heq:((x.toNat:Int) == (xs[i].toNat:Int))=(xs[i] == x):=by
        by_cases h:xs[i]=x
        · rw [h];simp
        · rw [beq_eq_false_iff_ne.2 h]
          refine beq_eq_false_iff_ne.2 (fun e=>h ?_)
          exact (UInt8.toNat_inj.1 (by omega)).symm
      have w1i:wrap64 ((i:Int)+1)=(i:Int)+1:=wrp i (by omega)
      generalize (xs[i] == x)=b at *
      generalize xs[i]=y at *
      have HH:=Aside0.mk (And.intro hsn htr)
      clear hsn htr hc hln
      cases b with
      | true =>
        go_wp2
        go_ret
        exact ⟨_,rfl,(decide_eq_true (by omega)).trans (HH.out.2 (by simp)).symm,rfl⟩
      | false =>
        go_wp2
        try rw [w1i]
        refine ⟨⟨i+1,by simp,⟨by omega⟩,⟨HH.out.1⟩,by first|rfl|trivial⟩,?_⟩
        simp only [intOf]
        omega
    · have hlb:decide ((i:Int) < (xs.length:Int))=false:=decide_eq_false (by omega)
      have hno:xs.any (fun n=>n == x)=false:=by have:=HA.out;rwa [List.take_of_length_le (by omega)] at this
      have HN:=Aside0.mk hno
      clear hc hln hno
      go_wp2
      go_ret
      exact ⟨-1,rfl,by rw [HN.out];rfl,rfl⟩
theorem containsB_calls (xs:List UInt8) (x:UInt8) (A:Option Addr) (cap:Nat) (w:World) (hc:∀ j (h:j < xs.length),∃ ad,A=some ad∧w.cell? (ad.add j)=some (.int .u8 (xs[j].toNat:Int))) (hln:xs.length≤1000) :
    Calls Tryz.prog 89 #[.slice A xs.length cap,.int .u8 (x.toNat:Int)] w fun e w'=>e=.returned (.bool (xs.any (fun n=>n == x)))∧w'=w:=by
  have HC:=Aside0.mk (indexB_calls xs x A cap w hc hln)
  clear hc hln
  generalize xs.any (fun n=>n == x)=r at *
  generalize xs.length=n at *
  go_enter Tryz.func89,Tryz.ntmps89
  go_wp2_with (go_at_call 129;refine HC.out.mono ?_;rintro e w1 ⟨k,rfl,hk,h1⟩;subst w1;have H1:=Aside0.mk hk;clear hk)
  go_ret
  rw [←H1.out]
  exact ⟨rfl,rfl⟩
theorem But.new {g h:Nat} {a b c:World} (h1:But g a b) (h2:But h b c) (hh:a.heap.size≤h):But g a c :=
  ⟨h2.os.trans h1.os,h2.tape.trans h1.tape,h2.output.trans h1.output,Nat.le_trans h1.size h2.size,fun k hk hg=>(h2.block k (Nat.lt_of_lt_of_le hk h1.size) (by omega)).trans (h1.block k hk hg)⟩
def c6:List UInt8:=[97,98,99,100,101,102]
def extO (ls:List (Tm × Tm)):Nat→List UInt8→Option (List UInt8)
  | 0,L=>if provT (rankP (B8 L)) ls then some L else none
  | n+1,L=>c6.findSome? fun c=>if L.any (fun x=>x == c) then none else extO ls n (L++[c])
theorem nodup_len:∀ (L M:List UInt8),L.Nodup→(∀ x,x∈L→x∈M)→L.length≤M.length
  | [],M,_,_=>Nat.zero_le _
  | x :: L,M,hn,h=>by
    rw [List.nodup_cons] at hn
    have hx:=h x (by simp)
    have:=nodup_len L (M.erase x) hn.2 (fun y hy=>(List.mem_erase_of_ne (fun e=>hn.1 (by rw [←e];exact hy))).2 (h y (by simp [hy])))
    rw [List.length_erase_of_mem hx] at this
    have:=List.length_pos_of_mem hx
    rw [List.length_cons]
    omega
theorem full6 {L:List UInt8} (h6:L.length=6) (hn:L.Nodup) (hc:∀ x,x∈L→x∈c6):∀ c,c∈c6→c∈L:=by
  intro c hcm
  by_cases h:c∈L
  · exact h
  · exfalso
    have:=nodup_len L (c6.erase c) hn (fun y hy=>(List.mem_erase_of_ne (fun e=>h (by rw [←e];exact hy))).2 (hc y hy))
    rw [List.length_erase_of_mem hcm,h6] at this
    simp [c6] at this
theorem putL_new {L:List (Int × Value)} {a:Int} {v:Value} (h:a∉L.map (·.1)):putL L a v=L++[(a,v)]:=by
  induction L with
  | nil=>rfl
  | cons q L ih =>
    rw [List.map_cons,List.mem_cons] at h
    rw [putL,if_neg (fun e=>h (.inl e.symm)),ih (fun e=>h (.inr e))]
    rfl
theorem bAt_list (L:List UInt8) (k:Nat) (h:k < L.length):bAt (B8 L) k=(L[k].toNat:Int):=by
  unfold bAt
  rw [dif_pos (by rw [B8_size];exact h)]
  rfl
theorem rkL_pairs {L:List UInt8} (hn:L.Nodup):∀ k,k≤L.length→(rkL (B8 L) k).map (·.1)=(L.take k).map (fun c=>(c.toNat:Int))
  | 0,_=>by simp [rkL]
  | k+1,h=>by
    have ih:=rkL_pairs hn k (by omega)
    have hk:k < L.length:=by omega
    rw [rkL,bAt_list L k hk,putL_new,List.map_append,ih,List.take_succ_eq_append_getElem hk,List.map_append]
    · rfl
    · rw [ih]
      intro hm
      obtain ⟨x,hx,he⟩:=List.mem_map.1 hm
      have hxe:x=L[k]:=UInt8.toNat_inj.1 (by omega)
      subst hxe
      obtain ⟨j,hj,he2⟩:=List.getElem_of_mem hx
      rw [List.length_take] at hj
      rw [List.getElem_take] at he2
      exact absurd ((List.getElem_inj hn).1 he2) (by omega)
theorem getL_some {L:List (Int × Value)} {a:Int} (h:a∈L.map (·.1)):(getL L a).isSome=true:=by
  obtain ⟨q,hq,rfl⟩:=List.mem_map.1 h
  unfold getL
  rw [Option.isSome_map,List.find?_isSome]
  exact ⟨q,hq,by simp⟩
theorem prec_perm {L:List UInt8} (h6:L.length=6) (hn:L.Nodup) (hc:∀ x,x∈L→x∈c6):precOk (B8 L)=true:=by
  have hk:=rkL_pairs hn L.length (Nat.le_refl _)
  rw [List.take_length] at hk
  unfold precOk
  rw [B8_size,decide_eq_true h6,Bool.true_and,decide_eq_true (by have:=congrArg List.length hk;simp at this;omega),Bool.true_and,List.all_eq_true]
  intro c hcm
  refine getL_some ?_
  rw [hk]
  have hx:∃ x:UInt8,x∈c6∧(x.toNat:Int)=c:=by
    simp only [List.mem_cons,List.not_mem_nil,or_false] at hcm
    rcases hcm with rfl|rfl|rfl|rfl|rfl|rfl
    · exact ⟨97,by decide,rfl⟩
    · exact ⟨98,by decide,rfl⟩
    · exact ⟨99,by decide,rfl⟩
    · exact ⟨100,by decide,rfl⟩
    · exact ⟨101,by decide,rfl⟩
    · exact ⟨102,by decide,rfl⟩
  obtain ⟨x,hx,rfl⟩:=hx
  exact List.mem_map.2 ⟨x,full6 h6 hn hc x hx,rfl⟩
theorem known_nil (r:Int→Int):Known r []:=fun a b v _ _ h=>by cases h
def ESt (w:World) (ls:List (Tm × Tm)) (bo bl be:Nat) (AL:Option Addr) (cL:Nat):Prop :=
  (∃ o,w.heap[bo]?=some (.cells #[.string o] 9 (0,0)))∧w.heap[bl]?=some (.cells #[.slice AL ls.length cL] 109 (0,0)) ∧
  w.heap[be]?=some (.cells #[.func (.func 86) #[] #[.pointer (some ⟨bo,0,none⟩),.pointer (some ⟨bl,0,none⟩),.pointer (some ⟨be,0,none⟩)]] 31 (0,0))∧HasW w (fun k=>k≠bo) ls AL
theorem ESt.ne {w:World} {ls:List (Tm × Tm)} {bo bl be:Nat} {AL:Option Addr} {cL:Nat} (h:ESt w ls bo bl be AL cL):bl≠bo∧be≠bo:=by
  obtain ⟨⟨o,h1⟩,h2,h3,h4⟩:=h
  constructor
  · intro e
    rw [e,h1] at h2
    injection h2 with h2
    injection h2 with _ h2
    exact absurd h2 (by decide)
  · intro e
    rw [e,h1] at h3
    injection h3 with h3
    injection h3 with _ h3
    exact absurd h3 (by decide)
theorem ESt.but {w w':World} {ls:List (Tm × Tm)} {bo bl be:Nat} {AL:Option Addr} {cL:Nat} (h:ESt w ls bo bl be AL cL) (hb:But bo w w') (ho:∃ o,w'.heap[bo]?=some (.cells #[.string o] 9 (0,0))):ESt w' ls bo bl be AL cL:=by
  have hn:=h.ne
  obtain ⟨h1,h2,h3,h4⟩:=h
  exact ⟨ho,(hb.block _ (gl_ h2) hn.1).trans h2,(hb.block _ (gl_ h3) hn.2).trans h3,h4.but hb⟩
def ExtOk (ls:List (Tm × Tm)) (n:Nat):Prop:=∀ (L:List UInt8) (w:World) (bo bl be:Nat) (AL:Option Addr) (cL:Nat),L.length+n=6→L.Nodup→(∀ x,x∈L→x∈c6)→ESt w ls bo bl be AL cL →
  Calls Tryz.prog 86 #[.string (B8 L),.pointer (some ⟨bo,0,none⟩),.pointer (some ⟨bl,0,none⟩),.pointer (some ⟨be,0,none⟩)] w fun e w'=>e=.returned (.bool (extO ls n L).isSome)∧But bo w w'∧∃ o,w'.heap[bo]?=some (.cells #[.string o] 9 (0,0))∧∀ q,extO ls n L=some q→o=B8 q
set_option maxRecDepth 100000 in
set_option maxHeartbeats 2000000 in
theorem ext_base (ls:List (Tm × Tm)) (hls:LawsGood ls) (hln:ls.length≤1000):ExtOk ls 0:=by
  intro L w bo bl be AL cL h6 hnd hc6 hS
  have hok:=prec_perm (by omega) hnd hc6
  have hnp:=newPrec_calls (B8 L) (by rw [B8_size];omega)
  have hsz:(B8 L).size=6:=by rw [B8_size];omega
  have hpv:=fun (b1 b2:Nat) (w':World) (hL:HasW w' (fun k=>k≠bo) ls AL) (hP:Prec w' (rankP (B8 L)) b1 b2)=>proves_calls (rankP (B8 L)) ls b1 b2 AL cL w' _ hL hls hln hP
  have hex:extO ls 0 L=if provT (rankP (B8 L)) ls then some L else none:=rfl
  rw [hex]
  unfold OutP at hnp
  rw [hok] at hnp
  dsimp only at hnp
  obtain ⟨p,hp⟩:∃ p,p=B8 L:=⟨_,rfl⟩
  rw [←hp] at hnp hsz hpv ⊢
  obtain ⟨b,hb⟩:∃ b,b=provT (rankP p) ls:=⟨_,rfl⟩
  rw [←hb] at hpv ⊢
  obtain ⟨R,hR⟩:∃ R,R=(if b=true then some L else none):=⟨_,rfl⟩
  rw [←hR]
  have HE:Aside0 (R.isSome=b∧∀ q,R=some q→p=B8 q):=⟨by rw [hR];cases b<;>rfl,fun q hq=>by
    rw [hR] at hq
    cases b with
    | true=>injection hq with hq;rw [hp,hq]
    | false=>cases hq⟩
  have HNP:=Aside0.mk hnp
  have HPV:=Aside0.mk hpv
  have hne:=hS.ne
  obtain ⟨⟨o,h1⟩,h2,h3,h4⟩:=hS
  have hz:=blk_frozen h1 0
  have hd:w.cell? ⟨bo,0,none⟩=some (.string o):=blk_cell h1 0
  have hbt:But bo w (w.setCell ⟨bo,0,none⟩ (.string p)):=But.set w 0 _
  have HW:Aside0 (But bo w (w.setCell ⟨bo,0,none⟩ (.string p))∧(w.setCell ⟨bo,0,none⟩ (.string p)).heap[bo]?=some (.cells #[.string p] 9 (0,0))∧(w.setCell ⟨bo,0,none⟩ (.string p)).heap[bl]?=some (.cells #[.slice AL ls.length cL] 109 (0,0))∧HasW (w.setCell ⟨bo,0,none⟩ (.string p)) (fun k=>k≠bo) ls AL) :=
    ⟨hbt,blk_setCell h1 _,(hbt.block _ (gl_ h2) hne.1).trans h2,h4.but hbt⟩
  clear hok hnp hpv hex hp hb hbt hR hne h1 h2 h3 h4 h6 hnd hc6
  go_enter Tryz.func86,Tryz.ntmps86
  go_wp2
  obtain ⟨w1,hw1⟩:∃ w1,w1=w.setCell ⟨bo,0,none⟩ (.string p):=⟨_,rfl⟩
  rw [←hw1] at HW ⊢
  obtain ⟨hbt,hbo,hbl,hL⟩:=HW.out
  clear hw1 hz hd HW
  have hy0:w1.drew.cell? ⟨bl,0,none⟩=some (.slice AL ls.length cL):=blk_cell (blk_drew hbl) 0
  refine start_ (n:=5) (S:=fun w'=>w'.cell? ⟨bl,0,none⟩=some (.slice AL ls.length cL)) (ds:=[3]) (bm 5 0) (by kernel_rfl) rfl rfl (hy0) (fun hHeld=>?_)
  refine pk_ 0 12 (bm 5 1) ?_
  refine take_ (i:=2) (N:=some 14) (v:=?_) (a':=?_) (bm 5 5) rfl rfl (by kernel_rfl) (fun _ _ _ h=>h) (Or.inl ⟨by rfl,?_⟩) hHeld ?_ ?_;rotate_left
  · intro w' s0
    go_simp
    with_reducible rfl
  rotate_left;exact tP_
  refine one_ (i:=1) (N:=some 13) (bm 5 7) rfl rfl (by kernel_rfl) (by decide) (fun K hK=>?_)
  refine goesD_ Tryz.func87 (by kernel_rfl) rfl #[.string p] (by rfl) rfl rfl (by simp only [List.map_toArray,List.map_cons,List.map_nil];rfl) ?_
  refine (HNP.out _).mono ?_
  rintro e w5 ⟨hb5,b1,b2,rfl,hne,hs1,hs2,hRk,hMp⟩
  refine .inl ⟨_,rfl,?_⟩
  have hb5w:Below w1.heap.size w1 w5:=⟨hb5.os,hb5.tape,hb5.output,hb5.size,hb5.block⟩
  have hP5:Prec w5 (rankP p) b1 b2:=⟨hRk,hne,[],hMp,known_nil _⟩
  have hc50:w5.cell? ⟨bl,0,none⟩=some (.slice AL ls.length cL):=blk_cell (blk_below hbl hb5w) 0
  refine hK.out _ _ (hc50) (fun hHeld=>?_)
  clear hK K
  refine norm_ (a':=?_) ?_ ?_;rotate_left;(show Act.put _ (some 13) _=_;exact tP_)
  refine last_ (i:=3) (N:=some 15) (bm 5 15) rfl rfl (by kernel_rfl) (by decide) (fun K hK=>?_)
  refine goesD_ Tryz.func88 (by kernel_rfl) rfl #[precV b1 b2,.slice AL ls.length cL] (by rfl) rfl rfl (by simp only [List.map_toArray,List.map_cons,List.map_nil];rfl) ?_
  refine (HPV.out b1 b2 w5 (hL.below hb5w) hP5).mono ?_
  rintro e w6 ⟨rfl,hb6,hP6⟩
  refine .inl ⟨_,rfl,?_⟩
  refine hK.out _ _ ?_
  clear hK K
  refine norm_ (a':=?_) ?_ ?_;rotate_left;(show Act.put _ (some 15) _=_;exact tP_)
  refine pk_ 4 5 (bm 5 31) ?_
  refine done_ (by kernel_rfl) ?_
  go_wp2
  go_ret
  rw [HE.out.1]
  refine ⟨rfl,hbt.trans ?_,p,?_,HE.out.2⟩
  · exact (But.of_below hb5w).new hb6 (Nat.le_trans (by simp) hs2)
  · exact (hb6.block _ (Nat.lt_of_lt_of_le (gl_ hbo) hb5w.size) (fun e=>by have:=(gl_ hbo);rw [e] at this;exact absurd (Nat.le_trans (by simp) hs2) (Nat.not_le_of_gt this))).trans ((hb5w.block _ (gl_ hbo)).trans hbo)
theorem below_bytes (w:World) (e:TypeId) (s:ByteArray):Below w.heap.size w (Lib.bytesWorld w e s) :=
  ⟨rfl,by rfl,rfl,by rw [Lib.bytesWorld_size];omega,fun k hk=>Lib.bytesWorld_at_old w e s k hk⟩
theorem c6_at (i:Nat) (h:i < c6.length):c6[i]=UInt8.ofNat (97+i):=by
  have:i=0∨i=1∨i=2∨i=3∨i=4∨i=5:=by simp [c6] at h;omega
  rcases this with rfl|rfl|rfl|rfl|rfl|rfl<;>rfl
theorem s6_0 (w:World):(Instr.sliceAt 9 (.string ⟨#[97,98,99,100,101,102]⟩) (some (.int .i64 0)) (some (.int .i64 1)) none).run Tryz.prog w=.ok (.string ⟨#[97]⟩) w:=by kernel_rfl
theorem s6_1 (w:World):(Instr.sliceAt 9 (.string ⟨#[97,98,99,100,101,102]⟩) (some (.int .i64 1)) (some (.int .i64 2)) none).run Tryz.prog w=.ok (.string ⟨#[98]⟩) w:=by kernel_rfl
theorem s6_2 (w:World):(Instr.sliceAt 9 (.string ⟨#[97,98,99,100,101,102]⟩) (some (.int .i64 2)) (some (.int .i64 3)) none).run Tryz.prog w=.ok (.string ⟨#[99]⟩) w:=by kernel_rfl
theorem s6_3 (w:World):(Instr.sliceAt 9 (.string ⟨#[97,98,99,100,101,102]⟩) (some (.int .i64 3)) (some (.int .i64 4)) none).run Tryz.prog w=.ok (.string ⟨#[100]⟩) w:=by kernel_rfl
theorem s6_4 (w:World):(Instr.sliceAt 9 (.string ⟨#[97,98,99,100,101,102]⟩) (some (.int .i64 4)) (some (.int .i64 5)) none).run Tryz.prog w=.ok (.string ⟨#[101]⟩) w:=by kernel_rfl
theorem s6_5 (w:World):(Instr.sliceAt 9 (.string ⟨#[97,98,99,100,101,102]⟩) (some (.int .i64 5)) (some (.int .i64 6)) none).run Tryz.prog w=.ok (.string ⟨#[102]⟩) w:=by kernel_rfl
theorem slice6 (i:Nat) (h:i < 6) (w:World):(Instr.sliceAt 9 (.string ⟨#[97,98,99,100,101,102]⟩) (some (.int .i64 (i:Int))) (some (.int .i64 ((i:Int)+1))) none).run Tryz.prog w=.ok (.string ⟨#[UInt8.ofNat (97+i)]⟩) w:=by
  have:i=0∨i=1∨i=2∨i=3∨i=4∨i=5:=by omega
  rcases this with rfl|rfl|rfl|rfl|rfl|rfl
  · exact s6_0 w
  · exact s6_1 w
  · exact s6_2 w
  · exact s6_3 w
  · exact s6_4 w
  · exact s6_5 w
theorem B8_snoc (L:List UInt8) (c:UInt8):B8 L++(⟨#[c]⟩:ByteArray)=B8 (L++[c]):=by
  apply ByteArray.ext
  simp [B8]
set_option maxRecDepth 100000 in
set_option maxHeartbeats 4000000 in
theorem ext_step (ls:List (Tm × Tm)) (n:Nat) (ih:ExtOk ls n):ExtOk ls (n+1):=by
  intro L w bo bl be AL cL h6 hnd hc6 hS
  obtain ⟨F,hF⟩:∃ F:UInt8→Option (List UInt8),F=fun c=>if L.any (fun x=>x == c) then none else extO ls n (L++[c]):=⟨_,rfl⟩
  have hex:extO ls (n+1) L=c6.findSome? F:=by rw [hF];rfl
  obtain ⟨R,hR⟩:∃ R,R=extO ls (n+1) L:=⟨_,rfl⟩
  rw [←hR] at hex ⊢
  have hsz:(B8 L).size=L.length:=B8_size L
  have hl6:¬ L.length=6:=by omega
  have hl62:((L.length:Int) == 6)=false:=beq_eq_false_iff_ne.2 (by omega)
  have HP:=Aside0.mk (And.intro hS (And.intro h6 (And.intro hnd (And.intro hc6 (And.intro hex (And.intro hF ih))))))
  have hle:L.length≤6:=by omega
  obtain ⟨p,hp⟩:∃ p,p=B8 L:=⟨_,rfl⟩
  rw [←hp] at hsz ⊢
  have HPP:=Aside0.mk hp
  clear hS h6 hnd hc6 hex hF ih hR hp hl6
  go_enter Tryz.func86,Tryz.ntmps86
  go_wp2
  go_loopw [16] (fun v16 wr=>∃ i:Nat,v16=.int .i64 (i:Int)∧Aside0 (i≤6)∧Aside0 ((c6.take i).findSome? F=none)∧Aside0 (But bo w wr∧∃ o,wr.heap[bo]?=some (.cells #[.string o] 9 (0,0)))) (fun v16 _=>6 - (intOf v16).toNat)
  case atStart=>exact ⟨0,rfl,⟨Nat.zero_le _⟩,⟨rfl⟩,⟨But.refl _ _,HP.out.1.1⟩⟩
  case round =>
    obtain ⟨i,rfl,HI,HA,HB⟩:=hrel
    obtain ⟨hS,h6,hnd,hc6,hex,hF,ih⟩:=HP.out
    have hp:=HPP.out
    by_cases hlt:i < 6
    · have hlb:decide ((i:Int) < 6)=true:=decide_eq_true (by omega)
      have hi6:i < c6.length:=by simpa [c6] using hlt
      obtain ⟨c,hc⟩:∃ c,c=UInt8.ofNat (97+i):=⟨_,rfl⟩
      have hcc:c6[i]=c:=by rw [hc];exact c6_at i hi6
      have hcm:c∈c6:=by rw [←hcc];exact List.getElem_mem hi6
      have hsl:=slice6 i hlt
      rw [←hc] at hsl
      have hsn:(c6.take (i+1)).findSome? F=F c:=by
        rw [List.take_succ_eq_append_getElem hi6,List.findSome?_append,HA.out,hcc]
        simp
      have htr:∀ q,F c=some q→R=some q:=fun q hq=>by
        rw [hex,←List.take_append_drop (i+1) c6,List.findSome?_append,hsn,hq]
        rfl
      have hSr:=hS.but HB.out.1 HB.out.2
      obtain ⟨wb,hwb⟩:∃ wb,wb=Lib.bytesWorld wr 5 p:=⟨_,rfl⟩
      obtain ⟨cp,hcp⟩:∃ cp,cp=grownCap wr p.size 0 5:=⟨_,rfl⟩
      have hbw:Below wr.heap.size wr wb:=by rw [hwb];exact below_bytes wr 5 p
      have hcv:(convert 9 124 (.string p)).run Tryz.prog wr=.ok (.slice (some ⟨wr.heap.size,0,none⟩) L.length cp) wb:=by
        have:=Lib.run_convert_string_bytes (P:=Tryz.prog) wr 9 124 5 p Tryz.underlying9 Tryz.underlying124 Tryz.underlying5
        rw [←hwb,←hcp,hsz] at this
        exact this
      have hcb:=containsB_calls L c (some ⟨wr.heap.size,0,none⟩) cp wb (fun j hj=>⟨_,rfl,by
        have h1:=Lib.bytesWorld_cell wr 5 p j (by rw [hsz];exact hj)
        rw [←hwb] at h1
        have h2:p.data.toList.getD j 0=L[j]:=by
          rw [hp,B8_list,List.getD_eq_getElem?_getD,List.getElem?_eq_getElem hj]
          rfl
        rw [h2] at h1
        have h3:(⟨wr.heap.size,0,none⟩:Addr).add j=⟨wr.heap.size,j,none⟩:=by unfold Addr.add;simp;omega
        rw [h3]
        exact h1⟩) (by omega)
      have hSb:ESt wb ls bo bl be AL cL:=hSr.but (But.of_below hbw) ⟨_,(hbw.block _ (gl_ HB.out.2.choose_spec)).trans HB.out.2.choose_spec⟩
      have hx0:wb.cell? ⟨be,0,none⟩=some (.func (.func 86) #[] #[.pointer (some ⟨bo,0,none⟩),.pointer (some ⟨bl,0,none⟩),.pointer (some ⟨be,0,none⟩)]):=blk_cell hSb.2.2.1 0
      have w1i:wrap64 ((i:Int)+1)=(i:Int)+1:=wrp i (by omega)
      have hcat:p++(⟨#[c]⟩:ByteArray)=B8 (L++[c]):=by rw [hp];exact B8_snoc L c
      have hFc:F c=if L.any (fun x=>x == c) then none else extO ls n (L++[c]):=by rw [hF]
      have hbo:But bo w wb:=HB.out.1.trans (But.of_below hbw)
      cases hct:L.any (fun x=>x == c) with
      | true =>
        rw [hct] at hcb hFc
        have HC:=Aside0.mk hcb
        have HN:Aside0 (((c6.take (i+1)).findSome? F=none)∧But bo w wb∧∃ o,wb.heap[bo]?=some (.cells #[.string o] 9 (0,0))):=⟨hsn.trans hFc,hbo,hSb.1⟩
        clear hS h6 hnd hc6 hex hF ih hp hcc hcm hsn htr hSr hbw hcb hSb hFc hbo hct hwb hcp hc hi6 HA HB
        go_wp2_with (go_at_call 89;refine HC.out.mono ?_;rintro e w2 ⟨rfl,h2⟩;subst w2)
        try rw [w1i]
        refine ⟨⟨i+1,by first|rfl|simp,⟨hlt⟩,⟨HN.out.1⟩,⟨HN.out.2⟩⟩,?_⟩
        simp only [intOf]
        clear w1i
        omega
      | false =>
        have hnm:c∉L:=fun hm=>by
          have:L.any (fun x=>x == c)=true:=List.any_eq_true.2 ⟨c,hm,by simp⟩
          rw [hct] at this
          cases this
        have hcall:=ih (L++[c]) wb bo bl be AL cL (by rw [List.length_append];simp;omega) (by rw [List.nodup_append];exact ⟨hnd,by simp,fun a ha b hb e=>hnm (by rw [List.mem_singleton] at hb;rw [←hb,←e];exact ha)⟩) (fun x hx=>by
          rcases List.mem_append.1 hx with hx|hx
          · exact hc6 x hx
          · rw [List.mem_singleton] at hx;rw [hx];exact hcm) hSb
        rw [hct] at hcb hFc
        have hFc2:F c=extO ls n (L++[c]):=hFc
        rw [←hcat] at hcall
        obtain ⟨R2,hR2⟩:∃ R2,R2=extO ls n (L++[c]):=⟨_,rfl⟩
        rw [←hR2] at hcall hFc2
        have HC:=Aside0.mk hcb
        have HX:=Aside0.mk hcall
        have HN:Aside0 (((c6.take (i+1)).findSome? F=R2)∧(∀ q,R2=some q→R=some q)∧But bo w wb):=⟨hsn.trans hFc2,fun q hq=>htr q (hFc2.trans hq),hbo⟩
        clear hS h6 hnd hc6 hex hF ih hp hcc hcm hsn htr hSr hbw hcb hSb hFc hbo hct hwb hcp hc hi6 hcall hFc2 hR2 hnm HA HB hcat
        cases R2 with
        | some q =>
          go_wp2_with (first|(go_at_call 89;refine HC.out.mono ?_;rintro e w2 ⟨rfl,h2⟩;subst w2)|(go_at_call 86;refine HX.out.mono ?_;rintro e w3 ⟨rfl,hb3,o3,ho3,hq3⟩;have H3:=Aside0.mk (And.intro hb3 (And.intro ho3 hq3));clear hb3 ho3 hq3))
          go_ret
          have hRq:=HN.out.2.1 q rfl
          refine ⟨by rw [hRq];rfl,HN.out.2.2.trans H3.out.1,o3,H3.out.2.1,fun q' hq'=>?_⟩
          rw [hRq] at hq'
          exact H3.out.2.2 q' hq'
        | none =>
          go_wp2_with (first|(go_at_call 89;refine HC.out.mono ?_;rintro e w2 ⟨rfl,h2⟩;subst w2)|(go_at_call 86;refine HX.out.mono ?_;rintro e w3 ⟨rfl,hb3,o3,ho3,hq3⟩;have H3:=Aside0.mk (And.intro hb3 (And.intro ho3 hq3));clear hb3 ho3 hq3))
          try rw [w1i]
          refine ⟨⟨i+1,by first|rfl|simp,⟨hlt⟩,⟨HN.out.1⟩,⟨HN.out.2.2.trans H3.out.1,o3,H3.out.2.1⟩⟩,?_⟩
          simp only [intOf]
          clear w1i
          omega
    · have hlb:decide ((i:Int) < 6)=false:=decide_eq_false (by omega)
      have hi:i=6:=by have:=HI.out;omega
      subst hi
      have hno:R=none:=by
        rw [hex]
        exact HA.out
      have HN:=Aside0.mk (And.intro hno HB.out)
      clear hS h6 hnd hc6 hex hF ih hp hno HA HB
      go_wp2
      go_ret
      obtain ⟨hno,hb,o,ho⟩:=HN.out
      rw [hno]
      exact ⟨rfl,hb,o,ho,fun q hq=>by cases hq⟩
theorem ext_calls (ls:List (Tm × Tm)) (hls:LawsGood ls) (hln:ls.length≤1000):∀ n,ExtOk ls n
  | 0=>ext_base ls hls hln
  | n+1=>ext_step ls n (ext_calls ls hls hln n)
def orientT (rs:List S94):Int × ByteArray :=
  match newLawsT rs with
  | none=>(2,⟨#[]⟩)
  | some ls=>match extO ls 6 [] with
    | none=>(6,⟨#[]⟩)
    | some q=>(0,B8 q)
theorem enters85:∀ args w,(callFunc 85 args).run Tryz.prog w=.ok (.enter 85 args) w:=fun args w=>enters_ Tryz.func85 (by kernel_rfl) rfl args w
def StrAt (w':World) (bo:Nat) (r:Int × ByteArray):Prop:=∃ o,w'.heap[bo]?=some (.cells #[.string o] 9 (0,0))∧(r.1=0→o=r.2)
set_option maxRecDepth 100000 in
set_option maxHeartbeats 1000000 in
theorem orient1_calls (rs:List S94) (A0:Option Addr) (c0 b0 bo:Nat) (o:ByteArray) (w:World) (hC0:Kd.C k94 w A0 rs.length rs) (hb0:w.heap[b0]?=some (.cells #[.slice A0 rs.length c0] 35 (0,0))) (hbo:w.heap[bo]?=some (.cells #[.string o] 9 (0,0))) :
    Calls Tryz.prog 85 #[.pointer (some ⟨b0,0,none⟩),.pointer (some ⟨bo,0,none⟩)] w fun e w'=>e=endE (orientT rs).1∧But bo w w'∧StrAt w' bo (orientT rs):=by
  have hx0:=blk_cell hb0 0
  have hnl:=newLaws_calls rs A0 c0 w hC0
  cases hL:newLawsT rs with
  | none =>
    have e:orientT rs=(2,⟨#[]⟩):=by unfold orientT;rw [hL]
    rw [e]
    rw [hL] at hnl
    have HC:=Aside0.mk hnl
    have HB:=Aside0.mk hbo
    clear hnl hC0 hb0 hbo hL e
    go_enter Tryz.func85,Tryz.ntmps85
    go_wp2_with (go_at_call 77;refine HC.out.mono ?_;rintro e w1 ⟨hb,rfl⟩;have H1:=Aside0.mk hb;clear hb)
    exact ⟨rfl,rfl,But.of_below H1.out,o,blk_below HB.out H1.out,fun h=>by cases h⟩
  | some ls =>
    have hlg:=newLawsT_good hL
    rw [hL] at hnl
    have hext:=ext_calls ls hlg.1 (by omega) 6 [] 
    have hor:orientT rs=((match extO ls 6 [] with|none=>(6,⟨#[]⟩)|some q=>(0,B8 q):Int × ByteArray)):=by unfold orientT;rw [hL]
    obtain ⟨R,hR⟩:∃ R,R=extO ls 6 []:=⟨_,rfl⟩
    rw [←hR] at hext hor
    rw [hor]
    clear hor
    have HC:=Aside0.mk hnl
    have HB:=Aside0.mk (And.intro hbo (gl_ hbo))
    have HX:=Aside0.mk hext
    have e0:B8 []=⟨#[]⟩:=rfl
    clear hnl hC0 hb0 hbo hL hR hext hlg
    cases R with
    | some q =>
      go_enter Tryz.func85,Tryz.ntmps85
      go_wp2_with (first
        | (go_at_call 77;refine HC.out.mono ?_;rintro e w1 ⟨hb,A2,c2,rfl,hW⟩;have H1:=Aside0.mk (And.intro hb hW);clear hb hW)
        | (go_at_call 86;refine (HX.out _ bo _ _ A2 c2 rfl List.nodup_nil (fun x hx=>by cases hx) ⟨⟨o,blk_alloc (blk_alloc (blk_below HB.out.1 H1.out.1) _) _⟩,blk_alloc (blk_new w1 _) _,blk_new1' w1 _ _,(H1.out.2.step (ok':=fun k=>k≠bo) (fun k hk hl=>⟨by have:=HB.out.2;omega,rfl⟩)).below (below_alloc (below_alloc (Below.refl _ _) _) _)⟩).mono ?_;rintro e w4 ⟨rfl,hb4,o4,ho4,hq4⟩;have H4:=Aside0.mk (And.intro ((But.of_below (H1.out.1.trans ((below_alloc (below_alloc (Below.refl w1.heap.size w1) _) _).mono H1.out.1.size))).trans hb4) (And.intro ho4 hq4));clear hb4 ho4 hq4)
        | (go_at_call 67;refine (demand_ok 6 _).mono ?_;rintro e w8 ⟨rfl,h8⟩;subst w8))
      simp [bodyPost,results,Tryz.results85]
      exact ⟨rfl,H4.out.1,o4,H4.out.2.1,fun _=>H4.out.2.2 q rfl⟩
    | none =>
      go_enter Tryz.func85,Tryz.ntmps85
      go_wp2_with (first
        | (go_at_call 77;refine HC.out.mono ?_;rintro e w1 ⟨hb,A2,c2,rfl,hW⟩;have H1:=Aside0.mk (And.intro hb hW);clear hb hW)
        | (go_at_call 86;refine (HX.out _ bo _ _ A2 c2 rfl List.nodup_nil (fun x hx=>by cases hx) ⟨⟨o,blk_alloc (blk_alloc (blk_below HB.out.1 H1.out.1) _) _⟩,blk_alloc (blk_new w1 _) _,blk_new1' w1 _ _,(H1.out.2.step (ok':=fun k=>k≠bo) (fun k hk hl=>⟨by have:=HB.out.2;omega,rfl⟩)).below (below_alloc (below_alloc (Below.refl _ _) _) _)⟩).mono ?_;rintro e w4 ⟨rfl,hb4,o4,ho4,hq4⟩;have H4:=Aside0.mk (And.intro ((But.of_below (H1.out.1.trans ((below_alloc (below_alloc (Below.refl w1.heap.size w1) _) _).mono H1.out.1.size))).trans hb4) (And.intro ho4 hq4));clear hb4 ho4 hq4)
        | (go_at_call 67;refine (demand_no 6 _).mono ?_;rintro e w8 ⟨rfl,h8⟩;subst w8))
      exact ⟨rfl,rfl,H4.out.1,o4,H4.out.2.1,fun h=>by cases h⟩
set_option maxRecDepth 100000 in
theorem orient_calls (rs:List S94) (A0:Option Addr) (c0:Nat) (w:World) (hC0:Kd.C k94 w A0 rs.length rs) :
    Calls Tryz.prog 36 #[.slice A0 rs.length c0] w fun e w'=>e=.returned (.tuple #[.string (orientT rs).2,.int .i64 (orientT rs).1])∧Below w.heap.size w w':=by
  obtain ⟨r,l,hv⟩:∃ r l,orientT rs=(r,l):=⟨_,_,rfl⟩
  have hzl:r≠0→l=⟨#[]⟩:=by
    intro hr
    unfold orientT at hv
    split at hv
    · injection hv with h1 h2
      exact h2.symm
    · split at hv
      · injection hv with h1 h2
        exact h2.symm
      · injection hv with h1 h2
        exact absurd h1.symm hr
  have h1:=fun b0 bo o w' hC=>orient1_calls rs A0 c0 b0 bo o w' hC
  rw [hv] at h1 ⊢
  dsimp only at h1 ⊢
  obtain ⟨w3,hw3⟩:∃ w3,w3=(w.alloc (.cells #[.slice A0 rs.length c0] 35)).alloc (.cells #[.string ⟨#[]⟩] 9):=⟨_,rfl⟩
  have hB3:Below w.heap.size w w3:=by rw [hw3];exact below_alloc (below_alloc (Below.refl _ _) _) _
  have hsz:w3.heap.size=w.heap.size+2:=by rw [hw3];simp
  have hk0:w3.heap[w.heap.size]?=some (.cells #[.slice A0 rs.length c0] 35 (0,0)):=by rw [hw3];exact blk_alloc (blk_new w _) _
  have hk1:w3.heap[w.heap.size+1]?=some (.cells #[.string ⟨#[]⟩] 9 (0,0)):=by rw [hw3];exact blk_new1' w _ _
  have hg:=guard_keeps 85 enters85 #[.pointer (some ⟨w.heap.size,0,none⟩),.pointer (some ⟨w.heap.size+1,0,none⟩)] w3 (fun c w1=>c=r∧But (w.heap.size+1) w3 w1∧StrAt w1 (w.heap.size+1) (r,l)) ((h1 w.heap.size (w.heap.size+1) ⟨#[]⟩ (w3.alloc (.cells #[.int .i64 0] 26)) (Kd.C_below hC0 (below_alloc hB3 _)) (blk_alloc hk0 _) (blk_alloc hk1 _)).mono (fun e w1 hh=>by
    obtain ⟨rfl,hb,hv1⟩:=hh
    have hbt:But (w.heap.size+1) w3 w1:=(But.of_below (below_alloc (Below.refl _ _) _)).trans hb
    refine ⟨(hb.block _ (by simp) (by omega)).trans (blk_new w3 _),?_⟩
    by_cases hr:r=0
    · subst hr
      exact .inl ⟨rfl,rfl,hbt,hv1⟩
    · exact .inr ⟨r,endE_no hr,rfl,hbt,hv1⟩))
  have HG:=Aside0.mk hg
  have HB:=Aside0.mk hB3
  have HZ:=Aside0.mk hsz
  have HL:=Aside0.mk hzl
  clear hg hB3 hsz hk0 hk1 hC0 h1 hv hzl
  subst hw3
  by_cases hr0:r=0
  · subst hr0
    go_enter Tryz.func36,Tryz.ntmps36
    go_wp2_with (go_at_call 65;refine HG.out.mono ?_;rintro e w1 ⟨c,w2,rfl,⟨rfl,hb,o,hv1,hv3⟩,hb2⟩;have hv2:=(hb2.block _ (gl_ hv1) (by have:=HZ.out;omega)).trans hv1;have hz0:=blk_frozen hv2 0;have hd0:w1.cell? ⟨w.heap.size+1,0,none⟩=some (.string o):=blk_cell hv2 0;have HH:=Aside0.mk (And.intro hb (And.intro hb2 (And.intro hv2 hv3)));clear hb hb2 hv2 hv3)
    have hz:=HZ.out
    have b1:=HB.out
    obtain ⟨b2,b3,hv2,hv3⟩:=HH.out
    have b4:Below w.heap.size w w1:=(b1.trans (b2.below (Nat.le_add_right _ _) (by omega))).trans (b3.below (by omega) (by have:=b2.size;omega))
    have hv9:(w1.setCell ⟨w.heap.size+1,0,none⟩ (.string o)).heap[w.heap.size+1]?=some (.cells #[.string o] 9 (0,0)):=blk_setCell hv2 _
    have hcc:(w1.setCell ⟨w.heap.size+1,0,none⟩ (.string o)).cell? ⟨w.heap.size+1,0,none⟩=some (.string o):=blk_cell hv9 0
    have b5:Below w.heap.size w (w1.setCell ⟨w.heap.size+1,0,none⟩ (.string o)):=below_set b4 (by omega)
    have hol:o=l:=by first|exact hv3 rfl|exact hv3 trivial|exact hv3
    generalize w1.setCell ⟨w.heap.size+1,0,none⟩ (.string o)=w9 at *
    simp [bodyPost,results,Tryz.results36,go_sem,hcc]
    exact ⟨hol,b5⟩
  · have hrb:(r != 0)=true:=by simp [hr0]
    go_enter Tryz.func36,Tryz.ntmps36
    go_wp2_with (go_at_call 65;refine HG.out.mono ?_;rintro e w1 ⟨c,w2,rfl,⟨rfl,hb,o,hv1,hv3⟩,hb2⟩;have hv2:=(hb2.block _ (gl_ hv1) (by have:=HZ.out;omega)).trans hv1;have hz0:=blk_frozen hv2 0;have hd0:w1.cell? ⟨w.heap.size+1,0,none⟩=some (.string o):=blk_cell hv2 0;have HH:=Aside0.mk (And.intro hb (And.intro hb2 (And.intro hv2 hv3)));clear hb hb2 hv2 hv3)
    have hz:=HZ.out
    have b1:=HB.out
    obtain ⟨b2,b3,hv2,hv3⟩:=HH.out
    have b4:Below w.heap.size w w1:=(b1.trans (b2.below (Nat.le_add_right _ _) (by omega))).trans (b3.below (by omega) (by have:=b2.size;omega))
    have hv9:(w1.setCell ⟨w.heap.size+1,0,none⟩ (.string ⟨#[]⟩)).heap[w.heap.size+1]?=some (.cells #[.string ⟨#[]⟩] 9 (0,0)):=blk_setCell hv2 _
    have hcc:(w1.setCell ⟨w.heap.size+1,0,none⟩ (.string ⟨#[]⟩)).cell? ⟨w.heap.size+1,0,none⟩=some (.string ⟨#[]⟩):=blk_cell hv9 0
    have b5:Below w.heap.size w (w1.setCell ⟨w.heap.size+1,0,none⟩ (.string ⟨#[]⟩)):=below_set b4 (by omega)
    have hol:⟨#[]⟩=l:=(HL.out hr0).symm
    generalize w1.setCell ⟨w.heap.size+1,0,none⟩ (.string ⟨#[]⟩)=w9 at *
    simp [bodyPost,results,Tryz.results36,go_sem,hcc]
    exact ⟨hol,b5⟩
end Go.Proofs.YtaafeallcaiooaaGreat.Pr
