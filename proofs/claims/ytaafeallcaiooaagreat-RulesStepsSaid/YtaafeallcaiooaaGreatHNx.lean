/- next: all terms that arise by rewriting once. -/
import Derived.Test.YtaafeallcaiooaaGreatHCl
namespace Go.Proofs.YtaafeallcaiooaaGreat.Pr
open Go.RowKit Go.Maps Go.Proofs.Zw Go.Proofs.Zl Go.Proofs.Zm
set_option linter.unusedVariables false
set_option linter.unusedSimpArgs false
def SubLe (M:Int) (σ:Sub):Prop:=∀ c u,σ c=some u→u.size≤M
mutual
theorem matchT_le (M:Int):∀ (p t:Tm) (σ σ':Sub),SubLe M σ→t.size≤M→matchT p t σ=some σ'→SubLe M σ'
 | .var c,t,σ,σ',h,hs,e=>by
  rw [matchT] at e
  split at e
  ·split at e
   ·injection e with e
    subst e
    exact h
   ·cases e
  ·injection e with e
   subst e
   intro d u hu
   unfold upd at hu
   split at hu
   ·injection hu with hu
    subst hu
    exact hs
   ·exact h d u hu
 | .app s l,.app s' l',σ,σ',h,hs,e=>by
  rw [matchT] at e
  rw [Tm.size] at hs
  split at e
  ·exact matchL_le M l l' σ σ' h (by omega) e
  ·cases e
 | .app _ _,.var _,_,_,_,_,e=>by rw [matchT] at e;cases e
theorem matchL_le (M:Int):∀ (p t:List Tm) (σ σ':Sub),SubLe M σ→Tm.sizes t≤M→matchL p t σ=some σ'→SubLe M σ'
 | [],_,σ,σ',h,_,e=>by
  rw [matchL] at e
  injection e with e
  subst e
  exact h
 | p :: ps,t :: ts,σ,σ',h,hs,e=>by
  rw [matchL] at e
  rw [Tm.sizes] at hs
  have h1:=Tm.size_pos t
  have h2:=Tm.sizes_nn ts
  cases hm:matchT p t σ with
  | none=>rw [hm] at e;cases e
  | some σ1 =>
   rw [hm] at e
   exact matchL_le M ps ts σ1 σ' (matchT_le M p t σ σ1 h (by omega) hm) (by omega) e
 | _ :: _,[],_,_,_,_,e=>by rw [matchL] at e;cases e
end
mutual
theorem sub_le (M:Int) (hM:1≤M) (σ:Sub) (h:SubLe M σ):∀ t:Tm,(t.sub σ).size≤t.size * M
 | .var c=>by
  rw [Tm.sub,show (Tm.var c).size=1 by rw [Tm.size],Int.one_mul]
  cases hc:σ c with
  | none=>simpa [Tm.size] using hM
  | some u=>exact h c u hc
 | .app s l=>by
  have h1:=subL_le M hM σ h l
  have h2:0≤M:=by omega
  rw [Tm.sub,Tm.size,Tm.size,Int.add_mul]
  omega
theorem subL_le (M:Int) (hM:1≤M) (σ:Sub) (h:SubLe M σ):∀ l:List Tm,Tm.sizes (Tm.subL σ l)≤Tm.sizes l * M
 | []=>by simp [Tm.subL,Tm.sizes]
 | t :: l=>by
  have h1:=sub_le M hM σ h t
  have h2:=subL_le M hM σ h l
  rw [Tm.subL,Tm.sizes,Tm.sizes,Int.add_mul]
  omega
end
mutual
theorem sub_good (σ:Sub) (h:∀ c u,σ c=some u→u.good):∀ t:Tm,t.good→(t.sub σ).good
 | .var c,hg=>by
  rw [Tm.sub]
  cases hc:σ c with
  | none=>exact hg
  | some u=>exact h c u hc
 | .app s l,hg=>by
  rw [Tm.good] at hg
  rw [Tm.sub,Tm.good]
  exact ⟨hg.1,by rw [subL_map,List.length_map];exact hg.2.1,subL_good σ h l hg.2.2⟩
theorem subL_good (σ:Sub) (h:∀ c u,σ c=some u→u.good):∀ l:List Tm,Tm.goods l→Tm.goods (Tm.subL σ l)
 | [],_=>by rw [Tm.subL,Tm.goods];trivial
 | t :: l,hg=>by
  rw [Tm.goods] at hg
  rw [Tm.subL,Tm.goods]
  exact ⟨sub_good σ h t hg.1,subL_good σ h l hg.2⟩
end
theorem rootT_mem {ls:List (Tm × Tm)} {T t:Tm} (h:t∈rootT ls T):∃ l σ,l∈ls∧matchT l.1 T noSub=some σ∧t=l.2.sub σ:=by
 unfold rootT at h
 rw [List.mem_filterMap] at h
 obtain ⟨l,h1,h2⟩:=h
 cases hm:matchT l.1 T noSub with
 | none=>rw [hm] at h2;cases h2
 | some σ =>
  rw [hm] at h2
  injection h2 with h2
  first|exact ⟨l,σ,h1,hm,h2.symm⟩|exact ⟨l,σ,h1,rfl,h2.symm⟩
theorem rootT_len (ls:List (Tm × Tm)) (T:Tm):(rootT ls T).length≤ls.length:=by unfold rootT;exact List.length_filterMap_le _ _
theorem rootT_size {ls:List (Tm × Tm)} {T t:Tm} (hls:LawsGood ls) (hs:T.size≤60) (h:t∈rootT ls T):t.size≤720:=by
 obtain ⟨l,σ,h1,h2,rfl⟩:=rootT_mem h
 have h3:=sub_le 60 (by omega) σ (matchT_le 60 _ _ _ _ (fun c u h=>by cases h) hs h2) l.2
 have:=(hls l h1).2.2.2
 omega
theorem rootT_good {ls:List (Tm × Tm)} {T t:Tm} (hls:LawsGood ls) (hg:T.good) (hs:T.size≤1000000) (h:t∈rootT ls T):t.good:=by
 obtain ⟨l,σ,h1,h2,rfl⟩:=rootT_mem h
 exact sub_good σ (fun c u hu=>(matchT_good _ _ _ _ noSub_good hg hs h2 c u hu).1) _ (hls l h1).2.1
def chk (l:List Tm):Option (List Tm):=if l.all (fun t=>decide (t.size≤60)) then some l else none
mutual
def nextT (ls:List (Tm × Tm)):Tm→Option (List Tm)
 | .var c=>chk (rootT ls (.var c))
 | .app s l=>(nextL ls s [] l).bind fun r=>chk (rootT ls (.app s l)++r)
def nextL (ls:List (Tm × Tm)) (s:Int):List Tm→List Tm→Option (List Tm)
 | _,[]=>some []
 | pre,u :: us=>(nextT ls u).bind fun vs=>(nextL ls s (pre++[u]) us).map fun r=>vs.map (fun v=>.app s (pre++v :: us))++r
end
theorem chk_some {l r:List Tm} (h:chk l=some r):r=l∧∀ t,t∈l→t.size≤60:=by
 unfold chk at h
 split at h
 ·rename_i h1
  injection h with h
  exact ⟨h.symm,fun t ht=>by simpa using List.all_eq_true.1 h1 t ht⟩
 ·cases h
theorem chk_ok {l:List Tm} (h:∀ t,t∈l→t.size≤60):chk l=some l:=by
 unfold chk
 rw [if_pos]
 rw [List.all_eq_true]
 intro t ht
 simpa using h t ht
theorem chk_no {l:List Tm} {t:Tm} (h:t∈l) (h2:¬ t.size≤60):chk l=none:=by
 unfold chk
 rw [if_neg]
 intro h3
 have:=List.all_eq_true.1 h3 t h
 simp at this
 omega
def OutN (w:World) (ok:Nat→Prop) (R:Option (List Tm)) (e:Ending) (w':World):Prop :=
 Below w.heap.size w w'∧match R with
 | none=>e=troubled 5
 | some r=>∃ v,e=.returned v∧Row w' w.heap.size ok v r
def App (own:Option Nat) (W:World) (v:Value) (W':World):Prop:=W.grownBy W' own∧(v.ownBlock=own∨∃ b,v.ownBlock=some b∧W.heap.size≤b)
theorem App.refl (W:World) (v:Value):App v.ownBlock W v W:=⟨⟨rfl,rfl,rfl,Nat.le_refl _,fun _ _ _=>rfl⟩,.inl rfl⟩
theorem App.below {own:Option Nat} {W W1 W2:World} {v:Value} (h:App own W v W1) (hb:Below W1.heap.size W1 W2):App own W v W2 :=
 ⟨⟨hb.os.trans h.1.os,hb.tape.trans h.1.tape,hb.output.trans h.1.output,Nat.le_trans h.1.size hb.size,fun k hk hn=>(hb.block k (Nat.lt_of_lt_of_le hk h.1.size)).trans (h.1.block k hk hn)⟩,h.2⟩
theorem App.step {own:Option Nat} {W W1 W2:World} {v v2:Value} (h:App own W v W1) (k:App v.ownBlock W1 v2 W2):App own W v2 W2:=by
 refine ⟨⟨k.1.os.trans h.1.os,k.1.tape.trans h.1.tape,k.1.output.trans h.1.output,Nat.le_trans h.1.size k.1.size,fun i hi hn=>?_⟩,?_⟩
 ·refine (k.1.block i (Nat.lt_of_lt_of_le hi h.1.size) ?_).trans (h.1.block i hi hn)
  intro e
  rcases h.2 with h2|⟨b,h2,h3⟩
  ·exact hn (e.trans h2)
  ·rw [h2] at e
   injection e with e
   omega
 ·rcases k.2 with k2|⟨b,k2,k3⟩
  ·rcases h.2 with h2|⟨b,h2,h3⟩
   ·exact .inl (k2.trans h2)
   ·exact .inr ⟨b,k2.trans h2,h3⟩
  ·exact .inr ⟨b,k2,Nat.le_trans h.1.size k3⟩
theorem App.toBelow {B:Nat} {own:Option Nat} {W W':World} {v:Value} (h:App own W v W') (ho:∀ k,own=some k→B≤k) (hB:B≤W.heap.size):Below B W W' :=
 ⟨h.1.os,h.1.tape,h.1.output,h.1.size,fun k hk=>h.1.block k (by omega) (fun e=>by have:=ho k e.symm;omega)⟩
theorem HasL.pairs {w:World} {ok:Nat→Prop} {l:List Tm} {A:Option Addr} (h:HasL w ok l A 0) (hl:0 < l.length):∃ (g:Nat) (cs:Array Value) (ps:List (Nat × Value)),A=some ⟨g,0,none⟩∧ok g∧w.heap[g]?=some (.cells cs 99 (0,0))∧ps.length=l.length∧∀ j (h1:j < l.length) (h2:j < ps.length),cs[j]?=some (encI ps[j])∧Has w ok l[j] ps[j]:=by
 obtain ⟨g,cs,p0,h1,h2,h3,_⟩:=h.get 0 hl
 have hx:∀ j,∃ p:Nat × Value,∀ hj:j < l.length,cs[j]?=some (encI p)∧Has w ok l[j] p:=by
  intro j
  by_cases hj:j < l.length
  ·obtain ⟨g',cs',p,a,b,c,d,e⟩:=h.get j hj
   obtain rfl:g=g':=by rw [h1] at a;injection a with a;injection a
   obtain rfl:cs=cs':=by have:=h3.symm.trans c;injection this with this;injection this
   rw [Nat.zero_add] at d
   exact ⟨p,fun _=>⟨d,e⟩⟩
  ·exact ⟨(0,.nilIface),fun h=>absurd h hj⟩
 refine ⟨g,cs,(List.range l.length).map (fun j=>(hx j).choose),h1,h2,h3,by simp,fun j ha hb=>?_⟩
 have:=(hx j).choose_spec ha
 simpa using this
mutual
theorem nextT_len (ls:List (Tm × Tm)):∀ (T:Tm) (r:List Tm),nextT ls T=some r→(r.length:Int)≤ls.length * T.size
 | .var c,r,h=>by
  rw [nextT] at h
  obtain ⟨rfl,_⟩:=chk_some h
  have:=rootT_len ls (.var c)
  rw [Tm.size]
  omega
 | .app s l,r,h=>by
  rw [nextT] at h
  cases hn:nextL ls s [] l with
  | none=>rw [hn] at h;cases h
  | some r1 =>
   rw [hn] at h
   obtain ⟨rfl,_⟩:=chk_some h
   have h1:=nextL_len ls s [] l r1 hn
   have h2:=rootT_len ls (.app s l)
   rw [Tm.size,Int.mul_add,List.length_append]
   omega
theorem nextL_len (ls:List (Tm × Tm)) (s:Int):∀ (pre us r:List Tm),nextL ls s pre us=some r→(r.length:Int)≤ls.length * Tm.sizes us
 | _,[],r,h=>by
  rw [nextL] at h
  injection h with h
  subst h
  simp [Tm.sizes]
 | pre,u :: us,r,h=>by
  rw [nextL] at h
  cases hn:nextT ls u with
  | none=>rw [hn] at h;cases h
  | some v =>
   rw [hn,Option.bind_some] at h
   cases hm:nextL ls s (pre++[u]) us with
   | none=>rw [hm] at h;cases h
   | some r1 =>
    rw [hm] at h
    injection h with h
    subst h
    have h1:=nextT_len ls u v hn
    have h2:=nextL_len ls s (pre++[u]) us r1 hm
    rw [Tm.sizes,Int.mul_add,List.length_append,List.length_map]
    omega
end
theorem nextT_size {ls:List (Tm × Tm)}:∀ {T:Tm} {r:List Tm},nextT ls T=some r→∀ t,t∈r→t.size≤60
 | .var c,r,h,t,ht=>by
  rw [nextT] at h
  obtain ⟨rfl,h2⟩:=chk_some h
  exact h2 t ht
 | .app s l,r,h,t,ht=>by
  rw [nextT] at h
  cases hn:nextL ls s [] l with
  | none=>rw [hn] at h;cases h
  | some r1 =>
   rw [hn] at h
   obtain ⟨rfl,h2⟩:=chk_some h
   exact h2 t ht
theorem sizes_app:∀ a b:List Tm,Tm.sizes (a++b)=Tm.sizes a+Tm.sizes b
 | [],b=>by simp [Tm.sizes]
 | t :: a,b=>by rw [List.cons_append,Tm.sizes,Tm.sizes,sizes_app a b];omega
def mkT (s:Int) (l:List Tm) (i:Nat) (v:Tm):Tm:=.app s (l.take i++v :: l.drop (i+1))
theorem mkT_set (s:Int) (l:List Tm) (i:Nat) (v:Tm) (h:i < l.length):mkT s l i v=.app s (l.set i v):=by
 unfold mkT
 rw [List.set_eq_take_append_cons_drop,if_pos h]
theorem mkT_size (s:Int) (l:List Tm) (i:Nat) (v:Tm) (h:i < l.length):(mkT s l i v).size≤1+Tm.sizes l+v.size:=by
 unfold mkT
 have e:l=l.take i++l[i] :: l.drop (i+1):=by
  rw [←List.drop_eq_getElem_cons h,List.take_append_drop]
 have h2:=congrArg Tm.sizes e
 rw [sizes_app,Tm.sizes] at h2
 have:=Tm.size_pos l[i]
 rw [Tm.size,sizes_app,Tm.sizes]
 omega
theorem nextL_no {ls:List (Tm × Tm)} {s:Int} {l acc:List Tm} {i:Nat} {R:Option (List Tm)} (hlt:i < l.length) (h:R=(nextL ls s (l.take i) (l.drop i)).bind fun r=>chk (acc++r)) (hn:nextT ls l[i]=none):R=none:=by
 rw [h,List.drop_eq_getElem_cons hlt,nextL,hn]
 rfl
theorem nextL_step {ls:List (Tm × Tm)} {s:Int} {l acc r1:List Tm} {i:Nat} {R:Option (List Tm)} (hlt:i < l.length) (h:R=(nextL ls s (l.take i) (l.drop i)).bind fun r=>chk (acc++r)) (hn:nextT ls l[i]=some r1) :
  R=(nextL ls s (l.take (i+1)) (l.drop (i+1))).bind fun r=>chk ((acc++r1.map (mkT s l i))++r):=by
 rw [h,List.drop_eq_getElem_cons hlt,nextL,hn,Option.bind_some,List.take_succ_eq_append_getElem hlt]
 cases nextL ls s (l.take i++[l[i]]) (l.drop (i+1)) with
 | none=>rfl
 | some r =>
  simp only [Option.map_some,Option.bind_some,List.append_assoc]
  rfl
theorem below_draw (w:World):Below w.heap.size w w.drew:=pw_below_drewN (Below.refl _ _) 1
theorem blk_setN {w:World} {g:Nat} {cells:Array Value} {t:TypeId} (h:w.heap[g]?=some (.cells cells t (0,0))) (i:Nat) (hi:i < cells.size) (v:Value) :
  ∃ cells',(w.setCell ⟨g,i,none⟩ v).heap[g]?=some (.cells cells' t (0,0))∧cells'[i]?=some v∧∀ j,j≠i→cells'[j]?=cells[j]?:=by
 refine ⟨cells.setIfInBounds i v,by simp [World.setCell,Array.getElem?_modify,h],?_,fun j hj=>?_⟩
 ·rw [Array.getElem?_setIfInBounds_self_of_lt hi]
 ·rw [Array.getElem?_setIfInBounds_ne (fun e=>hj e.symm)]
def NxOk (ls:List (Tm × Tm)) (T:Tm):Prop:=∀ (q:Nat × Value) (w:World) (ok okL:Nat→Prop) (AL:Option Addr) (capL:Nat),HasW w okL ls AL→Has w ok T q→T.good→T.size≤60→(∀ k,w.heap.size≤k→ok k) →
 Calls Tryz.prog 99 #[.slice AL ls.length capL,encI q] w (OutN w ok (nextT ls T))
section
attribute [local go_sem] asVV asVC asCC asCV
set_option maxHeartbeats 1000000 in
set_option maxRecDepth 100000 in
theorem next_var (ls:List (Tm × Tm)) (hls:LawsGood ls) (hln:ls.length≤1000) (c:Int) (w:World) (ok okL:Nat→Prop) (AL:Option Addr) (capL:Nat) (hL:HasW w okL ls AL) (hg:(Tm.var c).good) (hok:∀ k,w.heap.size≤k→ok k) (R:Option (List Tm)) (hR:R=chk (rootT ls (.var c))) :
  Calls Tryz.prog 99 #[.slice AL ls.length capL,.iface 131 (.int .u8 c)] w (OutN w ok R):=by
 have hrc:=root_calls ls AL capL (.var c) (131,.int .u8 c) w ok okL hL (Has.var_.2 rfl) hg (by rw [Tm.size];omega) hls hln hok
 have hsz:∀ t,t∈rootT ls (.var c)→t.size≤720:=fun t ht=>rootT_size hls (by rw [Tm.size];omega) ht
 have hlen:(rootT ls (.var c)).length≤1000:=by
  have:=rootT_len ls (.var c)
  omega
 generalize rootT ls (.var c)=RT at *
 unfold encI at hrc
 have HC:=Aside0.mk hrc
 have HP:=Aside0.mk (And.intro hsz (And.intro hlen (And.intro hok hR)))
 clear hrc hL hg hls hln hok hR hsz hlen
 go_enter Tryz.func99,Tryz.ntmps99
 go_wp2_with (go_at_call 123;refine HC.out.mono ?_;rintro e wa ⟨v0,rfl,hrow,hb⟩;have HX:=Aside0.mk (And.intro hrow hb);obtain ⟨A5,c5,rfl,hc5,hL5⟩:=hrow.read HP.out.2.2.1;have HL:=Aside0.mk (And.intro hc5 hL5);clear hrow hb hc5 hL5)
 have HF:Aside0 (Below w.heap.size w (wa.alloc (.cells #[.int .u8 0,.slice none 0 0] 149))∧Row (wa.alloc (.cells #[.int .u8 0,.slice none 0 0] 149)) w.heap.size ok (.slice A5 RT.length c5) RT∧HasL (wa.alloc (.cells #[.int .u8 0,.slice none 0 0] 149)) ok RT A5 0∧R=chk RT∧(∀ t,t∈RT→t.size≤1000)∧RT.length≤1000000):=by
  have hb2:Below wa.heap.size wa (wa.alloc (.cells #[.int .u8 0,.slice none 0 0] 149)):=below_alloc (Below.refl _ _) _
  exact ⟨below_step HX.out.2 hb2,HX.out.1.below hb2,HasL.step (fun k hk hl=>⟨hk,hb2.block k hl⟩) HL.out.2,HP.out.2.2.2,fun t ht=>by have:=HP.out.1 t ht;omega,by have:=HP.out.2.1;omega⟩
 clear HX HL HP HC
 go_loopw [60] (fun v60 wf=>∃ (j:Nat),v60=.int .i64 (j:Int)∧Aside0 (j≤RT.length)∧Aside0 (∀ t,t∈RT.take j→t.size≤60)∧Aside0 (Below (wa.alloc (.cells #[.int .u8 0,.slice none 0 0] 149)).heap.size (wa.alloc (.cells #[.int .u8 0,.slice none 0 0] 149)) wf)) (fun v60 _=>RT.length - (intOf v60).toNat)
 case atStart=>exact ⟨0,rfl,⟨Nat.zero_le _⟩,⟨fun t ht=>by simp at ht⟩,⟨Below.refl _ _⟩⟩
 case round =>
  have hBW:=HF.out.1
  have hROW:=HF.out.2.1
  have hL5:=HF.out.2.2.1
  have hCH:=HF.out.2.2.2.1
  have hSZ:=HF.out.2.2.2.2.1
  have hLN:=HF.out.2.2.2.2.2
  obtain ⟨j,rfl,HJ,HA2,HB2⟩:=hrel
  by_cases hlt5:j < RT.length
  ·have hlb:decide ((j:Int) < (RT.length:Int))=true:=decide_eq_true (by omega)
   obtain ⟨g5,⟨t5,p5⟩,e5,hc5,hq5⟩:=hL5.step' (w':=wr) (fun k hk hl=>HB2.out.block k hl) j hlt5
   subst e5
   have hm5:RT[j]∈RT:=List.getElem_mem hlt5
   have hs5:=hSZ _ hm5
   have hcall5:=size_calls RT[j] (t5,p5) wr ok hq5 (by omega)
   have htk:∀ t,t∈RT.take (j+1)→t=RT[j]∨t∈RT.take j:=fun t ht=>by
    rw [List.take_succ_eq_append_getElem hlt5,List.mem_append] at ht
    rcases ht with ht|ht
    ·exact .inr ht
    ·exact .inl (by simpa using ht)
   obtain ⟨F5,hF5⟩:∃ F,F=szF (t5,p5):=⟨_,rfl⟩
   have hm1:∀ w,(method 337 t5 p5 "numnah/rules.size").run Tryz.prog w=.ok (F5,p5) w:=hF5 ▸ meth_size hq5
   have hm2:∀ args w,(callFunc F5 args).run Tryz.prog w=.ok (.enter F5 args) w:=hF5 ▸ enters_size hq5
   rw [←hF5] at hcall5
   have HC5:=Aside0.mk hcall5
   generalize RT[j]=x5 at *
   have w1j:wrap64 ((j:Int)+1)=(j:Int)+1:=wrS (by omega) (by omega)
   by_cases h60:x5.size≤60
   ·have hd5:decide (x5.size≤60)=true:=decide_eq_true h60
    have HH5:=Aside0.mk (And.intro htk (And.intro h60 hlt5))
    clear hBW hROW hL5 hCH hSZ hLN hcall5 hq5 hm5 hs5 hF5 htk
    unfold encI at hc5
    go_wp2_with (first
     | (refine HC5.out.mono ?_;rintro e w7 ⟨rfl,hb7⟩;have H7:=Aside0.mk hb7;clear hb7)
     | (go_at_call 67;refine (demand_ok 5 _).mono ?_;rintro e w8 ⟨rfl,rfl⟩))
    obtain ⟨htk,h60,hlt5⟩:=HH5.out
    rw [w1j]
    refine ⟨⟨j+1,by simp,⟨by omega⟩,⟨fun t ht=>?_⟩,⟨below_step HB2.out H7.out⟩⟩,?_⟩
    ·rcases htk t ht with rfl|ht
     ·exact h60
     ·exact HA2.out t ht
    ·simp only [intOf]
     omega
   ·have hd5:decide (x5.size≤60)=false:=decide_eq_false h60
    have hR5:R=none:=hCH.trans (chk_no hm5 h60)
    have HH5:=Aside0.mk (And.intro hBW hR5)
    clear hBW hROW hL5 hCH hSZ hLN hcall5 hq5 hm5 hs5 hF5 htk hR5
    unfold encI at hc5
    go_wp2_with (first
     | (refine HC5.out.mono ?_;rintro e w7 ⟨rfl,hb7⟩;have H7:=Aside0.mk hb7;clear hb7)
     | (go_at_call 67;refine (demand_no 5 _).mono ?_;rintro e w8 ⟨rfl,rfl⟩))
    rw [HH5.out.2]
    exact ⟨rfl,(below_step HH5.out.1 (below_step HB2.out H7.out)),rfl⟩
  ·have hlb:decide ((j:Int) < (RT.length:Int))=false:=decide_eq_false (by omega)
   have hR5:R=some RT:=hCH.trans (chk_ok (fun t ht=>HA2.out t (by rwa [List.take_of_length_le (by omega)])))
   have hfin:OutN w ok R (.returned (.slice A5 RT.length c5)) wr:=by
    rw [hR5]
    exact ⟨below_step hBW HB2.out,_,rfl,hROW.below HB2.out⟩
   have HFI:=Aside0.mk hfin
   clear hBW hROW hL5 hCH hSZ hLN hR5 hfin
   go_wp2
   go_ret
   exact HFI.out
set_option maxHeartbeats 2000000 in
set_option maxRecDepth 100000 in
theorem next_app (ls:List (Tm × Tm)) (hls:LawsGood ls) (hln:ls.length≤1000) (s:Int) (l:List Tm) (ih:∀ x,x∈l→NxOk ls x) (A:Option Addr) (cap:Nat) (w:World) (ok okL:Nat→Prop) (AL:Option Addr) (capL:Nat) (hL:HasW w okL ls AL) (hl:HasL w ok l A 0) (hcap:l.length≤cap) (hg:(Tm.app s l).good) (hs:(Tm.app s l).size≤60) (hok:∀ k,w.heap.size≤k→ok k) (R:Option (List Tm)) (hR:R=(nextL ls s [] l).bind fun r=>chk (rootT ls (.app s l)++r)) :
  Calls Tryz.prog 99 #[.slice AL ls.length capL,.iface 149 (.agg #[.int .u8 s,.slice A l.length cap])] w (OutN w ok R):=by
 have hrc:=root_calls ls AL capL (.app s l) (149,.agg #[.int .u8 s,.slice A l.length cap]) w ok okL hL (Has.app_.2 ⟨A,cap,rfl,hcap,hl⟩) hg (by omega) hls hln hok
 have hsz:∀ t,t∈rootT ls (.app s l)→t.size≤720:=fun t ht=>rootT_size hls hs ht
 have hlen:(rootT ls (.app s l)).length≤1000:=by
  have:=rootT_len ls (.app s l)
  omega
 have hl2:=good_len hg
 rw [Tm.good] at hg
 rw [Tm.size] at hs
 generalize rootT ls (.app s l)=RT at *
 unfold encI at hrc
 have HC:=Aside0.mk hrc
 have HP:=Aside0.mk (And.intro hsz (And.intro hlen (And.intro hok (And.intro hR (And.intro hls (And.intro hln (And.intro ih (And.intro hL (And.intro hl (And.intro hcap (And.intro hg (And.intro hs hl2))))))))))))
 clear hrc hL hg hls hln hok hR hsz hlen ih hl hcap hs hl2
 go_enter Tryz.func99,Tryz.ntmps99
 go_wp2_with (go_at_call 123;refine HC.out.mono ?_;rintro e wa ⟨v0,rfl,hrow,hb⟩;have HX:=Aside0.mk (And.intro hrow hb);clear hrow hb)
 go_loopw [5,27] (fun v5 v27 wr=>∃ (i:Nat) (acc:List Tm),v27=.int .i64 (i:Int)∧Aside0 (i≤l.length)∧Aside0 (R=(nextL ls s (l.take i) (l.drop i)).bind fun r=>chk (acc++r))∧Aside0 (Row wr w.heap.size ok v5 acc)∧Aside0 (App v0.ownBlock (wa.alloc (.cells #[.int .u8 s,.slice A l.length cap] 149)) v5 wr)∧Aside0 ((∀ t,t∈acc→t.size≤1000)∧acc.length≤1000+60000 * i)) (fun _ v27 _=>l.length - (intOf v27).toNat)
 case atStart =>
  obtain ⟨hsz,hlen,hok,hR,hls,hln,ih,hL,hl,hcap,hg,hs,hl2⟩:=HP.out
  exact ⟨0,RT,rfl,⟨Nat.zero_le _⟩,⟨hR⟩,⟨HX.out.1.below (below_alloc (Below.refl _ _) _)⟩,⟨App.refl _ _⟩,⟨fun t ht=>by have:=hsz t ht;omega,by omega⟩⟩
 case round =>
  obtain ⟨i,acc,rfl,HI,HR,HRW,HAP,HAC⟩:=hrel
  obtain ⟨hsz,hlen,hok,hR,hls,hln,ih,hL,hl,hcap,hg,hs,hl2⟩:=HP.out
  have hw1:Below w.heap.size w (wa.alloc (.cells #[.int .u8 s,.slice A l.length cap] 149)):=below_step HX.out.2 (below_alloc (Below.refl _ _) _)
  have hbw:Below w.heap.size w wr:=hw1.trans (HAP.out.toBelow (fun k hk=>(HX.out.1.own k hk).1) hw1.size)
  have hbx0:(wa.alloc (.cells #[.int .u8 s,.slice A l.length cap] 149)).heap[wa.heap.size]?=some (.cells #[.int .u8 s,.slice A l.length cap] 149 (0,0)):=blk_new wa _
  have hbxr:=(HAP.out.1.block wa.heap.size (by simp) (fun e=>by have:=(HX.out.1.own _ e.symm).2;omega)).trans hbx0
  by_cases hlt:i < l.length
  ·have hlb:decide ((i:Int) < (l.length:Int))=true:=decide_eq_true (by omega)
   obtain ⟨g,cs,ps,rfl,hokg,hgc,hps,hpc⟩:=hl.pairs (by omega)
   have hgl:=(gl_ hgc)
   have hgr:=(hbw.block g hgl).trans hgc
   obtain ⟨hc1,hq0⟩:=hpc i hlt (by omega)
   obtain ⟨⟨t1,p1⟩,hp1⟩:∃ p,p=ps[i]'(by omega):=⟨_,rfl⟩
   rw [←hp1] at hc1 hq0
   have hcell:wr.cell? ⟨g,i,none⟩=some (.iface t1 p1):=(blk_cell hgr i).trans hc1
   obtain ⟨own1,hown1⟩:∃ o,o=u5.ownBlock:=⟨_,rfl⟩
   have hq1:Has wr (fun k=>ok k∧some k≠own1) l[i] (t1,p1):=Has.step (fun k hk hl=>⟨⟨hk,fun e=>by have:=HRW.out.own k (hown1 ▸ e.symm);omega⟩,hbw.block k hl⟩) hq0
   have hm1:l[i]∈l:=List.getElem_mem hlt
   have hsi:=sizes_mem l _ hm1
   have hcall:=ih l[i] hm1 (t1,p1) wr (fun k=>ok k∧some k≠own1) okL AL capL (hL.below hbw) hq1 (goods_mem hg.2.2 hm1) (by omega) (fun k hk=>⟨hok k (by have:=hbw.size;omega),fun e=>by have:=HRW.out.own k (hown1 ▸ e.symm);omega⟩)
   have w1i:wrap64 ((i:Int)+1)=(i:Int)+1:=wrp i (by omega)
   cases hn:nextT ls l[i] with
   | none =>
    have hR0:=nextL_no hlt HR.out hn
    rw [hn] at hcall
    have HC1:=Aside0.mk hcall
    have HH:=Aside0.mk (And.intro hbw hR0)
    clear hsz hlen hok hR hls hln ih hL hl hcap hg hs hl2 hw1 hbw hbx0 hbxr hokg hgc hps hpc hgl hgr hc1 hq0 hp1 hq1 hm1 hsi hcall hn hR0
    unfold encI at HC1
    go_wp2_with (go_at_call 99;refine HC1.out.mono ?_;rintro e w2 ⟨hb2,rfl⟩;have H2:=Aside0.mk hb2;clear hb2)
    rw [HH.out.2]
    exact ⟨rfl,below_step HH.out.1 H2.out,rfl⟩
   | some r1 =>
    have hR1:=nextL_step hlt HR.out hn
    have hlen1:=nextT_len ls l[i] r1 hn
    have hsz1:=nextT_size hn
    rw [hn] at hcall
    have HC1:=Aside0.mk hcall
    have hps2:∀ j (h1:j < l.length) (h2:j < ps.length),cs[j]?=some (encI ps[j])∧Has w ok l[j] ps[j]:=hpc
    have HH:=Aside0.mk (And.intro hbw (And.intro hR1 (And.intro hlen1 (And.intro hsz1 (And.intro hbxr (And.intro hps (And.intro hps2 (And.intro hgc (And.intro hgl (And.intro hlt hsi))))))))))
    clear hsz hlen hok hR hls hln ih hL hl hcap hg hs hl2 hw1 hbw hbx0 hbxr hokg hgc hps hpc hgl hgr hc1 hq0 hp1 hq1 hm1 hsi hcall hn hR1 hlen1 hsz1 hps2
    unfold encI at HC1
    go_wp2_with (go_at_call 99;refine HC1.out.mono ?_;rintro e w2 ⟨hb2,v34,rfl,hrow2⟩;have H2:=Aside0.mk (And.intro hb2 hrow2);obtain ⟨A34,c34,rfl,hc34,hL34⟩:=hrow2.read (fun k hk=>⟨HP.out.2.2.1 k (by have:=HH.out.1.size;omega),fun e=>by have:=HRW.out.own k (hown1 ▸ e.symm);omega⟩);have HL34:=Aside0.mk hL34;clear hb2 hrow2 hc34 hL34)
    have hlen34:r1.length≤60000:=by
     have h1:=HH.out.2.2.1
     have h2:=HH.out.2.2.2.2.2.2.2.2.2.2
     have h3:=HP.out.2.2.2.2.2.1
     have h4:=HP.out.2.2.2.2.2.2.2.2.2.2.2.1
     have h5:(ls.length:Int) * l[i].size≤1000 * 60:=Int.mul_le_mul (by omega) (by omega) (by have:=Tm.size_pos l[i];omega) (by omega)
     omega
    have HLN:=Aside0.mk hlen34
    clear hlen34
    generalize l[i]=u at *
    go_loopw [5,36] (fun v5 v36 wr=>∃ (k:Nat) (acc2:List Tm),v36=.int .i64 (k:Int)∧Aside0 (k≤r1.length)∧Aside0 (acc2=acc++(r1.take k).map (mkT s l i))∧Aside0 (Row wr w.heap.size ok v5 acc2)∧Aside0 (App own1 w2 v5 wr)) (fun _ v36 _=>r1.length - (intOf v36).toNat)
    case atStart =>
     exact ⟨0,acc,rfl,⟨Nat.zero_le _⟩,⟨by simp⟩,⟨HRW.out.below H2.out.1⟩,⟨hown1 ▸ App.refl w2 u5⟩⟩
    case round =>
     obtain ⟨k,acc2,rfl,HK,HA2,HRW2,HAP2⟩:=hrel
     by_cases hlt3:k < r1.length
     ·have hlb3:decide ((k:Int) < (r1.length:Int))=true:=decide_eq_true (by omega)
      obtain ⟨hbw0,hR1,hlen1,hsz1,hbxr,hps,hpc,hgc,hgl,hlti,hsi⟩:=HH.out
      obtain ⟨hsz,hlen,hok,hR,hls,hln,ih,hL,hl,hcap,hg,hs,hl2⟩:=HP.out
      have hownw:∀ k,own1=some k→w.heap.size≤k∧k < w2.heap.size:=fun k hk=>by
       have:=HRW.out.own k (hown1 ▸ hk)
       have:=H2.out.1.size
       omega
      have hbw2:Below w.heap.size w w2:=below_step hbw0 H2.out.1
      have hbwr:Below w.heap.size w wr:=hbw2.trans (HAP2.out.toBelow (fun k hk=>(hownw k hk).1) hbw2.size)
      have hL34b:HasL w2 (fun k=>(ok k∧some k≠own1)∧k < w2.heap.size) r1 A34 0:=HL34.out.step (fun k hk hl=>⟨⟨hk,hl⟩,rfl⟩)
      obtain ⟨g34,⟨t3,p3⟩,e34,hc3,hq3⟩:=hL34b.step' (w':=wr) (fun k hk hl=>HAP2.out.1.block k hl (fun e=>hk.1.2 e)) k hlt3
      subst e34
      have hbx2:=(H2.out.1.block wa.heap.size (gl_ hbxr)).trans hbxr
      have hne1:some wa.heap.size≠own1:=by
       intro e
       rcases HAP.out.2 with h2|⟨b,h2,h3⟩
       ·have:=(HX.out.1.own wa.heap.size (by rw [←h2,←hown1,←e])).2
        omega
       ·rw [←hown1,←e] at h2
        injection h2 with h2
        simp at h3
        omega
      have hbx:=(HAP2.out.1.block wa.heap.size (gl_ hbx2) hne1).trans hbx2
      have hbxl:=(gl_ hbx)
      have hgw:=(hbwr.block g hgl).trans hgc
      have hps0:0 < ps.length:=by omega
      have hcl:∀ w',Below wr.heap.size wr w'→Calls Tryz.prog 126 #[.slice (some ⟨g,0,none⟩) l.length cap] w' fun e w''=>∃ (g2 cap2:Nat) (cells2:Array Value),e=.returned (.slice (some ⟨g2,0,none⟩) l.length cap2)∧l.length≤cap2∧w'.heap.size≤g2∧w''.heap[g2]?=some (.cells cells2 99 (0,0))∧(∀ j (h:j < ps.length),cells2[j]?=some (encI ps[j]))∧Below w'.heap.size w' w'':=by
       intro w' hb'
       have:=clone_calls ps g cap cs w' ((hb'.block g (gl_ hgw)).trans hgw) (fun j hj=>(hpc j (by omega) hj).1) (by omega)
       rw [hps] at this
       refine this.mono (fun e w'' hh=>?_)
       obtain ⟨v',rfl,hR',hb''⟩:=hh
       obtain ⟨g2,cap2,cells2,hv,hc,hb,hg2,hcs2⟩:=kI_cells hR' hps0
       rw [hps] at hv hc
       exact ⟨g2,cap2,cells2,by rw [hv],hc,hb,hg2,hcs2,hb''⟩
      have HCL:=Aside0.mk hcl
      have HQ:=Aside0.mk (And.intro hq3 (And.intro hbwr (And.intro hps (And.intro hpc hownw))))
      have w1k:wrap64 ((k:Int)+1)=(k:Int)+1:=wrS (by omega) (by have:=HLN.out;omega)
      obtain ⟨vs2,hr2,hl2',hT2⟩:=HRW2.out
      have HR2:=Aside0.mk (And.intro hr2 (And.intro hl2' hT2))
      have HBX:=Aside0.mk (And.intro hbx hbxl)
      have HPS:=Aside0.mk hps0
      clear hbw0 hR1 hlen1 hsz1 hbxr hps hpc hgc hgl hlti hsi hsz hlen hok hR hls hln ih hL hl hcap hg hs hl2 hownw hbw2 hbwr hL34b hq3 hbx2 hne1 hbx hbxl hgw hps0 hcl hr2 hl2' hT2
      unfold encI at hc3
      go_wp2
      have hbx:=HBX.out.1
      have hbxl:=HBX.out.2
      have hps0:=HPS.out
      refine start_ (n:=8) (S:=fun w'=>w'.cell? ⟨wa.heap.size,0,none⟩=some (.int .u8 s)∧w'.cell? ⟨wa.heap.size,1,none⟩=some (.slice (some ⟨g,0,none⟩) l.length cap)) (ds:=[7]) (bm 8 0) (by kernel_rfl) rfl rfl ⟨(blk_cell (blk_drew hbx) 0),(blk_cell (blk_drew hbx) 1)⟩ (fun hHeld=>?_)
      refine pk_ 0 40 (bm 8 1) ?_
      refine pk_ 2 42 (bm 8 5) ?_
      refine take_ (i:=1) (N:=some 41) (v:=?_) (a':=?_) (bm 8 7) rfl rfl (by kernel_rfl) (fun _ _ _ h=>h) (Or.inl ⟨by rfl,?_⟩) hHeld ?_ ?_;rotate_left;(rintro w' ⟨s0,s1⟩;go_simp;with_reducible rfl);rotate_left;exact tP_
      refine take_ (i:=3) (N:=some 43) (v:=?_) (a':=?_) (bm 8 15) rfl rfl (by kernel_rfl) (fun _ _ _ h=>h) (Or.inl ⟨by rfl,?_⟩) hHeld ?_ ?_;rotate_left;(rintro w' ⟨s0,s1⟩;go_simp;with_reducible rfl);rotate_left;exact tP_
      refine join_ (σ:=Nat × Nat × Nat) 1 #[true,true,true,true,true,true,true,false] (fun x=>[(44,.slice (some ⟨x.1,0,none⟩) l.length x.2.1),(45,.agg #[.int .u8 s,.slice (some ⟨x.1,0,none⟩) l.length x.2.1]),(12,.pointer (some ⟨x.2.2,0,none⟩))]) (fun x w'=>∃ cells2:Array Value,w'.heap[x.1]?=some (.cells cells2 99 (0,0))∧(∀ j (h:j < ps.length),cells2[j]?=some (encI ps[j]))∧w'.heap[x.2.2]?=some (.cells #[.int .u8 0,.slice none 0 0] 149 (0,0))∧Below wr.heap.size wr w'∧wr.heap.size≤x.1∧wr.heap.size≤x.2.2∧x.1≠x.2.2∧l.length≤x.2.1) ?_ ?_
      rotate_left
      ·intro hCont
       refine two_ (i:=4) (j:=6) (Ni:=some 44) (Nj:=some 12) #[true,true,true,true,true,false,false,false] #[true,true,true,true,false,false,true,false] rfl rfl rfl rfl (by kernel_rfl) (by decide) (by decide) (fun K hK=>?_) (fun K hK=>?_)
       ·skip
        refine goesD_ Tryz.func126 (by kernel_rfl) rfl #[.slice (some ⟨g,0,none⟩) l.length cap] (by rfl) rfl rfl (by simp only [List.map_toArray,List.map_cons,List.map_nil];rfl) ?_
        refine (HCL.out _ (below_draw _)).mono ?_
        rintro e w4 ⟨g2,cap2,cells2,rfl,hcap2,hbase2,hc2,hcs2,hbc⟩
        refine .inl ⟨_,rfl,?_⟩
        have hbb:wr.heap.size+0≤g2:=by simpa using hbase2
        have hb4:Below wr.heap.size wr w4:=⟨hbc.os,hbc.tape,hbc.output,hbc.size,hbc.block⟩
        have hbx4:=(hb4.block _ hbxl).trans hbx
        have hc40:=blk_cell hbx4 0
        have hc41:=blk_cell hbx4 1
        refine hK.out _ _ ⟨hc40,hc41⟩ (fun hHeld=>?_)
        clear hK K
        refine norm_ (a':=?_) ?_ ?_;rotate_left;(show Act.put _ (some 44) _=_;exact tP_)
        refine pk_ 5 45 (bm 8 63) ?_
        refine one_ (i:=6) (N:=some 12) (bm 8 127) rfl rfl (by kernel_rfl) (by decide) (fun K hK=>?_)
        refine value_ (w1:=?_) (v:=?_) (by rfl) rfl ?_ ?_
        rotate_left 2
        ·go_simp
         constructor
         ·rfl
         ·rfl
        have hc60:=blk_cell (blk_alloc hbx4 (.cells #[.int .u8 0,.slice none 0 0] 149)) 0
        have hc61:=blk_cell (blk_alloc hbx4 (.cells #[.int .u8 0,.slice none 0 0] 149)) 1
        refine hK.out _ _ ⟨hc60,hc61⟩ (fun hHeld=>?_)
        clear hK K
        refine norm_ (a':=?_) ?_ ?_;rotate_left;(show Act.put _ (some 12) _=_;exact tP_)
        exact norm_ (by simp only [putAll,Act.put,List.setIfInBounds_toArray,List.set_cons_zero,List.set_cons_succ]) (hCont (g2,cap2,w4.heap.size) _ ⟨cells2,blk_alloc hc2 _,hcs2,blk_new w4 _,below_step hb4 (below_alloc (Below.refl _ _) _),(show wr.heap.size≤g2 from by omega),hb4.size,(show g2≠w4.heap.size from by have:=(gl_ hc2);omega),hcap2⟩)
       ·skip
        refine value_ (w1:=?_) (v:=?_) (by rfl) rfl ?_ ?_
        rotate_left 2
        ·go_simp
         constructor
         ·rfl
         ·rfl
        have hbz1:Below wr.heap.size wr (wr.drew.alloc (.cells #[.int .u8 0,.slice none 0 0] 149)):=below_alloc (below_draw _) _
        have hnz1:(wr.drew.alloc (.cells #[.int .u8 0,.slice none 0 0] 149)).heap[wr.heap.size]?=some (.cells #[.int .u8 0,.slice none 0 0] 149 (0,0)):=blk_new wr.drew _
        have hlz1:wr.heap.size < (wr.drew.alloc (.cells #[.int .u8 0,.slice none 0 0] 149)).heap.size:=(gl_ hnz1)
        have hbx6:=(hbz1.block _ hbxl).trans hbx
        have hc60:=blk_cell hbx6 0
        have hc61:=blk_cell hbx6 1
        refine hK.out _ _ ⟨hc60,hc61⟩ (fun hHeld=>?_)
        clear hK K
        refine norm_ (a':=?_) ?_ ?_;rotate_left;(show Act.put _ (some 12) _=_;exact tP_)
        refine one_ (i:=4) (N:=some 44) (bm 8 95) rfl rfl (by kernel_rfl) (by decide) (fun K hK=>?_)
        refine goesD_ Tryz.func126 (by kernel_rfl) rfl #[.slice (some ⟨g,0,none⟩) l.length cap] (by rfl) rfl rfl (by simp only [List.map_toArray,List.map_cons,List.map_nil];rfl) ?_
        refine (HCL.out _ hbz1).mono ?_
        rintro e w4 ⟨g2,cap2,cells2,rfl,hcap2,hbase2,hc2,hcs2,hbc⟩
        refine .inl ⟨_,rfl,?_⟩
        have hbb:wr.heap.size+1≤g2:=by simpa using hbase2
        have hb4:Below wr.heap.size wr w4:=below_step hbz1 hbc
        have hbx4:=(hb4.block _ hbxl).trans hbx
        have hc40:=blk_cell hbx4 0
        have hc41:=blk_cell hbx4 1
        refine hK.out _ _ ⟨hc40,hc41⟩ (fun hHeld=>?_)
        clear hK K
        refine norm_ (a':=?_) ?_ ?_;rotate_left;(show Act.put _ (some 44) _=_;exact tP_)
        refine pk_ 5 45 (bm 8 127) ?_
        exact norm_ (by simp only [putAll,Act.put,List.setIfInBounds_toArray,List.set_cons_zero,List.set_cons_succ]) (hCont (g2,cap2,wr.heap.size) _ ⟨cells2,hc2,hcs2,(hbc.block _ hlz1).trans hnz1,hb4,(show wr.heap.size≤g2 from by omega),Nat.le_refl _,(show g2≠wr.heap.size from by omega),hcap2⟩)
      rintro ⟨g2,cap2,by0⟩ w5 ⟨cells2,hc2,hcs2,hy,hb5,hge1,hge2,hne,hcap2⟩
      dsimp only at hc2 hy hge1 hge2 hne hcap2 ⊢
      have hbx5:=(hb5.block _ hbxl).trans hbx
      have hHeld:w5.cell? ⟨wa.heap.size,0,none⟩=some (.int .u8 s)∧w5.cell? ⟨wa.heap.size,1,none⟩=some (.slice (some ⟨g,0,none⟩) l.length cap):=⟨blk_cell hbx5 0,blk_cell hbx5 1⟩
      have hcy0:w5.cell? ⟨by0,0,none⟩=some (.int .u8 0):=blk_cell hy 0
      have hcy1:w5.cell? ⟨by0,1,none⟩=some (.slice none 0 0):=blk_cell hy 1
      have hzy0:w5.frozen? ⟨by0,0,none⟩=false:=by simp [World.frozen?,hy]
      have hzy1:w5.frozen? ⟨by0,1,none⟩=false:=by simp [World.frozen?,hy]
      refine norm_ (a':=?_) ?_ ?_;rotate_left
      ·simp only [putAll,Act.put,List.setIfInBounds_toArray,List.set_cons_zero,List.set_cons_succ]
       rfl
      refine last_ (i:=7) (N:=none) (bm 8 255) rfl rfl (by kernel_rfl) (by decide) (fun K hK=>?_)
      refine skip_ (w1:=?_) (by rfl) rfl ?_ ?_
      rotate_left
      ·go_simp
       rfl
      refine hK.out _ _ ?_
      clear hK K
      refine done_ (by kernel_rfl) ?_
      obtain ⟨hq3,hbwr,hps,hpc,hownw⟩:=HQ.out
      have hy6:((w5.setCell ⟨by0,0,none⟩ (.int .u8 s)).setCell ⟨by0,1,none⟩ (.slice (some ⟨g2,0,none⟩) l.length cap2)).heap[by0]?=some (.cells #[.int .u8 s,.slice (some ⟨g2,0,none⟩) l.length cap2] 149 (0,0)):=(blk_set2 (blk_set2 hy (.int .u8 s)).1 _).2
      have hg6:((w5.setCell ⟨by0,0,none⟩ (.int .u8 s)).setCell ⟨by0,1,none⟩ (.slice (some ⟨g2,0,none⟩) l.length cap2)).heap[g2]?=some (.cells cells2 99 (0,0)):=(Below.heap_setCell _ ⟨by0,1,none⟩ _ g2 hne).trans ((Below.heap_setCell w5 ⟨by0,0,none⟩ _ g2 hne).trans hc2)
      have hb6:Below wr.heap.size wr ((w5.setCell ⟨by0,0,none⟩ (.int .u8 s)).setCell ⟨by0,1,none⟩ (.slice (some ⟨g2,0,none⟩) l.length cap2)):=(hb5.setCell (p:=⟨by0,0,none⟩) hge2 _).setCell (p:=⟨by0,1,none⟩) hge2 _
      obtain ⟨w6,hw6⟩:∃ w6,w6=((w5.setCell ⟨by0,0,none⟩ (.int .u8 s)).setCell ⟨by0,1,none⟩ (.slice (some ⟨g2,0,none⟩) l.length cap2)):=⟨_,rfl⟩
      rw [←hw6] at hy6 hg6 hb6 ⊢
      clear hw6 hcy0 hcy1 hzy0 hzy1 hy hc2 hb5 hHeld hbx5
      obtain ⟨zi,hci⟩:∃ zi,w6.cell? ⟨g2,i,none⟩=some zi:=⟨_,(blk_cell hg6 i).trans (hcs2 i (by omega))⟩
      have hzi:w6.frozen? ⟨g2,i,none⟩=false:=by simp [World.frozen?,hg6]
      have hisz:i < cells2.size:=(Array.getElem?_eq_some_iff.1 (hcs2 i (by omega))).1
      obtain ⟨cells7,hg7,hs7,ho7⟩:=blk_setN hg6 i hisz (.iface t3 p3)
      have hy7:(w6.setCell ⟨g2,i,none⟩ (.iface t3 p3)).heap[by0]?=some (.cells #[.int .u8 s,.slice (some ⟨g2,0,none⟩) l.length cap2] 149 (0,0)):=(Below.heap_setCell w6 ⟨g2,i,none⟩ _ by0 (fun e=>hne e.symm)).trans hy6
      have hd60:=blk_cell hy6 0
      have hd61:=blk_cell hy6 1
      have hd0:=blk_cell hy7 0
      have hd1:=blk_cell hy7 1
      have hb7:Below wr.heap.size wr (w6.setCell ⟨g2,i,none⟩ (.iface t3 p3)):=hb6.setCell (p:=⟨g2,i,none⟩) hge1 _
      have hok:=HP.out.2.2.1
      have hnew:Has (w6.setCell ⟨g2,i,none⟩ (.iface t3 p3)) (fun k=>ok k∧some k≠u5.ownBlock) (mkT s l i r1[k]) (149,.agg #[.int .u8 s,.slice (some ⟨g2,0,none⟩) l.length cap2]):=by
       have hown5:=HRW2.out.own
       have hwr:=hbwr.size
       rw [mkT_set s l i _ hlt]
       refine Has.app_.2 ⟨some ⟨g2,0,none⟩,cap2,by rw [List.length_set],by rw [List.length_set];exact hcap2,HasL.of ⟨hok g2 (by omega),fun e=>by have:=(hown5 g2 e.symm).2;omega⟩ hg7 _ 0 (fun j hj=>?_)⟩
       rw [List.length_set] at hj
       rw [Nat.zero_add]
       by_cases hji:j=i
       ·subst hji
        refine ⟨(t3,p3),hs7,?_⟩
        rw [List.getElem_set_self]
        refine Has.step (fun k hk hl=>⟨⟨hk.1.1,?_⟩,hb7.block k hl⟩) hq3
        intro e
        rcases HAP2.out.2 with h2|⟨b,h2,h3⟩
        ·exact hk.1.2 (e.trans h2)
        ·rw [h2] at e
         injection e with e
         have:=hk.2
         omega
       ·refine ⟨ps[j]'(by omega),(ho7 j hji).trans (hcs2 j (by omega)),?_⟩
        rw [List.getElem_set_ne (fun e=>hji e.symm)]
        refine Has.step (fun k hk hl=>⟨⟨hk,?_⟩,(hb7.block k (by omega)).trans (hbwr.block k hl)⟩) (hpc j hj (by omega)).2
        intro e
        have:=(hown5 k e.symm).1
        omega
      have H7:=Aside0.mk (And.intro hb7 (And.intro hnew hbwr))
      clear hb7 hnew hbwr hq3 hps hpc hownw hy6 hg6 hb6 hg7 hs7 ho7 hy7 hok hisz hbx hbxl hps0 hcs2 hcap2
      go_wp2_with ((with_reducible refine gate_builtin (b:=.append) (xs:=#[.tmp 51,.tmp 54]) rfl ?_);at_builtin;refine Kd.R_append kI (w0:=w) w.heap.size rfl (.tmp 51) (.tmp 54) 111 99 .nilIface 16 rfl Tryz.underlying111 info99 rfl (by decide) (by omega) u5 vs2 (149,.agg #[.int .u8 s,.slice (some ⟨g2,0,none⟩) l.length cap2]) [.iface 149 (.agg #[.int .u8 s,.slice (some ⟨g2,0,none⟩) l.length cap2])] (fun _=>True) (fun _=>False) rfl (by simp [Act.eval]) ?aP (fun _ hk=>hk.elim) ?aF ?aO ?aB ?aS ?aL ?_;(case aP=>exact rfl);(case aB=>exact below_step H7.out.2.2 H7.out.1);(case aF=>exact (fun _ _=>trivial));(case aO=>exact Kd.R_below HR2.out.1 H7.out.1);(case aS=>exact Nat.le_trans H7.out.2.2.size H7.out.1.size);(case aL=>have h1:=HR2.out.2.1;have h2:=congrArg List.length HA2.out;have h3:=HAC.out.2;have h4:=HLN.out;have h5:=HP.out.2.2.2.2.2.2.2.2.2.2.2.2;simp at h2;omega);intro v6 w8 ho hb hg hat;have H8:=Aside0.mk (And.intro ho (And.intro hb (And.intro hg hat)));clear ho hb hg hat)
      obtain ⟨ho8,hb8,hg8,hat8⟩:=H8.out
      obtain ⟨hb7,hnew,hbwr⟩:=H7.out
      have hrow8:=Row.snoc (ok:=ok) HR2.out.2.1 (fun j h1 h2=>(HR2.out.2.2 j h1 h2).below hb7) hnew ho8 hg8 hat8
      rw [w1k]
      refine ⟨⟨k+1,acc2++[mkT s l i r1[k]],by simp,⟨by omega⟩,⟨?_⟩,⟨hrow8⟩,⟨(HAP2.out.below hb7).step ⟨hg8,hat8⟩⟩⟩,?_⟩
      ·rw [HA2.out,List.take_succ_eq_append_getElem hlt3,List.map_append,List.append_assoc]
       rfl
      ·simp only [intOf]
       omega
     ·have hlb3:decide ((k:Int) < (r1.length:Int))=false:=decide_eq_false (by omega)
      obtain ⟨hbw0,hR1,hlen1,hsz1,hbxr,hps,hpc,hgc,hgl,hlti,hsi⟩:=HH.out
      have ea:acc2=acc++r1.map (mkT s l i):=by rw [HA2.out,List.take_of_length_le (by omega)]
      have hsz2:(∀ t,t∈acc2→t.size≤1000)∧acc2.length≤1000+60000 * (i+1):=by
       have h0:=HAC.out
       have h1:=HLN.out
       have h4:=HP.out.2.2.2.2.2.2.2.2.2.2.2.1
       rw [ea]
       refine ⟨fun t ht=>?_,by simp;omega⟩
       rcases List.mem_append.1 ht with ht|ht
       ·exact h0.1 t ht
       ·obtain ⟨v,hv,rfl⟩:=List.mem_map.1 ht
        have:=hsz1 v hv
        have:=mkT_size s l i v hlti
        omega
      have happ1:=HAP2.out
      rw [hown1] at happ1
      have happ:=(HAP.out.below H2.out.1).step happ1
      clear happ1
      have HE:=Aside0.mk (And.intro hR1 (And.intro ea (And.intro hsz2 happ)))
      clear hbw0 hR1 hlen1 hsz1 hbxr hps hpc hgc hgl hlti hsi ea hsz2 happ
      go_wp2
      obtain ⟨hR1,ea,hsz2,happ⟩:=HE.out
      rw [w1i]
      refine ⟨⟨i+1,acc2,by simp,⟨by omega⟩,⟨by rw [ea];exact hR1⟩,HRW2,⟨happ⟩,⟨hsz2⟩⟩,?_⟩
      simp only [intOf]
      omega
  ·have hlb:decide ((i:Int) < (l.length:Int))=false:=decide_eq_false (by omega)
   have hch:R=chk acc:=by
    have:=HR.out
    rw [List.drop_of_length_le (by omega),nextL,Option.bind_some,List.append_nil] at this
    exact this
   obtain ⟨A5,c5,rfl,hc5,hL5⟩:=HRW.out.read hok
   have HF:Aside0 (Below w.heap.size w wr∧Row wr w.heap.size ok (.slice A5 acc.length c5) acc∧HasL wr ok acc A5 0∧R=chk acc∧(∀ t,t∈acc→t.size≤1000)∧acc.length≤1000000):=⟨hbw,HRW.out,hL5,hch,HAC.out.1,by have:=HAC.out.2;have:=HI.out;omega⟩
   clear hsz hlen hok hR hls hln ih hL hl hcap hg hs hl2 hw1 hbw hbx0 hbxr hch hc5 hL5
   obtain ⟨wz,rfl⟩:∃ wz,wz=wr:=⟨_,rfl⟩
   go_wp2
   go_loopw [60] (fun v60 wf=>∃ (j:Nat),v60=.int .i64 (j:Int)∧Aside0 (j≤acc.length)∧Aside0 (∀ t,t∈acc.take j→t.size≤60)∧Aside0 (Below wz.heap.size wz wf)) (fun v60 _=>acc.length - (intOf v60).toNat)
   case atStart=>exact ⟨0,rfl,⟨Nat.zero_le _⟩,⟨fun t ht=>by simp at ht⟩,⟨Below.refl _ _⟩⟩
   case round =>
    have hBW:=HF.out.1
    have hROW:=HF.out.2.1
    have hL5:=HF.out.2.2.1
    have hCH:=HF.out.2.2.2.1
    have hSZ:=HF.out.2.2.2.2.1
    have hLN:=HF.out.2.2.2.2.2
    obtain ⟨j,rfl,HJ,HA2,HB2⟩:=hrel
    by_cases hlt5:j < acc.length
    ·have hlb:decide ((j:Int) < (acc.length:Int))=true:=decide_eq_true (by omega)
     obtain ⟨g5,⟨t5,p5⟩,e5,hc5,hq5⟩:=hL5.step' (w':=wr) (fun k hk hl=>HB2.out.block k hl) j hlt5
     subst e5
     have hm5:acc[j]∈acc:=List.getElem_mem hlt5
     have hs5:=hSZ _ hm5
     have hcall5:=size_calls acc[j] (t5,p5) wr ok hq5 (by omega)
     have htk:∀ t,t∈acc.take (j+1)→t=acc[j]∨t∈acc.take j:=fun t ht=>by
      rw [List.take_succ_eq_append_getElem hlt5,List.mem_append] at ht
      rcases ht with ht|ht
      ·exact .inr ht
      ·exact .inl (by simpa using ht)
     obtain ⟨F5,hF5⟩:∃ F,F=szF (t5,p5):=⟨_,rfl⟩
     have hm1:∀ w,(method 337 t5 p5 "numnah/rules.size").run Tryz.prog w=.ok (F5,p5) w:=hF5 ▸ meth_size hq5
     have hm2:∀ args w,(callFunc F5 args).run Tryz.prog w=.ok (.enter F5 args) w:=hF5 ▸ enters_size hq5
     rw [←hF5] at hcall5
     have HC5:=Aside0.mk hcall5
     generalize acc[j]=x5 at *
     have w1j:wrap64 ((j:Int)+1)=(j:Int)+1:=wrS (by omega) (by omega)
     by_cases h60:x5.size≤60
     ·have hd5:decide (x5.size≤60)=true:=decide_eq_true h60
      have HH5:=Aside0.mk (And.intro htk (And.intro h60 hlt5))
      clear hBW hROW hL5 hCH hSZ hLN hcall5 hq5 hm5 hs5 hF5 htk
      unfold encI at hc5
      go_wp2_with (first
       | (refine HC5.out.mono ?_;rintro e w7 ⟨rfl,hb7⟩;have H7:=Aside0.mk hb7;clear hb7)
       | (go_at_call 67;refine (demand_ok 5 _).mono ?_;rintro e w8 ⟨rfl,rfl⟩))
      obtain ⟨htk,h60,hlt5⟩:=HH5.out
      rw [w1j]
      refine ⟨⟨j+1,by simp,⟨by omega⟩,⟨fun t ht=>?_⟩,⟨below_step HB2.out H7.out⟩⟩,?_⟩
      ·rcases htk t ht with rfl|ht
       ·exact h60
       ·exact HA2.out t ht
      ·simp only [intOf]
       omega
     ·have hd5:decide (x5.size≤60)=false:=decide_eq_false h60
      have hR5:R=none:=hCH.trans (chk_no hm5 h60)
      have HH5:=Aside0.mk (And.intro hBW hR5)
      clear hBW hROW hL5 hCH hSZ hLN hcall5 hq5 hm5 hs5 hF5 htk hR5
      unfold encI at hc5
      go_wp2_with (first
       | (refine HC5.out.mono ?_;rintro e w7 ⟨rfl,hb7⟩;have H7:=Aside0.mk hb7;clear hb7)
       | (go_at_call 67;refine (demand_no 5 _).mono ?_;rintro e w8 ⟨rfl,rfl⟩))
      rw [HH5.out.2]
      exact ⟨rfl,(below_step HH5.out.1 (below_step HB2.out H7.out)),rfl⟩
    ·have hlb:decide ((j:Int) < (acc.length:Int))=false:=decide_eq_false (by omega)
     have hR5:R=some acc:=hCH.trans (chk_ok (fun t ht=>HA2.out t (by rwa [List.take_of_length_le (by omega)])))
     have hfin:OutN w ok R (.returned (.slice A5 acc.length c5)) wr:=by
      rw [hR5]
      exact ⟨below_step hBW HB2.out,_,rfl,hROW.below HB2.out⟩
     have HFI:=Aside0.mk hfin
     clear hBW hROW hL5 hCH hSZ hLN hR5 hfin
     go_wp2
     go_ret
     exact HFI.out
end
theorem next_calls (ls:List (Tm × Tm)) (hls:LawsGood ls) (hln:ls.length≤1000):∀ T,NxOk ls T:=by
 refine Tm.ind (fun c q w ok okL AL capL hL h hg hs hok=>?_) (fun s l ih q w ok okL AL capL hL h hg hs hok=>?_)
 ·rw [Has.var_] at h
  subst h
  exact next_var ls hls hln c w ok okL AL capL hL hg hok _ (by rw [nextT])
 ·rw [Has.app_] at h
  obtain ⟨A,cap,rfl,hc,hl⟩:=h
  exact next_app ls hls hln s l ih A cap w ok okL AL capL hL hl hc hg hs hok _ (by rw [nextT])
end Go.Proofs.YtaafeallcaiooaaGreat.Pr
