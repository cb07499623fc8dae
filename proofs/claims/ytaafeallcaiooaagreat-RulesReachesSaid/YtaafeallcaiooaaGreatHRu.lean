/- the reference's Rules says whether newLaws takes them; laws and few cut lists. -/
import Derived.Test.YtaafeallcaiooaaGreatPr0
import Derived.Test.YtaafeallcaiooaaGreatHPt
import Derived.Test.YtaafeallcaiooaaGreatPrA3
import Derived.Test.YtaafeallcaiooaaGreatHGt0
import Derived.Test.YtaafeallcaiooaaGreatPrB1
import Derived.Test.YtaafeallcaiooaaGreatHOt
import Derived.Test.YtaafeallcaiooaaGreatHAp
import Derived.Test.YtaafeallcaiooaaGreatPrA5
namespace Go.Proofs.YtaafeallcaiooaaGreat.Pr
open Go.RowKit Go.Proofs.Zw Go.Proofs.Zl Go.Proofs.Zm
set_option linter.unusedVariables false
set_option linter.unusedSimpArgs false
def Evt {α:Type} (g:Nat→Option α) (r:α):Prop:=∃ K,∀ k,K≤k→g k=some r
theorem Evt.bind {α β:Type} {g:Nat→Option α} {h:Nat→α→Option β} {a:α} {b:β} (hg:Evt g a) (hh:Evt (fun k=>h k a) b):Evt (fun k=>(g k).bind (h k)) b:=by
  obtain ⟨K,h1⟩:=hg
  obtain ⟨K',h2⟩:=hh
  refine ⟨max K K',fun k hk=>?_⟩
  show (g k).bind (h k)=some b
  rw [h1 k (by omega),Option.bind_some]
  exact h2 k (by omega)
theorem Evt.ex {α:Type} {g:Nat→Option α} {r:α} (h:Evt g r):∃ k,g k=some r:=by
  obtain ⟨K,h⟩:=h
  exact ⟨K,h K (Nat.le_refl _)⟩
theorem Evt.congr {α:Type} {g g':Nat→Option α} {r:α} (h:Evt g r) (e:∀ k,g' k=g k):Evt g' r:=by
  obtain ⟨K,h⟩:=h
  exact ⟨K,fun k hk=>(e k).trans (h k hk)⟩
theorem Evt.val {α:Type} {g:Nat→Option α} {r r':α} (h:Evt g r) (e:r=r'):Evt g r':=e ▸ h
theorem Evt.succ {α:Type} {g:Nat→Option α} {r:α} (h:Evt (fun k=>g (k+1)) r):Evt g r:=by
  obtain ⟨K,h⟩:=h
  refine ⟨K+1,fun k hk=>?_⟩
  obtain ⟨m,rfl⟩:∃ m,k=m+1:=⟨k - 1,by omega⟩
  exact h m (by omega)
theorem Evt.step {α:Type} {g g':Nat→Option α} {r:α} (e:∀ k,g (k+1)=g' k) (h:Evt g' r):Evt g r:=Evt.succ (h.congr e)
theorem Evt.now {α:Type} {g:Nat→Option α} {r:α} (e:∀ k,g (k+1)=some r):Evt g r:=Evt.succ ⟨0,fun k _=>e k⟩
theorem Evt.all {α:Type} {g:Nat→Option α} {r:α} (e:∀ k,g k=some r):Evt g r:=⟨0,fun k _=>e k⟩
theorem Evt.pos {α:Type} {c:Prop} [Decidable c] {g g':Nat→Option α} {r:α} (hc:c) (h:Evt g r):Evt (fun k=>if c then g k else g' k) r:=h.congr fun _=>if_pos hc
theorem Evt.neg {α:Type} {c:Prop} [Decidable c] {g g':Nat→Option α} {r:α} (hc:¬ c) (h:Evt g' r):Evt (fun k=>if c then g k else g' k) r:=h.congr fun _=>if_neg hc
def prt (c:Int):Int:=if c=97∨c=98∨(120≤c∧c≤122) then 0 else if c=99∨c=100 then 1 else if c=101∨c=102 then 2 else -1
theorem partsE (c:Int):Evt (fun k=>nr_Parts.f k c) (prt c):=by
 have h0:∀ x,Evt (fun k=>nr_Parts.j0 k x true) 0:=fun x=>Evt.now fun k=>by rw [nr_Parts.j0,if_pos rfl]
 by_cases h97:c=97
 ·subst h97
  exact (h0 97).congr fun k=>by unfold nr_Parts.f;rw [if_pos rfl]
 ·by_cases h98:c=98
  ·subst h98
   exact (h0 98).congr fun k=>by unfold nr_Parts.f;rw [if_neg (by decide),if_pos rfl]
  ·by_cases hv:120≤c∧c≤122
   ·have e:prt c=0:=by unfold prt;rw [if_pos (.inr (.inr hv))]
    rw [e]
    refine (h0 c).congr fun k=>?_
    unfold nr_Parts.f nr_Variable.f
    rw [if_neg h97,if_neg h98,if_pos hv.1,Option.bind_some,decide_eq_true hv.2]
   ·have hf:∀ k,nr_Parts.f k c=nr_Parts.j0 k c false:=fun k=>by
     unfold nr_Parts.f nr_Variable.f
     rw [if_neg h97,if_neg h98]
     by_cases h1:c≥120
     ·rw [if_pos h1,Option.bind_some,decide_eq_false (fun h2=>hv ⟨h1,h2⟩)]
     ·rw [if_neg h1,Option.bind_some]
    refine Evt.congr ?_ hf
    have e:prt c=if c=99∨c=100 then 1 else if c=101∨c=102 then 2 else -1:=by
     unfold prt
     rw [if_neg (fun h=>h.elim h97 (fun h=>h.elim h98 hv))]
    rw [e]
    have h1:∀ x,Evt (fun k=>nr_Parts.j1 k x true) 1:=fun x=>Evt.now fun k=>by rw [nr_Parts.j1,if_pos rfl]
    by_cases h99:c=99
    ·rw [if_pos (.inl h99)]
     exact Evt.step (g':=fun k=>nr_Parts.j1 k c true) (fun k=>by rw [nr_Parts.j0,if_neg (by simp),if_pos h99]) (h1 c)
    ·by_cases h100:c=100
     ·rw [if_pos (.inr h100)]
      exact Evt.step (g':=fun k=>nr_Parts.j1 k c true) (fun k=>by rw [nr_Parts.j0,if_neg (by simp),if_neg h99,h100];rfl) (h1 c)
     ·rw [if_neg (fun h=>h.elim h99 h100)]
      refine Evt.step (g':=fun k=>nr_Parts.j1 k c false) (fun k=>by rw [nr_Parts.j0,if_neg (by simp),if_neg h99,beq_eq_false_iff_ne.2 h100]) (Evt.now fun k=>?_)
      rw [nr_Parts.j1,if_neg (by simp)]
      by_cases h101:c=101
      ·rw [if_pos h101,if_pos (.inl h101)]
      ·by_cases h102:c=102
       ·rw [if_neg h101,if_pos h102,if_pos (.inr h102)]
       ·rw [if_neg h101,if_neg h102,if_neg (fun h=>h.elim h101 h102)]
def ltrB (c:Int):Bool:=decide (prt c≥0)
theorem letterE (c:Int):Evt (fun k=>nr_letter.f k c) (ltrB c):=Evt.bind (partsE c) (Evt.all fun _=>rfl)
theorem prt_sym {s:Int} (h:97≤s∧s≤102):prt s=nParts s:=by
 have:s=97∨s=98∨s=99∨s=100∨s=101∨s=102:=by omega
 rcases this with rfl|rfl|rfl|rfl|rfl|rfl<;>decide
theorem prt_var {s:Int} (h:120≤s∧s≤122):prt s=0:=by unfold prt;rw [if_pos (.inr (.inr h))]
theorem prt_inv {c:Int} (h:prt c≥0):(97≤c∧c≤102)∨(120≤c∧c≤122):=by
 unfold prt at h
 split at h
 ·omega
 ·split at h
  ·omega
  ·split at h
   ·omega
   ·omega
theorem at_cons {s:ByteArray} {i:Nat} {c:UInt8} {r:List UInt8} (h:s.data.toList.drop i=c :: r):i < s.size∧bt s (i:Int)=(c.toNat:Int)∧s.data.toList.drop (i+1)=r:=by
 have hl:i < s.data.toList.length:=by
  rcases Nat.lt_or_ge i s.data.toList.length with h1|h1
  ·exact h1
  ·rw [List.drop_eq_nil_of_le h1] at h;cases h
 have hi:i < s.size:=by simpa using hl
 rw [List.drop_eq_getElem_cons hl] at h
 injection h with h1 h2
 refine ⟨hi,?_,h2⟩
 have e:bt s (i:Int)=((s[i]'hi).toNat:Int):=by simp [bt,hi]
 rw [e,←h1]
 simp
 rfl
def EndOk (s:ByteArray) (t:Tm):Prop:=∀ (i:Nat) (r:List UInt8),s.data.toList.drop i=t.tx++r→Evt (fun k=>nr_End.f k s (i:Int)) ((i:Int)+t.tx.length)
theorem wrN {i:Nat} (s:ByteArray) (hs:s.size≤140737488351232) (h:i≤s.size):wrap64 ((i:Int)+1)=((i+1:Nat):Int):=(wr (by omega) (by omega)).trans (by omega)
theorem drop_app {l:List UInt8} {i:Nat} {a r:List UInt8} (h:l.drop i=a++r):l.drop (i+a.length)=r:=by
 rw [←List.drop_drop,h,List.drop_left]
theorem end_l0 (s:ByteArray) (hs:s.size≤140737488351232) (n:Nat) (hn:0 < n) (hn2:n≤2):∀ (l:List Tm) (j p:Nat) (r:List UInt8),(∀ x,x∈l→EndOk s x)→j+l.length=n→s.data.toList.drop p=txM j l++41 :: r →
  Evt (fun k=>nr_End.l0 k s (p:Int) (n:Int) (j:Int)) ((p:Int)+(txM j l).length+1)
 | [],j,p,r,hx,hj,h=>by
  rw [txM,List.nil_append] at h
  obtain ⟨h1,h2,h3⟩:=at_cons h
  have hj2:j=n:=by simpa using hj
  refine Evt.now fun k=>?_
  rw [nr_End.l0,if_neg (by omega),if_pos (by omega),if_neg (by omega),if_pos (by omega),if_pos (by omega),h2,if_pos (by decide),wrN s hs (by omega),txM]
  congr 1
 | x :: l,j,p,r,hx,hj,h=>by
  rw [txM,List.cons_append,List.append_assoc] at h
  obtain ⟨h1,h2,h3⟩:=at_cons h
  have hlen:j < n:=by rw [List.length_cons] at hj;omega
  have hsz:p+1+x.tx.length≤s.size:=by
   have h4:=congrArg List.length h3
   rw [List.length_drop,List.length_append] at h4
   have:s.data.toList.length=s.size:=by simp
   omega
  have hE:=hx x (by simp) (p+1) _ h3
  have hrest:=end_l0 s hs n hn hn2 l (j+1) (p+1+x.tx.length) r (fun y hy=>hx y (by simp [hy])) (by rw [List.length_cons] at hj;omega) (drop_app h3)
  have hw:=wrN s hs (i:=p) (by omega)
  have hwj:wrap64 ((j:Int)+1)=((j+1:Nat):Int):=(wr (by omega) (by omega)).trans (by omega)
  have hj2:Evt (fun k=>nr_End.j2 k s (p:Int) (n:Int) (j:Int) false) ((p:Int)+(txM j (x :: l)).length+1):=by
   refine Evt.step (g':=fun k=>(nr_End.f k s (wrap64 ((p:Int)+1))).bind fun t175=>(if t175 < 0 then (some (-1)) else (nr_End.l0 k s t175 (n:Int) (wrap64 ((j:Int)+1))))) (fun k=>by rw [nr_End.j2,if_neg (by simp)]) ?_
   rw [hw,hwj]
   refine Evt.bind hE ?_
   refine Evt.neg (by omega) ?_
   have e:((p+1:Nat):Int)+x.tx.length=((p+1+x.tx.length:Nat):Int):=by omega
   rw [e]
   refine hrest.val ?_
   rw [txM,List.length_cons,List.length_append]
   omega
  refine Evt.step (g':=fun k=>nr_End.j2 k s (p:Int) (n:Int) (j:Int) false) (fun k=>?_) hj2
  rw [nr_End.l0,if_pos (by omega),if_neg (by omega)]
  have hm:bt s (p:Int)=mark j:=by rw [h2,mark_nat]
  by_cases hj0:j=0
  ·subst hj0
   rw [if_pos (by rfl),if_pos (by omega),if_pos (by omega),hm,if_pos (by rfl),if_neg (by decide)]
  ·rw [if_neg (by omega),if_pos (by omega),if_pos (by omega),if_pos (by omega),hm]
   unfold mark
   rw [if_neg hj0]
   rfl
theorem rEndE (s:ByteArray) (hs:s.size≤140737488351232):∀ t:Tm,t.good→EndOk s t:=by
 have hstart:∀ (i:Nat) (c:UInt8) (r:List UInt8),s.data.toList.drop i=c :: r→prt (c.toNat:Int)≥0→∀ e,Evt (fun k=>nr_End.l0 k s ((i+1:Nat):Int) (prt (c.toNat:Int)) 0) e→Evt (fun k=>nr_End.f k s (i:Int)) e:=by
  intro i c r h hp e hE
  obtain ⟨h1,h2,h3⟩:=at_cons h
  refine Evt.step (g':=fun k=>(nr_letter.f k (bt s (i:Int))).bind fun t173=>nr_End.j0 k s (i:Int) (!t173)) (fun k=>by rw [nr_End.f,if_neg (by omega),if_pos (by omega),if_pos (by omega)]) ?_
  rw [h2]
  refine Evt.bind (letterE _) ?_
  unfold ltrB
  rw [decide_eq_true hp]
  refine Evt.step (g':=fun k=>(nr_Parts.f k (bt s (i:Int))).bind fun t174=>nr_End.l0 k s (wrap64 ((i:Int)+1)) t174 0) (fun k=>by show nr_End.j0 (k+1) s (i:Int) false=_;rw [nr_End.j0,if_neg (by simp),if_pos (by omega),if_pos (by omega)]) ?_
  rw [h2,wrN s hs (by omega)]
  exact Evt.bind (partsE _) hE
 refine Tm.ind (fun c hg i r h=>?_) (fun sy l ih hg i r h=>?_)
 ·rw [Tm.good] at hg
  rw [Tm.tx,List.cons_append] at h
  have hc:=ch_toNat (c:=c) (by omega)
  refine hstart i (ch c) _ h (by rw [hc,prt_var hg];omega) _ ?_
  rw [hc,prt_var hg,Tm.tx]
  refine Evt.now fun k=>?_
  rw [nr_End.l0,if_neg (by decide),if_neg (by decide)]
  rfl
 ·have hl2:=good_len hg
  rw [Tm.good] at hg
  rw [tx_app2 sy l hl2,List.cons_append] at h
  have hc:=ch_toNat (c:=sy) (by omega)
  have hp:=prt_sym hg.1
  refine hstart i (ch sy) _ h (by rw [hc,hp,←hg.2.1];omega) _ ?_
  obtain ⟨h1,h2,h3⟩:=at_cons h
  rw [hc,hp,←hg.2.1,tx_app2 sy l hl2]
  by_cases h0:l.length=0
  ·rw [h0,if_pos rfl]
   refine Evt.now fun k=>?_
   rw [nr_End.l0,if_neg (by decide),if_neg (by decide)]
   rfl
  ·rw [if_neg h0] at h3 ⊢
   rw [List.append_assoc] at h3
   refine (end_l0 s hs l.length (by omega) hl2 l 0 (i+1) r (fun x hx=>ih x hx (goods_mem hg.2.2 hx)) (by omega) h3).val ?_
   rw [List.length_cons,List.length_append]
   simp
   omega
theorem at_get (s:ByteArray) (i:Nat) (h:i < s.size):∃ c:UInt8,s.data.toList.drop i=c :: s.data.toList.drop (i+1)∧bt s (i:Int)=(c.toNat:Int):=by
 have hl:i < s.data.toList.length:=by simpa using h
 have e:=List.drop_eq_getElem_cons hl
 exact ⟨_,e,(at_cons e).2.1⟩
theorem Evt.uniq {α:Type} {g:Nat→Option α} {a b:α} (h:Evt g a) (h':Evt g b):a=b:=by
 obtain ⟨K,h1⟩:=h
 obtain ⟨K',h2⟩:=h'
 have e1:=h1 (max K K') (by omega)
 have e2:=h2 (max K K') (by omega)
 rw [e1] at e2
 injection e2
def TotE (s:ByteArray) (i:Nat):Prop:=∃ e,Evt (fun k=>nr_End.f k s (i:Int)) e∧(e=-1∨∃ (t:Tm) (r:List UInt8),t.good∧s.data.toList.drop i=t.tx++r∧e=(i:Int)+t.tx.length)
theorem j2_true (s:ByteArray) (p n j:Int):Evt (fun k=>nr_End.j2 k s p n j true) (-1):=Evt.now fun k=>by rw [nr_End.j2,if_pos rfl]
theorem mark_ne (j:Nat) (hj:j≠0):mark j=44:=by unfold mark;rw [if_neg hj]
theorem tot_l0 (s:ByteArray) (hs:s.size≤140737488351232) (n:Nat) (hn2:n≤2) (i:Nat) (ih:∀ p,i < p→p≤s.size→TotE s p):∀ (m j p:Nat),j+m=n→i < p→p≤s.size →
  ∃ e,Evt (fun k=>nr_End.l0 k s (p:Int) (n:Int) (j:Int)) e∧(e=-1∨∃ l r,Tm.goods l∧l.length=m∧s.data.toList.drop p=txM j l++(if n=0 then r else 41 :: r)∧e=(p:Int)+(txM j l).length+(if n=0 then 0 else 1))
 | 0,j,p,hj,hip,hps=>by
  have hjn:j=n:=by omega
  by_cases h0:n=0
  ·refine ⟨(p:Int),Evt.now fun k=>?_,.inr ⟨[],s.data.toList.drop p,by rw [Tm.goods];trivial,rfl,by rw [if_pos h0];rfl,by rw [if_pos h0];simp [txM]⟩⟩
   rw [nr_End.l0,if_neg (by omega),if_neg (by omega)]
  ·by_cases hp:p < s.size
   ·obtain ⟨c,hc,hb⟩:=at_get s p hp
    by_cases h41:(c.toNat:Int)=41
    ·have hcc:c=41:=UInt8.toNat_inj.1 (by have:(41:UInt8).toNat=41:=rfl;omega)
     refine ⟨((p+1:Nat):Int),Evt.now fun k=>?_,.inr ⟨[],s.data.toList.drop (p+1),by rw [Tm.goods];trivial,rfl,by rw [if_neg h0,hc,hcc];rfl,by rw [if_neg h0];simp [txM]⟩⟩
     rw [nr_End.l0,if_neg (by omega),if_pos (by omega),if_neg (by omega),if_pos (by omega),if_pos (by omega),hb,if_pos h41,wrN s hs (by omega)]
    ·refine ⟨-1,Evt.now fun k=>?_,.inl rfl⟩
     rw [nr_End.l0,if_neg (by omega),if_pos (by omega),if_neg (by omega),if_pos (by omega),if_pos (by omega),hb,if_neg h41]
   ·refine ⟨-1,Evt.now fun k=>?_,.inl rfl⟩
    rw [nr_End.l0,if_neg (by omega),if_pos (by omega),if_pos (by omega)]
 | m+1,j,p,hj,hip,hps=>by
  have h0:¬ n=0:=by omega
  by_cases hp:p < s.size
  ·obtain ⟨c,hc,hb⟩:=at_get s p hp
   have hstep:∀ b:Bool,(b=false↔(c.toNat:Int)=mark j)→∀ k,nr_End.l0 (k+1) s (p:Int) (n:Int) (j:Int)=nr_End.j2 k s (p:Int) (n:Int) (j:Int) b:=by
    intro b hbm k
    rw [nr_End.l0,if_pos (by omega),if_neg (by omega)]
    by_cases hj0:j=0
    ·subst hj0
     rw [if_pos (by rfl),if_pos (by omega),if_pos (by omega),hb]
     have hm:mark 0=40:=rfl
     rw [hm] at hbm
     by_cases h40:(c.toNat:Int)=40
     ·rw [if_pos h40,if_neg (by decide),hbm.2 h40]
     ·rw [if_neg h40]
      cases b with
      | true=>rfl
      | false=>exact absurd (hbm.1 rfl) h40
    ·rw [if_neg (by omega),if_pos (by omega),if_pos (by omega),if_pos (by omega),hb]
     rw [mark_ne j hj0] at hbm
     congr 1
     by_cases h44:(c.toNat:Int)=44
     ·rw [hbm.2 h44,h44];rfl
     ·cases b with
      | true=>exact bne_iff_ne.2 h44
      | false=>exact absurd (hbm.1 rfl) h44
   by_cases hm:(c.toNat:Int)=mark j
   ·obtain ⟨e1,hE1,hor⟩:=ih (p+1) (by omega) (by omega)
    have hw:=wrN s hs (i:=p) (by omega)
    have hwj:wrap64 ((j:Int)+1)=((j+1:Nat):Int):=(wr (by omega) (by omega)).trans (by omega)
    have hj2:∀ e,Evt (fun k=>if e1 < 0 then some (-1) else nr_End.l0 k s e1 (n:Int) ((j+1:Nat):Int)) e→Evt (fun k=>nr_End.l0 k s (p:Int) (n:Int) (j:Int)) e:=fun e hE=>by
     refine Evt.step (g':=fun k=>nr_End.j2 k s (p:Int) (n:Int) (j:Int) false) (hstep false ⟨fun _=>hm,fun _=>rfl⟩) ?_
     refine Evt.step (g':=fun k=>(nr_End.f k s (wrap64 ((p:Int)+1))).bind fun t175=>(if t175 < 0 then (some (-1)) else (nr_End.l0 k s t175 (n:Int) (wrap64 ((j:Int)+1))))) (fun k=>by rw [nr_End.j2,if_neg (by simp)]) ?_
     rw [hw,hwj]
     exact Evt.bind hE1 hE
    rcases hor with rfl|⟨t,r,hg,hd,rfl⟩
    ·exact ⟨-1,hj2 _ (Evt.pos (by omega) (Evt.all fun _=>rfl)),.inl rfl⟩
    ·have hsz:p+1+t.tx.length≤s.size:=by
      have h4:=congrArg List.length hd
      rw [List.length_drop,List.length_append] at h4
      have:s.data.toList.length=s.size:=by simp
      omega
     have e:((p+1:Nat):Int)+t.tx.length=((p+1+t.tx.length:Nat):Int):=by omega
     obtain ⟨e2,hE2,hor2⟩:=tot_l0 s hs n hn2 i ih m (j+1) (p+1+t.tx.length) (by omega) (by omega) hsz
     refine ⟨e2,hj2 _ (Evt.neg (by omega) (by rw [e];exact hE2)),?_⟩
     rcases hor2 with rfl|⟨l,r',hgl,hll,hd2,rfl⟩
     ·exact .inl rfl
     ·refine .inr ⟨t :: l,r',by rw [Tm.goods];exact ⟨hg,hgl⟩,by rw [List.length_cons,hll],?_,?_⟩
      ·have hr:r=s.data.toList.drop (p+1+t.tx.length):=(drop_app hd).symm
       have hcm:c=UInt8.ofNat (mark j).toNat:=mark_of hm
       rw [hc,hd,hr,hd2,txM,hcm]
       simp
      ·rw [txM,List.length_cons,List.length_append]
       omega
   ·exact ⟨-1,Evt.step (hstep true ⟨fun h=>(by cases h),fun h=>absurd h hm⟩) (j2_true _ _ _ _),.inl rfl⟩
  ·refine ⟨-1,Evt.step (g':=fun k=>nr_End.j2 k s (p:Int) (n:Int) (j:Int) true) (fun k=>?_) (j2_true _ _ _ _),.inl rfl⟩
   rw [nr_End.l0,if_pos (by omega),if_pos (by omega)]
theorem end_tot (s:ByteArray) (hs:s.size≤140737488351232):∀ (n i:Nat),s.size - i≤n→i≤s.size→TotE s i:=by
 intro n
 induction n with
 | zero =>
  intro i h1 h2
  refine ⟨-1,Evt.step (g':=fun k=>nr_End.j0 k s (i:Int) true) (fun k=>?_) (Evt.now fun k=>?_),.inl rfl⟩
  ·rw [nr_End.f,if_pos (by omega)]
  ·rw [nr_End.j0,if_pos rfl]
 | succ n ih =>
  intro i h1 h2
  by_cases hi:i < s.size
  ·obtain ⟨c,hc,hb⟩:=at_get s i hi
   have hf:∀ e,Evt (fun k=>nr_End.j0 k s (i:Int) (!ltrB (c.toNat:Int))) e→Evt (fun k=>nr_End.f k s (i:Int)) e:=fun e hE=>by
    refine Evt.step (g':=fun k=>(nr_letter.f k (bt s (i:Int))).bind fun t173=>nr_End.j0 k s (i:Int) (!t173)) (fun k=>by rw [nr_End.f,if_neg (by omega),if_pos (by omega),if_pos (by omega)]) ?_
    rw [hb]
    exact Evt.bind (letterE _) hE
   by_cases hp:prt (c.toNat:Int)≥0
   ·have hl:ltrB (c.toNat:Int)=true:=decide_eq_true hp
    have hpn:∃ m:Nat,prt (c.toNat:Int)=(m:Int)∧m≤2:=by
     refine ⟨(prt (c.toNat:Int)).toNat,by omega,?_⟩
     unfold prt
     split
     ·decide
     ·split
      ·decide
      ·split<;>decide
    obtain ⟨m,hm,hm2⟩:=hpn
    obtain ⟨e,hE,hor⟩:=tot_l0 s hs m hm2 i (fun p h3 h4=>ih p (by omega) h4) m 0 (i+1) (by omega) (by omega) (by omega)
    refine ⟨e,hf e ?_,?_⟩
    ·rw [hl]
     refine Evt.step (g':=fun k=>(nr_Parts.f k (bt s (i:Int))).bind fun t174=>nr_End.l0 k s (wrap64 ((i:Int)+1)) t174 0) (fun k=>by show nr_End.j0 (k+1) s (i:Int) false=_;rw [nr_End.j0,if_neg (by simp),if_pos (by omega),if_pos (by omega)]) ?_
     rw [hb,wrN s hs (by omega)]
     refine Evt.bind (partsE _) ?_
     rw [hm]
     exact hE
    ·rcases hor with rfl|⟨l,r,hgl,hll,hd,rfl⟩
     ·exact .inl rfl
     ·rcases prt_inv hp with h97|h120
      ·have hpm:=prt_sym h97
       have hg:(Tm.app (c.toNat:Int) l).good:=by
        rw [Tm.good]
        exact ⟨h97,by omega,hgl⟩
       refine .inr ⟨.app (c.toNat:Int) l,r,hg,?_,?_⟩
       ·rw [hc,hd,tx_app2 _ _ (good_len hg),ch_of]
        by_cases h0:m=0
        ·have h00:l.length=0:=by omega
         rw [if_pos h0,if_pos h00,List.length_eq_zero_iff.1 h00]
         rfl
        ·rw [if_neg h0,if_neg (by omega)]
         simp
       ·rw [tx_app2 _ _ (good_len hg),List.length_cons]
        by_cases h0:m=0
        ·have h00:l.length=0:=by omega
         rw [if_pos h0,if_pos h00,List.length_eq_zero_iff.1 h00]
         simp [txM]
        ·rw [if_neg h0,if_neg (by omega),List.length_append]
         simp
         omega
      ·have hp0:=prt_var h120
       have hm0:m=0:=by omega
       have hl0:l=[]:=List.length_eq_zero_iff.1 (by omega)
       subst hl0
       rw [if_pos hm0] at hd ⊢
       refine .inr ⟨.var (c.toNat:Int),r,by rw [Tm.good];exact h120,?_,?_⟩
       ·rw [hc,hd,Tm.tx,ch_of];rfl
       ·rw [Tm.tx];simp [txM]
   ·have hl:ltrB (c.toNat:Int)=false:=decide_eq_false hp
    refine ⟨-1,hf _ ?_,.inl rfl⟩
    rw [hl]
    exact Evt.now fun k=>by show nr_End.j0 (k+1) s (i:Int) true=_;rw [nr_End.j0,if_pos rfl]
  ·exact ih i (by omega) h2
def cnt:List UInt8→Nat
 | []=>0
 | c :: l=>(if ltrB (c.toNat:Int)=true then 1 else 0)+cnt l
theorem cnt_app:∀ a b:List UInt8,cnt (a++b)=cnt a+cnt b
 | [],b=>by simp [cnt]
 | c :: a,b=>by rw [List.cons_append,cnt,cnt,cnt_app a b];omega
theorem sizeL (s:ByteArray) (hs:s.size≤140737488351232):∀ (n i a:Nat),s.size - i≤n→i≤s.size→a≤i→Evt (fun k=>nr_Size.l0 k s (a:Int) (i:Int)) ((a+cnt (s.data.toList.drop i):Nat):Int):=by
 intro n
 induction n with
 | zero =>
  intro i a h1 h2 h3
  refine Evt.now fun k=>?_
  rw [nr_Size.l0,if_neg (by omega),List.drop_eq_nil_of_le (by simp;omega)]
  rfl
 | succ n ih =>
  intro i a h1 h2 h3
  by_cases hi:i < s.size
  ·obtain ⟨c,hc,hb⟩:=at_get s i hi
   refine Evt.step (g':=fun k=>(nr_letter.f k (bt s (i:Int))).bind fun t172=>(if t172=true then (nr_Size.l0 k s (wrap64 ((a:Int)+1)) (wrap64 ((i:Int)+1))) else (nr_Size.l0 k s (a:Int) (wrap64 ((i:Int)+1))))) (fun k=>by rw [nr_Size.l0,if_pos (by omega),if_pos (by omega)]) ?_
   rw [hb]
   refine Evt.bind (letterE _) ?_
   have hw:=wrN s hs (i:=i) (by omega)
   have hwa:=wrN s hs (i:=a) (by omega)
   rw [hw,hwa,hc,cnt]
   cases hl:ltrB (c.toNat:Int) with
   | true =>
    refine Evt.pos rfl ((ih (i+1) (a+1) (by omega) (by omega) (by omega)).val ?_)
    rw [if_pos rfl]
    omega
   | false =>
    refine Evt.neg (by simp) ((ih (i+1) a (by omega) (by omega) (by omega)).val ?_)
    rw [if_neg (by simp)]
    omega
  ·exact ih i a (by omega) h2 h3
theorem sizeE' (s:ByteArray) (hs:s.size≤140737488351232):Evt (fun k=>nr_Size.f k s) (cnt s.data.toList:Int):=by
 have:=sizeL s hs s.size 0 0 (by omega) (by omega) (by omega)
 rw [List.drop_zero,Nat.zero_add] at this
 exact this
theorem cnt_tx:∀ t:Tm,t.good→(cnt t.tx:Int)=t.size:=by
 have hM:∀ (l:List Tm) (i:Nat),(∀ x,x∈l→(cnt x.tx:Int)=x.size)→(cnt (txM i l):Int)=Tm.sizes l:=by
  intro l
  induction l with
  | nil=>intro i _;rw [txM,Tm.sizes];rfl
  | cons x l ih =>
   intro i h
   have hm:ltrB (((UInt8.ofNat (mark i).toNat).toNat:Nat):Int)=false:=by
    rw [mark_nat]
    unfold mark
    split<;>decide
   rw [txM,cnt,hm,if_neg (by simp),cnt_app,Tm.sizes]
   have h1:=h x (by simp)
   have h2:=ih (i+1) (fun y hy=>h y (by simp [hy]))
   omega
 refine Tm.ind (fun c hg=>?_) (fun s l ih hg=>?_)
 ·rw [Tm.good] at hg
  have hc:=ch_toNat (c:=c) (by omega)
  have hl:ltrB c=true:=by unfold ltrB;rw [prt_var hg];decide
  rw [Tm.tx,cnt,hc,hl,if_pos rfl,Tm.size]
  rfl
 ·have hl2:=good_len hg
  rw [Tm.good] at hg
  have hc:=ch_toNat (c:=s) (by omega)
  have hl:ltrB s=true:=by unfold ltrB;rw [prt_sym hg.1];exact decide_eq_true (by omega)
  rw [tx_app2 s l hl2,cnt,hc,hl,if_pos rfl,Tm.size]
  by_cases h0:l.length=0
  ·rw [if_pos h0,List.length_eq_zero_iff.1 h0,Tm.sizes];rfl
  ·rw [if_neg h0,cnt_app]
   have h1:=hM l 0 (fun x hx=>ih x hx (goods_mem hg.2.2 hx))
   have h2:cnt [41]=0:=rfl
   omega
theorem termRE (s:ByteArray) (hs:s.size≤140737488351232):Evt (fun k=>nr_Term.f k s) (readT s).isSome:=by
 obtain ⟨e,hE,hor⟩:=end_tot s hs s.size 0 (by omega) (by omega)
 refine Evt.bind hE ?_
 by_cases he:e=(s.size:Int)
 ·refine Evt.pos he (Evt.bind (sizeE' s hs) (Evt.all fun k=>?_))
  rcases hor with h|⟨t,r,hg,hd,h⟩
  ·omega
  ·have hr:r=[]:=by
    have h4:=congrArg List.length hd
    rw [List.length_drop,List.length_append] at h4
    have h5:s.data.toList.length=s.size:=by simp
    exact List.length_eq_zero_iff.1 (by omega)
   rw [hr,List.append_nil,List.drop_zero] at hd
   have hst:s=t.text:=by rw [←B8_of s,hd];rfl
   have hc:=cnt_tx t hg
   rw [hd]
   by_cases h60:t.size≤60
   ·rw [hst,readT_back hg h60,decide_eq_true (by omega)];rfl
   ·rw [decide_eq_false (by omega)]
    cases hR:readT s with
    | none=>rfl
    | some u =>
     have h6:=readT_iff.1 hR
     have:u=t:=text_inj h6.1 hg (h6.2.2.symm.trans hst)
     subst this
     exact absurd h6.2.1 h60
 ·refine Evt.neg he (Evt.all fun k=>?_)
  cases hR:readT s with
  | none=>rfl
  | some u =>
   exfalso
   have h6:=readT_iff.1 hR
   have hd:s.data.toList.drop 0=u.tx++[]:=by
    rw [List.drop_zero,List.append_nil,h6.2.2]
    exact B8_list _
   have h7:=hE.uniq (rEndE s hs u h6.1 0 [] hd)
   refine he (h7.trans ?_)
   rw [h6.2.2,show u.text.size=u.tx.length from B8_size _]
   simp
theorem same_iff {a b:Tm} (ha:a.good) (hb:b.good):sameB a b=true↔a=b:=by
  rw [sameB_eq ha hb,decide_eq_true_iff]
  exact ⟨text_inj ha hb,fun h=>by rw [h]⟩
theorem same_refl (a:Tm):sameB a a=true:=by unfold sameB;simp
theorem occ_app (v s:Int) (l:List Tm):occT v (.app s l)=l.any (occT v):=by
  unfold occT
  rw [Tm.subs,List.any_cons]
  have:isVar v (.app s l)=false:=by rfl
  rw [this,Bool.false_or]
  clear this
  induction l with
  | nil=>rfl
  | cons t l ih=>rw [Tm.subsL,List.any_append,List.any_cons,ih]
theorem occ_var (v c:Int):occT v (.var c)=decide (v=c):=by
  unfold occT
  rw [Tm.subs]
  by_cases h:v=c
  · subst h;simp [isVar]
  · simp [isVar,h,show ¬ c=v from fun e=>h e.symm]
attribute [local go_sem] max2_int min2_int max_two min_two max_three min_three max_four min_four
set_option linter.unusedVariables false
set_option linter.unusedSimpArgs false
end Go.Proofs.YtaafeallcaiooaaGreat.Pr
namespace Go.Proofs.YtaafeallcaiooaaGreat.Pr
open Go.RowKit Go.Proofs.Zw Go.Proofs.Zl Go.Proofs.Zm
set_option linter.unusedVariables false
set_option linter.unusedSimpArgs false
theorem B8_app' (a b:List UInt8):B8 a++B8 b=B8 (a++b):=by
  apply ByteArray.ext
  simp [B8]
theorem text_size (t:Tm):t.text.size=t.tx.length:=by
  show (B8 t.tx).size=_
  exact B8_size _
theorem text_le {t:Tm} (h:t.size≤1000):t.text.size≤4000:=by
  have:=tx_le t
  rw [text_size]
  omega
theorem t1:nextsT [⟨⟨#[101,40,120,44,121,41]⟩,⟨#[101,40,121,44,120,41]⟩⟩] ⟨#[101,40,97,44,98,41]⟩=(0,[⟨#[101,40,98,44,97,41]⟩]):=by kernel_rfl
theorem t2:(valT [[0],[1],[1,1],[0,1],[0,1,1],[0,1,2]] ⟨#[102,40,99,40,98,41,44,120,41]⟩).1=0:=by kernel_rfl
theorem t3:orientT [⟨⟨#[99,40,100,40,120,41,41]⟩,⟨#[100,40,99,40,120,41,41]⟩⟩]=(0,⟨#[97,98,99,100,101,102]⟩):=by kernel_rfl
theorem awake_true:nl_awake.f 20=some true:=by kernel_rfl
theorem sub_app (σ:Sub) (s:Int) (l:List Tm):(Tm.app s l).sub σ=.app s (l.map (Tm.sub σ)):=by rw [Tm.sub,subL_map]
open Go.Maps
theorem applyL_app (s0 s1 s2 a b:List UInt8):applyL s0 s1 s2 (a++b)=applyL s0 s1 s2 a++applyL s0 s1 s2 b:=by unfold applyL;rw [List.flatMap_append]
theorem applyL_cons (s0 s1 s2:List UInt8) (c:UInt8) (b:List UInt8):applyL s0 s1 s2 (c :: b)=applyC s0 s1 s2 c++applyL s0 s1 s2 b:=by unfold applyL;rw [List.flatMap_cons]
theorem applyC_no (s0 s1 s2:List UInt8) {c:UInt8} (h:c.toNat < 120∨122 < c.toNat):applyC s0 s1 s2 c=[c]:=by
  unfold applyC
  rw [if_neg (fun e=>by subst e;revert h;decide),if_neg (fun e=>by subst e;revert h;decide),if_neg (fun e=>by subst e;revert h;decide)]
theorem ch_nat {c:Int} (h:0≤c∧c≤255):(ch c).toNat=c.toNat:=by have:=ch_toNat h;omega
theorem applyM (s0 s1 s2:List UInt8) (f:Tm→Tm):∀ (l:List Tm) (i:Nat),(∀ t,t∈l→applyL s0 s1 s2 t.tx=(f t).tx)→applyL s0 s1 s2 (txM i l)=txM i (l.map f)
  | [],i,_=>rfl
  | t :: l,i,h=>by
    rw [txM,List.map_cons,txM,applyL_cons,applyL_app,h t (by simp),applyM s0 s1 s2 f l (i+1) (fun u hu=>h u (by simp [hu])),applyC_no s0 s1 s2 (by
      have:=mark_nat i
      unfold mark at this ⊢
      split
      · left;decide
      · left;decide)]
    rfl
theorem awake_mono:∀ n,nl_awake.f (20+n)=some true
  | 0=>awake_true
  | n+1=>nl_awake.mono (20+n) true (awake_mono n)
theorem awakeE:Evt (fun k=>nl_awake.f k) true:=⟨20,fun k hk=>by
  have:=awake_mono (k - 20)
  rwa [show 20+(k - 20)=k by omega] at this⟩
theorem short_ev (s:ByteArray):∃ t:ByteArray,nl_short.f s=some t∧t.size≤400:=by
  unfold nl_short.f
  have h:0≤mn (s.size:Int) 400∧mn (s.size:Int) 400≤(s.size:Int)∧mn (s.size:Int) 400≤400:=by unfold mn;split<;>omega
  rw [if_pos h.1,if_pos h.2.1]
  refine ⟨_,rfl,?_⟩
  rw [ByteArray.size_extract]
  omega
theorem awakeF:Evt (fun k=>(nl_awake.f k).bind fun t=>some t) true:=Evt.bind awakeE (Evt.all fun _=>rfl)
def hasB (c:Int) (l:List UInt8):Bool:=l.any (fun b=>decide ((b.toNat:Int)=c))
theorem hasB_app (c:Int) (a b:List UInt8):hasB c (a++b)=(hasB c a || hasB c b):=List.any_append
theorem hasB_cons (c:Int) (a:UInt8) (b:List UInt8):hasB c (a :: b)=(decide ((a.toNat:Int)=c) || hasB c b):=List.any_cons
theorem occ_tx (c:Int) (hc:120≤c∧c≤122):∀ t:Tm,t.good→hasB c t.tx=occT c t:=by
 have hM:∀ (l:List Tm) (i:Nat),(∀ x,x∈l→hasB c x.tx=occT c x)→hasB c (txM i l)=l.any (occT c):=by
  intro l
  induction l with
  | nil=>intro i _;rfl
  | cons x l ih =>
   intro i h
   have hm:decide ((((UInt8.ofNat (mark i).toNat).toNat:Nat):Int)=c)=false:=by
    rw [mark_nat]
    unfold mark
    split<;>exact decide_eq_false (by omega)
   rw [txM,hasB_cons,hm,Bool.false_or,hasB_app,h x (by simp),ih (i+1) (fun y hy=>h y (by simp [hy])),List.any_cons]
 refine Tm.ind (fun d hg=>?_) (fun s l ih hg=>?_)
 ·rw [Tm.good] at hg
  have hd:=ch_toNat (c:=d) (by omega)
  rw [Tm.tx,hasB_cons,hd,occ_var,show hasB c []=false from rfl,Bool.or_false]
  by_cases h:d=c
  ·rw [decide_eq_true h,decide_eq_true h.symm]
  ·rw [decide_eq_false h,decide_eq_false (fun e=>h e.symm)]
 ·have hl2:=good_len hg
  rw [Tm.good] at hg
  have hs:=ch_toNat (c:=s) (by omega)
  rw [tx_app2 s l hl2,hasB_cons,hs,decide_eq_false (by omega),Bool.false_or,occ_app]
  by_cases h0:l.length=0
  ·rw [if_pos h0,List.length_eq_zero_iff.1 h0];rfl
  ·rw [if_neg h0,hasB_app,hM l 0 (fun x hx=>ih x hx (goods_mem hg.2.2 hx)),hasB_cons,decide_eq_false (show ¬ ((41:UInt8).toNat:Int)=c by have:((41:UInt8).toNat:Int)=41:=rfl;omega)]
   show (_ || (false || false))=_
   rw [Bool.or_false,Bool.or_false]
theorem occursL (c:Int) (s:ByteArray) (hs:s.size≤140737488351232):∀ (n i:Nat),s.size - i≤n→i≤s.size→Evt (fun k=>nr_occurs.l0 k c s (i:Int)) (hasB c (s.data.toList.drop i)):=by
 intro n
 induction n with
 | zero =>
  intro i h1 h2
  refine Evt.now fun k=>?_
  rw [nr_occurs.l0,if_neg (by omega),List.drop_eq_nil_of_le (by simp;omega)]
  rfl
 | succ n ih =>
  intro i h1 h2
  by_cases hi:i < s.size
  ·obtain ⟨d,hd,hb⟩:=at_get s i hi
   have hw:=wrN s hs (i:=i) (by omega)
   rw [hd,hasB_cons]
   by_cases hc:(d.toNat:Int)=c
   ·rw [decide_eq_true hc,Bool.true_or]
    refine Evt.now fun k=>?_
    rw [nr_occurs.l0,if_pos (by omega),if_pos (by omega),hb,if_pos hc]
   ·rw [decide_eq_false hc,Bool.false_or]
    refine Evt.step (fun k=>?_) (ih (i+1) (by omega) (by omega))
    rw [nr_occurs.l0,if_pos (by omega),if_pos (by omega),hb,if_neg hc,hw]
  ·exact ih i (by omega) h2
theorem occursE (c:Int) (s:ByteArray) (hs:s.size≤140737488351232):Evt (fun k=>nr_occurs.f k c s) (hasB c s.data.toList):=by
 have:=occursL c s hs s.size 0 (by omega) (by omega)
 rw [List.drop_zero] at this
 exact this
def isVarB (c:Int):Bool:=decide (120≤c) && decide (c≤122)
theorem variable_eq (c:Int):nr_Variable.f c=some (isVarB c):=by
 unfold nr_Variable.f isVarB
 by_cases h:c≥120
 ·rw [if_pos h,decide_eq_true (show 120≤c from h),Bool.true_and]
 ·rw [if_neg h,decide_eq_false (show ¬ 120≤c from h),Bool.false_and]
def varsIn (L:List UInt8) (R:List UInt8):Bool:=R.all (fun b=>!isVarB (b.toNat:Int) || hasB (b.toNat:Int) L)
theorem rules_l1 (rs:List S94) (x3:Int) (L R:ByteArray) (hL:L.size≤140737488351232) (hR:R.size≤140737488351232) (b:Bool) (hr:Evt (fun k=>nr_Rules.l0 k rs (wrap64 (x3+1))) b):∀ (n i:Nat),R.size - i≤n→i≤R.size→Evt (fun k=>nr_Rules.l1 k rs x3 L R (i:Int)) (varsIn L.data.toList (R.data.toList.drop i) && b):=by
 intro n
 induction n with
 | zero =>
  intro i h1 h2
  rw [List.drop_eq_nil_of_le (by simp;omega)]
  refine Evt.step (fun k=>?_) hr
  rw [nr_Rules.l1,if_neg (by omega)]
 | succ n ih =>
  intro i h1 h2
  by_cases hi:i < R.size
  ·obtain ⟨d,hd,hb⟩:=at_get R i hi
   have hw:=wrN R hR (i:=i) (by omega)
   have ih':=ih (i+1) (by omega) (by omega)
   have hv:varsIn L.data.toList (d :: R.data.toList.drop (i+1))=((!isVarB (d.toNat:Int) || hasB (d.toNat:Int) L.data.toList) && varsIn L.data.toList (R.data.toList.drop (i+1))):=List.all_cons
   rw [hd,hv,Bool.and_assoc]
   refine Evt.step (g':=fun k=>if isVarB (d.toNat:Int)=true then ((nr_occurs.f k (d.toNat:Int) L).bind fun t224=>(if t224=true then (nr_Rules.l1 k rs x3 L R ((i+1:Nat):Int)) else (some false))) else (nr_Rules.l1 k rs x3 L R ((i+1:Nat):Int))) (fun k=>?_) ?_
   ·rw [nr_Rules.l1,if_pos (by omega),if_pos (by omega),hb,variable_eq,Option.bind_some,hw]
   ·cases hB:isVarB (d.toNat:Int) with
    | false=>exact Evt.neg (by simp) ih'
    | true =>
     refine Evt.pos rfl (Evt.bind (occursE _ L hL) ?_)
     cases hasB (d.toNat:Int) L.data.toList with
     | true=>exact Evt.pos rfl ih'
     | false=>exact Evt.neg (by simp) (Evt.all fun _=>rfl)
  ·exact ih i (by omega) h2
theorem isVarB_iff {c:Int}:isVarB c=true↔c=120∨c=121∨c=122:=by
 unfold isVarB
 rw [Bool.and_eq_true,decide_eq_true_eq,decide_eq_true_eq]
 omega
theorem hasB_iff {c:Int} {l:List UInt8}:hasB c l=true↔∃ b∈l,(b.toNat:Int)=c:=by
 unfold hasB
 rw [List.any_eq_true]
 simp
theorem varsIn_eq {a b:Tm} (ha:a.good) (hb:b.good):varsIn a.tx b.tx=(okVar a b 120 && (okVar a b 121 && okVar a b 122)):=by
 have key:∀ c:Int,120≤c∧c≤122→(okVar a b c=true↔(hasB c b.tx=true→hasB c a.tx=true)):=fun c hc=>by
  unfold okVar
  rw [occ_tx c hc a ha,occ_tx c hc b hb]
  cases occT c b<;>cases occT c a<;>simp
 rw [Bool.eq_iff_iff,Bool.and_eq_true,Bool.and_eq_true,key 120 (by omega),key 121 (by omega),key 122 (by omega)]
 unfold varsIn
 rw [List.all_eq_true]
 constructor
 ·intro h
  have g:∀ c:Int,(c=120∨c=121∨c=122)→hasB c b.tx=true→hasB c a.tx=true:=fun c hc hh=>by
   obtain ⟨x,hx,rfl⟩:=hasB_iff.1 hh
   have:=h x hx
   rw [isVarB_iff.2 hc,Bool.not_true,Bool.false_or] at this
   exact this
  exact ⟨g 120 (by omega),g 121 (by omega),g 122 (by omega)⟩
 ·rintro ⟨h0,h1,h2⟩ x hx
  cases hv:isVarB (x.toNat:Int) with
  | false=>rfl
  | true =>
   have hb:hasB (x.toNat:Int) b.tx=true:=hasB_iff.2 ⟨x,hx,rfl⟩
   rw [Bool.not_true,Bool.false_or]
   rcases isVarB_iff.1 hv with e|e|e<;>rw [e] at hb ⊢
   ·exact h0 hb
   ·exact h1 hb
   ·exact h2 hb
theorem rd94_at (xs:List S94) (i:Nat) (h:i < xs.length):rd_T94 xs (i:Int)=xs[i]:=by
 unfold rd_T94
 rw [Int.toNat_natCast,List.getD_eq_getElem?_getD,List.getElem?_eq_getElem h]
 rfl
theorem text_data (t:Tm):t.text.data.toList=t.tx:=B8_list _
theorem sizeTE {s:ByteArray} {T:Tm} (hs:s.size≤140737488351232) (h:readT s=some T):Evt (fun k=>nr_Size.f k s) T.size:=by
 have hsz:=sizeE' s hs
 have hT:=readT_iff.1 h
 have hcn:(cnt s.data.toList:Int)=T.size:=by
  rw [hT.2.2,text_data]
  exact cnt_tx T hT.1
 rw [hcn] at hsz
 exact hsz
theorem tx_first (U:Tm) (h:U.good):∃ (d:UInt8) (l:List UInt8),U.tx=d :: l∧(d.toNat:Int)=(match U with|.var c=>c|.app s _=>s):=by
 cases U with
 | var c =>
  rw [Tm.good] at h
  exact ⟨ch c,[],by rw [Tm.tx],ch_toNat (by omega)⟩
 | app s l =>
  have hl2:=good_len h
  rw [Tm.good] at h
  exact ⟨ch s,_,tx_app2 s l hl2,ch_toNat (by omega)⟩
theorem head_var {T:Tm} (h:T.good):0 < T.text.size∧isVarB (bt T.text 0)=isV T:=by
 obtain ⟨d,l,h1,h2⟩:=tx_first T h
 have h3:T.text.data.toList.drop 0=d :: l:=by rw [List.drop_zero,text_data,h1]
 obtain ⟨h4,h5,_⟩:=at_cons h3
 refine ⟨h4,?_⟩
 have h5':bt T.text 0=(d.toNat:Int):=h5
 rw [h5',h2]
 cases T with
 | var c=>rw [Tm.good] at h;show isVarB c=true;exact isVarB_iff.2 (by omega)
 | app s l=>rw [Tm.good] at h;show isVarB s=false;rw [←Bool.not_eq_true,isVarB_iff];omega
theorem rules_one (rs:List S94) (i:Nat) (h:i < rs.length) (hL:rs[i].f0.size≤140737488351232) (hR:rs[i].f1.size≤140737488351232) (b:Bool) (hr:Evt (fun k=>nr_Rules.l0 k rs (wrap64 ((i:Int)+1))) b) :
  Evt (fun k=>nr_Rules.l0 k rs (i:Int)) ((lawT rs[i]).isSome && b):=by
 obtain ⟨L,hLe⟩:∃ L,L=rs[i].f0:=⟨_,rfl⟩
 obtain ⟨R,hRe⟩:∃ R,R=rs[i].f1:=⟨_,rfl⟩
 have hj:Evt (fun k=>nr_Rules.j1 k rs (i:Int) L R true) false:=Evt.now fun k=>by rw [nr_Rules.j1,if_pos rfl]
 refine Evt.step (g':=fun k=>(nr_Term.f k L).bind fun t218=>(if t218=true then ((nr_Term.f k R).bind fun t219=>(if t219=true then ((nr_Size.f k L).bind fun t220=>(if t220 > 12 then (nr_Rules.j1 k rs (i:Int) L R true) else ((nr_Size.f k R).bind fun t221=>(if t221 > 12 then (nr_Rules.j1 k rs (i:Int) L R true) else (if 0 < ((L).size:Int) then ((nr_Variable.f (bt L 0)).bind fun t222=>(nr_Rules.j1 k rs (i:Int) L R t222)) else (none)))))) else (nr_Rules.j1 k rs (i:Int) L R true))) else (nr_Rules.j1 k rs (i:Int) L R true))) (fun k=>?_) ?_
 ·rw [nr_Rules.l0,if_pos (by omega),if_pos (by omega),rd94_at rs i h,←hLe,←hRe]
 rw [←hLe] at hL
 rw [←hRe] at hR
 have hlaw:lawT rs[i]=((readT L).bind fun a=>(readT R).map fun b=>(a,b)).bind fun r=>if okLaw r.1 r.2 then some r else none:=by rw [hLe,hRe];rfl
 rw [hlaw]
 refine Evt.bind (termRE L hL) ?_
 cases hA:readT L with
 | none=>exact Evt.neg (by simp) hj
 | some A =>
  refine Evt.pos rfl (Evt.bind (termRE R hR) ?_)
  cases hB:readT R with
  | none=>exact Evt.neg (by simp) hj
  | some B =>
   have gA:=readT_iff.1 hA
   have gB:=readT_iff.1 hB
   rw [Option.bind_some,Option.map_some,Option.bind_some]
   dsimp only
   unfold okLaw
   refine Evt.pos rfl (Evt.bind (sizeTE hL hA) ?_)
   by_cases h1:A.size > 12
   ·rw [decide_eq_false (show ¬ A.size≤12 by omega),Bool.false_and,Bool.and_false,if_neg (by simp)]
    exact Evt.pos h1 hj
   ·refine Evt.neg h1 (Evt.bind (sizeTE hR hB) ?_)
    rw [decide_eq_true (show A.size≤12 by omega),Bool.true_and]
    by_cases h2:B.size > 12
    ·rw [decide_eq_false (show ¬ B.size≤12 by omega),Bool.false_and,Bool.and_false,if_neg (by simp)]
     exact Evt.pos h2 hj
    ·have hv:=head_var gA.1
     rw [←gA.2.2] at hv
     refine Evt.neg h2 (Evt.pos (by omega) ?_)
     rw [decide_eq_true (show B.size≤12 by omega),Bool.true_and,variable_eq,hv.2]
     cases hV:isV A with
     | true =>
      rw [Bool.not_true,Bool.false_and,if_neg (by simp)]
      exact hj
     | false =>
      have h3:=rules_l1 rs (i:Int) L R hL hR b hr R.size 0 (by omega) (by omega)
      rw [List.drop_zero,gA.2.2,gB.2.2,text_data,text_data,varsIn_eq gA.1 gB.1,←gA.2.2,←gB.2.2] at h3
      rw [Bool.not_false,Bool.true_and]
      refine Evt.step (g':=fun k=>nr_Rules.l1 k rs (i:Int) L R ((0:Nat):Int)) (fun k=>?_) (h3.val ?_)
      ·rw [Option.bind_some,nr_Rules.j1,if_neg (by simp)];rfl
      ·cases (okVar A B 120 && (okVar A B 121 && okVar A B 122))<;>rfl
theorem rules_l0 (rs:List S94) (hl:rs.length≤1000) (hz:∀ x,x∈rs→x.f0.size≤1000∧x.f1.size≤1000):∀ (n i:Nat),i+n=rs.length→Evt (fun k=>nr_Rules.l0 k rs (i:Int)) ((lawsT (rs.drop i)).isSome && decide ((rs.length:Int)≤6))
 | 0,i,hi=>by
  rw [List.drop_of_length_le (by omega),lawsT]
  refine Evt.now fun k=>?_
  rw [nr_Rules.l0,if_neg (by omega)]
  rfl
 | n+1,i,hi=>by
  have hlt:i < rs.length:=by omega
  have hz':=hz rs[i] (List.getElem_mem hlt)
  have ih:=rules_l0 rs hl hz n (i+1) (by omega)
  have hw:wrap64 ((i:Int)+1)=((i+1:Nat):Int):=(wr (by omega) (by omega)).trans (by omega)
  rw [←hw] at ih
  refine (rules_one rs i hlt (by omega) (by omega) _ ih).val ?_
  rw [List.drop_eq_getElem_cons hlt,lawsT]
  cases lawT rs[i] with
  | none=>rfl
  | some x=>cases lawsT (rs.drop (i+1))<;>rfl
theorem rulesRE (rs:List S94) (hl:rs.length≤1000) (hz:∀ x,x∈rs→x.f0.size≤1000∧x.f1.size≤1000):Evt (fun k=>nr_Rules.f k rs) (newLawsT rs).isSome:=by
 refine (rules_l0 rs hl hz rs.length 0 (by omega)).val ?_
 rw [List.drop_zero]
 unfold newLawsT
 by_cases h:rs.length≤6
 ·rw [if_pos h,decide_eq_true (by omega),Bool.and_true]
 ·rw [if_neg h,decide_eq_false (by omega),Bool.and_false];rfl
def okL (rs:List S94):Prop:=rs.length≤7∧∀ x,x∈rs→x.f0.size≤80∧x.f1.size≤80
theorem mn80 (n:Nat):0≤mn (n:Int) 80∧mn (n:Int) 80≤(n:Int)∧mn (n:Int) 80≤80:=by unfold mn;split<;>omega
theorem lawsL (l:List S94):∀ (n i:Nat) (acc:List S94),i+n=7→i≤l.length→acc.length=i→(∀ x,x∈acc→x.f0.size≤80∧x.f1.size≤80)→∃ r,okL r∧Evt (fun k=>nl_laws.l0 k l acc (i:Int)) r
 | 0,i,acc,hi,hx,ha,hz=>by
  refine ⟨acc,⟨by omega,hz⟩,Evt.now fun k=>?_⟩
  rw [nl_laws.l0,if_neg (show ¬ (i:Int)≤6 by omega)]
  split<;>rfl
 | n+1,i,acc,hi,hx,ha,hz=>by
  by_cases hlt:i < l.length
  ·have hw:wrap64 ((i:Int)+1)=((i+1:Nat):Int):=(wr (by omega) (by omega)).trans (by omega)
   have m0:=mn80 l[i].f0.size
   have m1:=mn80 l[i].f1.size
   obtain ⟨r,hr,hE⟩:=lawsL l n (i+1) (acc++[⟨l[i].f0.extract 0 (mn (l[i].f0.size:Int) 80).toNat,l[i].f1.extract 0 (mn (l[i].f1.size:Int) 80).toNat⟩]) (by omega) (by omega) (by simp [ha]) (fun x hx=>by
    rcases List.mem_append.1 hx with hx|hx
    ·exact hz x hx
    ·obtain rfl:=List.mem_singleton.1 hx
     dsimp only
     rw [ByteArray.size_extract,ByteArray.size_extract]
     omega)
   refine ⟨r,hr,Evt.step (fun k=>?_) hE⟩
   rw [nl_laws.l0,if_pos (by omega),if_pos (by omega),if_pos (by omega),rd94_at l i hlt,if_pos m0.1,if_pos m0.2.1,if_pos m1.1,if_pos m1.2.1,if_pos (by omega),hw]
  ·refine ⟨acc,⟨by omega,hz⟩,Evt.now fun k=>?_⟩
   rw [nl_laws.l0,if_neg (by omega)]
theorem lawsE (l:List S94):∃ r,okL r∧Evt (fun k=>nl_laws.f k l) r:=lawsL l 7 0 [] (by omega) (by omega) rfl (by simp)
theorem rdOf_at (xs:List ByteArray) (i:Nat) (h:i < xs.length):rdOf ByteArray.empty xs (i:Int)=xs[i]:=by
 unfold rdOf
 rw [Int.toNat_natCast,List.getD_eq_getElem?_getD,List.getElem?_eq_getElem h]
 rfl
end Go.Proofs.YtaafeallcaiooaaGreat.Pr
