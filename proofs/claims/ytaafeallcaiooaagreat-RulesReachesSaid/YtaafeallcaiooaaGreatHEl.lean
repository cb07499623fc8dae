/- Loop as the printer takes it. -/
import Derived.Test.YtaafeallcaiooaaGreatHQa
import Derived.Test.YtaafeallcaiooaaGreatHCl
import Derived.Test.YtaafeallcaiooaaGreatHQf
namespace Go.Proofs.YtaafeallcaiooaaGreat.Pr
open Go.RowKit Go.Proofs.Zw Go.Proofs.Zl Go.Proofs.Zm
set_option linter.unusedVariables false
set_option linter.unusedSimpArgs false
def Closed (ls:List (Tm × Tm)) (done all:List ByteArray):Prop:=∀ s,s∈done→∃ us,nextS ls s=some us∧∀ u,u∈us→u∈all
theorem reach_step {ls:List (Tm × Tm)} {n:Nat} {done last R:List ByteArray} (h:reachS ls (n+1) done last=some R):∃ fr,levelS ls (done++last) [] last=some fr∧(done++last++sortS fr).length≤300∧reachS ls n (done++last) (sortS fr)=some R:=by
 rw [reachS] at h
 cases hl:levelS ls (done++last) [] last with
 | none=>rw [hl] at h;cases h
 | some fr =>
  rw [hl,Option.bind_some] at h
  split at h
  ·rename_i hz
   exact ⟨fr,rfl,hz,h⟩
  ·cases h
theorem closed_step {ls:List (Tm × Tm)} {done last fr:List ByteArray} (hc:Closed ls done (done++last)) (hl:levelS ls (done++last) [] last=some fr):Closed ls (done++last) (done++last++sortS fr):=by
 intro s hs
 rcases List.mem_append.1 hs with hs|hs
 ·obtain ⟨us,h1,h2⟩:=hc s hs
  exact ⟨us,h1,fun u hu=>List.mem_append_left _ (h2 u hu)⟩
 ·obtain ⟨us,h1⟩:=level_next ls _ _ _ _ hl s hs
  refine ⟨us,h1,fun u hu=>?_⟩
  by_cases hk:u∈done++last
  ·exact List.mem_append_left _ hk
  ·exact List.mem_append_right _ (mem_sortS.2 ((mem_level ls _ u _ _ _ hl).2 (.inr ⟨hk,s,hs,us,h1,hu⟩)))
theorem level_disj {ls:List (Tm × Tm)} {out ss fr:List ByteArray} (hl:levelS ls out [] ss=some fr):∀ x,x∈sortS fr→x∉out:=fun x hx=>by
 rcases (mem_level ls _ x _ _ _ hl).1 (mem_sortS.1 hx) with h|h
 ·cases h
 ·exact h.1
theorem reach_len {ls:List (Tm × Tm)}:∀ (n:Nat) (done last R:List ByteArray),(done++last).length≤300→reachS ls n done last=some R→R.length≤300
 | 0,done,last,R,hz,h=>by
  rw [reachS] at h
  injection h with h
  subst h
  exact hz
 | n+1,done,last,R,hz,h=>by
  obtain ⟨fr,_,h2,h3⟩:=reach_step h
  exact reach_len n _ _ R h2 h3
theorem comesS_text {t v:Tm} (hg:v.good) (hs:v.size≤60):comesS t v.text=comesT t v:=by
 unfold comesS
 rw [readT_back hg hs]
structure WayOk (ls:List (Tm × Tm)) (t:Tm) (k:Nat) (w:List ByteArray):Prop where
 ex:∃ ts:List Tm,w=ts.map Tm.text∧ts.length=k∧ts.head?=some t∧chainT ls ts=true∧(∀ x,x∈ts→x.good∧x.size≤60)∧(2≤k→∀ x,ts.getLast?=some x→comesT t x=false)
theorem stepW_spec (t:Tm) (w:List ByteArray):∀ (us known:List ByteArray) (more:List (List ByteArray)),
  (∃ u,u∈us∧comesS t u=true∧stepW t w known more us=.inl (w++[u])) ∨
  (∃ (new:List ByteArray),stepW t w known more us=.inr (known++new,more++new.map (fun u=>w++[u]))∧(∀ u,u∈us→comesS t u=false∧u∈known++new)∧(∀ u,u∈new→u∈us∧u∉known))
 | [],known,more=>.inr ⟨[],by rw [stepW];simp,fun u hu=>(by cases hu),fun u hu=>(by cases hu)⟩
 | u :: us,known,more=>by
  rw [stepW]
  by_cases hc:comesS t u=true
  ·rw [if_pos hc]
   exact .inl ⟨u,by simp,hc,rfl⟩
  ·rw [if_neg hc]
   have hcf:comesS t u=false:=by simpa using hc
   by_cases hk:u∈known
   ·rw [if_pos hk]
    rcases stepW_spec t w us known more with ⟨x,h1,h2,h3⟩|⟨new,h1,h2,h3⟩
    ·exact .inl ⟨x,List.mem_cons_of_mem _ h1,h2,h3⟩
    ·refine .inr ⟨new,h1,fun x hx=>?_,fun x hx=>⟨List.mem_cons_of_mem _ (h3 x hx).1,(h3 x hx).2⟩⟩
     rcases List.mem_cons.1 hx with rfl|hx
     ·exact ⟨hcf,List.mem_append_left _ hk⟩
     ·exact h2 x hx
   ·rw [if_neg hk]
    rcases stepW_spec t w us (known++[u]) (more++[w++[u]]) with ⟨x,h1,h2,h3⟩|⟨new,h1,h2,h3⟩
    ·exact .inl ⟨x,List.mem_cons_of_mem _ h1,h2,h3⟩
    ·refine .inr ⟨u :: new,by rw [h1];simp,fun x hx=>?_,fun x hx=>?_⟩
     ·rcases List.mem_cons.1 hx with rfl|hx
      ·exact ⟨hcf,by simp⟩
      ·have:=h2 x hx
       simpa using this
     ·rcases List.mem_cons.1 hx with rfl|hx
      ·exact ⟨by simp,hk⟩
      ·exact ⟨List.mem_cons_of_mem _ (h3 x hx).1,fun h=>(h3 x hx).2 (List.mem_append_left _ h)⟩
def endW (w:List ByteArray):ByteArray:=w.getLastD ⟨#[]⟩
theorem endW_snoc (w:List ByteArray) (u:ByteArray):endW (w++[u])=u:=by unfold endW;simp
theorem levelW_spec (ls:List (Tm × Tm)) (t:Tm):∀ (ws:List (List ByteArray)) (known:List ByteArray) (more:List (List ByteArray)),(∀ w,w∈ws→∃ us,nextS ls (endW w)=some us) →
  (∃ w us u,w∈ws∧nextS ls (endW w)=some us∧u∈us∧comesS t u=true∧levelW ls t known more ws=some (.inl (w++[u]))) ∨
  (∃ (new:List (List ByteArray)),levelW ls t known more ws=some (.inr (known++new.map endW,more++new)) ∧
   (∀ w us,w∈ws→nextS ls (endW w)=some us→∀ u,u∈us→comesS t u=false∧u∈known++new.map endW) ∧
   (∀ m,m∈new→∃ w us u,w∈ws∧nextS ls (endW w)=some us∧u∈us∧u∉known∧m=w++[u]))
 | [],known,more,h=>.inr ⟨[],by rw [levelW];simp,fun w us hw=>(by cases hw),fun m hm=>(by cases hm)⟩
 | w :: ws,known,more,h=>by
  obtain ⟨us,hn⟩:=h w (by simp)
  have hn':nextS ls (w.getLastD ⟨#[]⟩)=some us:=hn
  rw [levelW,hn',Option.bind_some]
  rcases stepW_spec t w us known more with ⟨u,h1,h2,h3⟩|⟨new,h1,h2,h3⟩
  ·rw [h3]
   exact .inl ⟨w,us,u,by simp,hn,h1,h2,rfl⟩
  ·rw [h1]
   dsimp only
   rcases levelW_spec ls t ws (known++new) (more++new.map (fun u=>w++[u])) (fun w' hw=>h w' (by simp [hw])) with ⟨w',us',u,a1,a2,a3,a4,a5⟩|⟨new2,a1,a2,a3⟩
   ·exact .inl ⟨w',us',u,by simp [a1],a2,a3,a4,a5⟩
   ·have e:(new.map (fun u=>w++[u])).map endW=new:=by
     rw [List.map_map]
     exact (List.map_congr_left fun x _=>endW_snoc w x).trans (List.map_id _)
    refine .inr ⟨new.map (fun u=>w++[u])++new2,by rw [a1,List.map_append,e];simp,fun w' us' hw' hn2 u hu=>?_,fun m hm=>?_⟩
    ·rw [List.map_append,e,←List.append_assoc]
     rcases List.mem_cons.1 hw' with rfl|hw'
     ·rw [hn] at hn2
      injection hn2 with hn2
      subst hn2
      exact ⟨(h2 u hu).1,List.mem_append_left _ (h2 u hu).2⟩
     ·exact a2 w' us' hw' hn2 u hu
    ·rcases List.mem_append.1 hm with hm|hm
     ·obtain ⟨u,hu,rfl⟩:=List.mem_map.1 hm
      exact ⟨w,us,u,by simp,hn,(h3 u hu).1,(h3 u hu).2,rfl⟩
     ·obtain ⟨w',us',u,b1,b2,b3,b4,b5⟩:=a3 m hm
      exact ⟨w',us',u,by simp [b1],b2,b3,fun h=>b4 (List.mem_append_left _ h),b5⟩
theorem chain_snoc (ls:List (Tm × Tm)) (v:Tm):∀ (ts:List Tm) (x:Tm),ts.getLast?=some x→chainT ls ts=true→leadsT ls x v=true→chainT ls (ts++[v])=true
 | [],x,h,_,_=>by cases h
 | [a],x,h,_,hl=>by
  simp at h
  subst h
  show (leadsT ls a v && chainT ls [v])=true
  rw [hl]
  rfl
 | a :: b :: r,x,h,hc,hl=>by
  have hc':(leadsT ls a b && chainT ls (b :: r))=true:=hc
  rw [Bool.and_eq_true] at hc'
  show (leadsT ls a b && chainT ls (b :: r++[v]))=true
  rw [hc'.1,Bool.true_and]
  exact chain_snoc ls v (b :: r) x (by simpa using h) hc'.2 hl
theorem way_snoc {ls:List (Tm × Tm)} (hls:LawsGood ls) {t:Tm} {k:Nat} {w us:List ByteArray} {u:ByteArray} (h:WayOk ls t k w) (hk:1≤k) (hn:nextS ls (endW w)=some us) (hu:u∈us):∃ (ts:List Tm) (v:Tm),w++[u]=(ts++[v]).map Tm.text∧w=ts.map Tm.text∧ts.length=k∧ts.head?=some t∧chainT ls (ts++[v])=true∧(∀ x,x∈ts++[v]→x.good∧x.size≤60)∧u=v.text∧(2≤k→∀ x,ts.getLast?=some x→comesT t x=false):=by
 obtain ⟨ts,rfl,hl,hh,hc,hg,hlast⟩:=h.ex
 obtain ⟨x,hx⟩:∃ x,ts.getLast?=some x:=by
  cases hts:ts.getLast? with
  | some x=>exact ⟨x,rfl⟩
  | none=>rw [List.getLast?_eq_none_iff] at hts;subst hts;simp at hl;omega
 have hxm:x∈ts:=List.mem_of_getLast? hx
 have hgx:=hg x hxm
 have he:endW (ts.map Tm.text)=x.text:=by
  unfold endW
  rw [List.getLastD_eq_getLast?,List.getLast?_map,hx]
  rfl
 rw [he] at hn
 obtain ⟨x',h1,h2,h3,h4,h5⟩:=nextS_mem hls hn
 rw [readT_back hgx.1 hgx.2] at h1
 injection h1 with h1
 subst h1
 obtain ⟨v,hv,rfl⟩:=(h4 u).1 hu
 have hgv:=h5 v hv
 refine ⟨ts,v,by simp,rfl,hl,hh,chain_snoc ls v ts x hx hc ((leads_iff ls hls x v hgx.1 (by omega) hgv.1).2 hv),fun y hy=>?_,rfl,hlast⟩
 rcases List.mem_append.1 hy with hy|hy
 ·exact hg y hy
 ·obtain rfl:=List.mem_singleton.1 hy
  exact hgv
def nextsR (ls:List (Tm × Tm)) (s:ByteArray):List ByteArray:=match readT s with
 | some t=>nxS ls t
 | none=>[]
def hitS (ls:List (Tm × Tm)) (t:Tm) (now:List ByteArray):Bool:=now.any fun s=>(nextsR ls s).any (comesS t)
def addAll (a l:List ByteArray):List ByteArray:=l.foldl (fun a u=>insD u a) a
def stepS (ls:List (Tm × Tm)) (now:List ByteArray):List ByteArray:=now.foldl (fun a s=>addAll a (nextsR ls s)) []
def shortS (ls:List (Tm × Tm)) (t:Tm):Nat→Nat→List ByteArray→Nat
 | 0,_,_=>0
 | n+1,k,now=>if hitS ls t now=true then k else shortS ls t n (k+1) (stepS ls now)
theorem nextsR_some {ls:List (Tm × Tm)} (hls:LawsGood ls) {s:ByteArray} {us:List ByteArray} (h:nextS ls s=some us):nextsR ls s=us:=by
 obtain ⟨t,h1,h2,h3,_,_⟩:=nextS_mem hls h
 unfold nextsR
 rw [h1,h3]
 exact nxS_eq ls t
theorem mem_addAll (x:ByteArray):∀ (l a:List ByteArray),x∈addAll a l↔x∈a∨x∈l
 | [],a=>by simp [addAll]
 | u :: l,a=>by
  show x∈addAll (insD u a) l↔_
  rw [mem_addAll x l,mem_insD,List.mem_cons]
  constructor
  ·rintro ((h|h)|h)
   ·exact .inr (.inl h)
   ·exact .inl h
   ·exact .inr (.inr h)
  ·rintro (h|h|h)
   ·exact .inl (.inr h)
   ·exact .inl (.inl h)
   ·exact .inr h
theorem addAll_sorted:∀ (l a:List ByteArray),a.Pairwise ltS→(addAll a l).Pairwise ltS
 | [],a,h=>h
 | u :: l,a,h=>addAll_sorted l _ (insD_sorted u h)
theorem addAll_len:∀ (l a:List ByteArray),(addAll a l).length≤a.length+l.length
 | [],a=>Nat.le_refl _
 | u :: l,a=>by
  have h1:=addAll_len l (insD u a)
  have h2:=insD_len u a
  show (addAll (insD u a) l).length≤_
  rw [List.length_cons]
  omega
theorem mem_stepF (ls:List (Tm × Tm)) (x:ByteArray):∀ (now a:List ByteArray),x∈now.foldl (fun a s=>addAll a (nextsR ls s)) a↔x∈a∨∃ s∈now,x∈nextsR ls s
 | [],a=>by simp
 | s :: now,a=>by
  rw [List.foldl_cons,mem_stepF ls x now,mem_addAll]
  simp only [List.mem_cons,exists_eq_or_imp,or_assoc]
theorem stepF_sorted (ls:List (Tm × Tm)):∀ (now a:List ByteArray),a.Pairwise ltS→(now.foldl (fun a s=>addAll a (nextsR ls s)) a).Pairwise ltS
 | [],a,h=>h
 | s :: now,a,h=>stepF_sorted ls now _ (addAll_sorted _ _ h)
theorem mem_stepS {ls:List (Tm × Tm)} {x:ByteArray} {now:List ByteArray}:x∈stepS ls now↔∃ s∈now,x∈nextsR ls s:=by
 unfold stepS
 rw [mem_stepF]
 simp
theorem stepS_sorted (ls:List (Tm × Tm)) (now:List ByteArray):(stepS ls now).Pairwise ltS:=stepF_sorted ls now [] List.Pairwise.nil
structure LoopInv (ls:List (Tm × Tm)) (t:Tm) (k:Nat) (known:List ByteArray) (ways:List (List ByteArray)) (now done last:List ByteArray):Prop where
 closed:Closed ls done (done++last)
 kn:∀ x,x∈known↔x∈done++last
 ends:∀ x,(∃ w,w∈ways∧endW w=x)↔x∈last
 nowIn:∀ x,x∈now→x∈done++last
 lastIn:∀ x,x∈last→x∈now
 none:∀ x us,x∈done→nextS ls x=some us→∀ u,u∈us→comesS t u=false
 way:∀ w,w∈ways→WayOk ls t k w
theorem loop_sim {ls:List (Tm × Tm)} (hls:LawsGood ls) {t:Tm}:∀ (n k:Nat) (known:List ByteArray) (ways:List (List ByteArray)) (now done last R:List ByteArray),1≤k→LoopInv ls t k known ways now done last→reachS ls n done last=some R →
  (loopW ls t n known ways=(6,[])∧shortS ls t n k now=0)∨(∃ m w us u,WayOk ls t m w∧k≤m∧m < k+n∧nextS ls (endW w)=some us∧u∈us∧comesS t u=true∧loopW ls t n known ways=(0,w++[u])∧shortS ls t n k now=m)
 | 0,k,known,ways,now,done,last,R,hk,hI,hR=>.inl ⟨by rw [loopW],by rw [shortS]⟩
 | n+1,k,known,ways,now,done,last,R,hk,hI,hR=>by
  obtain ⟨fr,h1,h2,h3⟩:=reach_step hR
  have hc2:=closed_step hI.closed h1
  have hnx:∀ w,w∈ways→∃ us,nextS ls (endW w)=some us:=fun w hw=>by
   have hx:=(hI.ends (endW w)).1 ⟨w,hw,rfl⟩
   obtain ⟨us,e,_⟩:=hc2 (endW w) (List.mem_append_right _ hx)
   exact ⟨us,e⟩
  rw [loopW,shortS]
  rcases levelW_spec ls t ways known [] hnx with ⟨w,us,u,a1,a2,a3,a4,a5⟩|⟨new,a1,a2,a3⟩
  ·rw [a5]
   have hhit:hitS ls t now=true:=by
    unfold hitS
    rw [List.any_eq_true]
    refine ⟨endW w,hI.lastIn _ ((hI.ends _).1 ⟨w,a1,rfl⟩),?_⟩
    rw [nextsR_some hls a2,List.any_eq_true]
    exact ⟨u,a3,a4⟩
   rw [if_pos hhit]
   exact .inr ⟨k,w,us,u,hI.way w a1,Nat.le_refl _,by omega,a2,a3,a4,rfl,rfl⟩
  ·rw [a1]
   have hno:∀ x us,x∈done++last→nextS ls x=some us→∀ u,u∈us→comesS t u=false:=fun x us hx hn u hu=>by
    rcases List.mem_append.1 hx with hx|hx
    ·exact hI.none x us hx hn u hu
    ·obtain ⟨w,hw,rfl⟩:=(hI.ends x).2 hx
     exact (a2 w us hw hn u hu).1
   have hhit:¬ hitS ls t now=true:=fun hh=>by
    unfold hitS at hh
    rw [List.any_eq_true] at hh
    obtain ⟨s,hs,hh⟩:=hh
    rw [List.any_eq_true] at hh
    obtain ⟨u,hu,hcu⟩:=hh
    obtain ⟨us,e,_⟩:=hc2 s (hI.nowIn s hs)
    rw [nextsR_some hls e] at hu
    rw [hno s us (hI.nowIn s hs) e u hu] at hcu
    cases hcu
   rw [if_neg hhit]
   have hkn:∀ x,x∈known++new.map endW↔x∈done++last++sortS fr:=fun x=>by
    constructor
    ·intro hx
     rcases List.mem_append.1 hx with hx|hx
     ·exact List.mem_append_left _ ((hI.kn x).1 hx)
     ·obtain ⟨m,hm,rfl⟩:=List.mem_map.1 hx
      obtain ⟨w,us,u,b1,b2,b3,b4,rfl⟩:=a3 m hm
      rw [endW_snoc]
      obtain ⟨us',e1,e2⟩:=hc2 (endW w) (List.mem_append_right _ ((hI.ends _).1 ⟨w,b1,rfl⟩))
      rw [b2] at e1
      injection e1 with e1
      subst e1
      exact e2 u b3
    ·intro hx
     rcases List.mem_append.1 hx with hx|hx
     ·exact List.mem_append_left _ ((hI.kn x).2 hx)
     ·rcases (mem_level ls _ x _ _ _ h1).1 (mem_sortS.1 hx) with h|⟨_,s,hs,us,e1,e2⟩
      ·cases h
      ·obtain ⟨w,hw,rfl⟩:=(hI.ends s).2 hs
       exact (a2 w us hw e1 x e2).2
   have hIn:LoopInv ls t (k+1) (known++new.map endW) ([]++new) (stepS ls now) (done++last) (sortS fr):=by
    refine ⟨hc2,hkn,fun x=>?_,fun x hx=>?_,fun x hx=>?_,hno,fun m hm=>?_⟩
    ·rw [List.nil_append]
     constructor
     ·rintro ⟨m,hm,rfl⟩
      have hx:=(hkn (endW m)).1 (List.mem_append_right _ (List.mem_map.2 ⟨m,hm,rfl⟩))
      obtain ⟨w,us,u,b1,b2,b3,b4,rfl⟩:=a3 m hm
      rw [endW_snoc] at hx ⊢
      exact (List.mem_append.1 hx).resolve_left fun h=>b4 ((hI.kn u).2 h)
     ·intro hx
      have hx2:=(hkn x).2 (List.mem_append_right _ hx)
      rcases List.mem_append.1 hx2 with h|h
      ·exact absurd ((hI.kn x).1 h) (level_disj h1 x hx)
      ·obtain ⟨m,hm,e⟩:=List.mem_map.1 h
       exact ⟨m,hm,e⟩
    ·obtain ⟨s,hs,hxs⟩:=mem_stepS.1 hx
     obtain ⟨us,e1,e2⟩:=hc2 s (hI.nowIn s hs)
     rw [nextsR_some hls e1] at hxs
     exact e2 x hxs
    ·rcases (mem_level ls _ x _ _ _ h1).1 (mem_sortS.1 hx) with h|⟨_,s,hs,us,e1,e2⟩
     ·cases h
     ·exact mem_stepS.2 ⟨s,hI.lastIn s hs,by rw [nextsR_some hls e1];exact e2⟩
    ·rw [List.nil_append] at hm
     obtain ⟨w,us,u,b1,b2,b3,b4,rfl⟩:=a3 m hm
     obtain ⟨ts,v,c1,c2,c3,c4,c5,c6,c7,c8⟩:=way_snoc hls (hI.way w b1) hk b2 b3
     refine ⟨ts++[v],c1,by simp [c3],?_,c5,c6,fun _ x hx=>?_⟩
     ·rw [List.head?_append,c4]
      rfl
     ·simp at hx
      subst hx
      have hcv:=(a2 w us b1 b2 u b3).1
      have hgv:=c6 v (by simp)
      rw [c7,comesS_text hgv.1 hgv.2] at hcv
      exact hcv
   rcases loop_sim hls n (k+1) _ _ _ _ _ R (by omega) hIn h3 with h|⟨m,w,us,u,d1,d2,d3,d4⟩
   ·exact .inl h
   ·exact .inr ⟨m,w,us,u,d1,by omega,by omega,d4⟩
theorem loopInv_start {ls:List (Tm × Tm)} {t:Tm} (hg:t.good) (hs:t.size≤60):LoopInv ls t 1 [t.text] [[t.text]] [t.text] [] [t.text]:=by
 refine ⟨fun s hs=>(by cases hs),fun x=>Iff.rfl,fun x=>?_,fun x hx=>hx,fun x hx=>hx,fun x us hx=>(by cases hx),fun w hw=>?_⟩
 ·constructor
  ·rintro ⟨w,hw,rfl⟩
   obtain rfl:=List.mem_singleton.1 hw
   exact List.mem_singleton.2 rfl
  ·intro hx
   obtain rfl:=List.mem_singleton.1 hx
   exact ⟨[t.text],by simp,rfl⟩
 ·obtain rfl:=List.mem_singleton.1 hw
  refine ⟨[t],rfl,rfl,rfl,rfl,fun x hx=>?_,fun h=>by omega⟩
  obtain rfl:=List.mem_singleton.1 hx
  exact ⟨hg,hs⟩
open Go.Maps
def encS (x:Nat × Nat × Nat):Value:=.slice (some ⟨x.1,0,none⟩) x.2.1 x.2.2
theorem encS_one (x:Nat × Nat × Nat):(encS x).oneCell'=true:=rfl
def kS:Kd (Nat × Nat × Nat):=Kd.scalar encS encS_one
def WayAt (w:World) (ok:Nat→Prop) (x:Nat × Nat × Nat) (way:List ByteArray):Prop:=ok x.1∧x.2.1=way.length∧x.2.1≤x.2.2∧∃ cells,w.heap[x.1]?=some (.cells cells 9 (0,0))∧∀ j (h:j < way.length),cells[j]?=some (.string way[j])
theorem WayAt.step {w w':World} {ok ok':Nat→Prop} {x:Nat × Nat × Nat} {way:List ByteArray} (h:WayAt w ok x way) (hs:∀ k,ok k→k < w.heap.size→ok' k∧w'.heap[k]?=w.heap[k]?):WayAt w' ok' x way:=by
  obtain ⟨h1,h2,h3,cells,h4,h5⟩:=h
  have hk:=hs x.1 h1 (gl_ h4)
  exact ⟨hk.1,h2,h3,cells,hk.2.trans h4,h5⟩
theorem WayAt.of_R {w:World} {base:Nat} {okr ok:Nat→Prop} {v:Value} {way:List ByteArray} (h:Kd.R Kd.string 9 w base okr v way) (hp:0 < way.length) (hk:∀ k,v.ownBlock=some k→ok k):∃ x,v=encS x∧WayAt w ok x way:=by
  obtain ⟨g,cap,rfl,hb,hlt,cells,hc⟩:=Kd.R_form h hp
  refine ⟨(g,way.length,cap),rfl,hk g (by simp [Value.ownBlock]),rfl,(Kd.R_reads' h).2.1,cells,hc,fun j hj=>?_⟩
  have h1:=(Kd.R_cell ByteArray.empty h (j:Int) (by omega) (by omega)).1
  rw [rdOf_at way j hj,Int.toNat_natCast] at h1
  exact (blk_cell hc j).symm.trans h1
theorem WayAt.cell {w:World} {ok:Nat→Prop} {x:Nat × Nat × Nat} {way:List ByteArray} (h:WayAt w ok x way) (j:Nat) (hj:j < way.length):w.cell? ⟨x.1,j,none⟩=some (.string way[j]):=by
  obtain ⟨_,_,_,cells,h4,h5⟩:=h
  exact (blk_cell h4 j).trans (h5 j hj)
theorem size9' (w:World):(Go.sizeOf 9).run Tryz.prog w=.ok 1 w:=by kernel_rfl
theorem clone_way {w:World} {ok:Nat→Prop} {x:Nat × Nat × Nat} {way:List ByteArray} (h:WayAt w ok x way) (hl:way.length≤1000) :
    Calls Tryz.prog 108 #[encS x] w fun e w'=>∃ v',e=.returned v'∧Kd.R Kd.string 9 w' w.heap.size (fun k=>w.heap.size≤k) v' way∧Below w.heap.size w w':=by
  obtain ⟨i0,hi,hz0,hz1,hz2⟩:=info_parts info9
  have hlen:=h.2.1
  refine (Tryz.slices_Clone_f108 i0 (.string ⟨#[]⟩) 1 16 hi hz0 hz1 hz2 rfl (by omega) size9' x.1 0 x.2.1 x.2.2 (encs Value.string way) w (by simp [encs,hlen]) (by unfold maxLen;omega) (by omega) (fun j u hu=>?_) (fun u hu=>?_)).mono (fun e w' hh=>?_)
  · have hj:j < way.length:=by
      have:=(List.getElem?_eq_some_iff.1 hu).1
      simpa [encs] using this
    have hu2:u=.string way[j]:=by
      simp [encs,hj] at hu
      exact hu.symm
    rw [Nat.zero_add,hu2]
    exact h.cell j hj
  · obtain ⟨y,_,rfl⟩:=List.mem_map.1 hu
    rfl
  · obtain ⟨v',rfl,ho,_,hb⟩:=hh
    rw [hlen] at ho
    exact ⟨v',rfl,Kd.R_of_own (enc:=Value.string) (h1:=fun _=>rfl) ho (fun k hk=>own_base ho k hk),hb⟩
def WaysAt (w:World) (base:Nat) (okO okI:Nat→Prop) (v:Value) (ways:List (List ByteArray)):Prop:=∃ xs:List (Nat × Nat × Nat),Kd.R kS 36 w base okO v xs∧xs.length=ways.length∧∀ j (h1:j < xs.length) (h2:j < ways.length),WayAt w okI xs[j] ways[j]
theorem WaysAt.slice {w:World} {base:Nat} {okO okI:Nat→Prop} {v:Value} {ways:List (List ByteArray)} (h:WaysAt w base okO okI v ways):∃ A c,v=.slice A ways.length c:=by
  obtain ⟨xs,h1,h2,_⟩:=h
  obtain ⟨A,c,rfl⟩:=Kd.R_slice h1
  exact ⟨A,c,by rw [h2]⟩
theorem WaysAt.step {w w':World} {base:Nat} {okO okI okO' okI':Nat→Prop} {v:Value} {ways:List (List ByteArray)} (h:WaysAt w base okO okI v ways) (hO:∀ k,v.ownBlock=some k→okO k→k < w.heap.size→okO' k∧w'.heap[k]?=w.heap[k]?) (hI:∀ k,okI k→k < w.heap.size→okI' k∧w'.heap[k]?=w.heap[k]?):WaysAt w' base okO' okI' v ways:=by
  obtain ⟨xs,h1,h2,h3⟩:=h
  refine ⟨xs,Kd.R_of_own (enc:=encS) (h1:=encS_one) (own_move (Kd.own_of_R h1) fun k hk=>?_) (fun k hk=>?_),h2,fun j a b=>(h3 j a b).step hI⟩
  · exact (hO k hk (h1.1 k hk) (own_lt (Kd.own_of_R h1) k hk)).2
  · exact (hO k hk (h1.1 k hk) (own_lt (Kd.own_of_R h1) k hk)).1
theorem WaysAt.below {w w':World} {base:Nat} {okO okI:Nat→Prop} {v:Value} {ways:List (List ByteArray)} (h:WaysAt w base okO okI v ways) (hb:Below w.heap.size w w'):WaysAt w' base okO okI v ways:=h.step (fun k _ hk hl=>⟨hk,hb.block k hl⟩) (fun k hk hl=>⟨hk,hb.block k hl⟩)
theorem WaysAt.get {w:World} {base:Nat} {okO okI:Nat→Prop} {A:Option Addr} {n c:Nat} {ways:List (List ByteArray)} (h:WaysAt w base okO okI (.slice A n c) ways) (i:Nat) (hi:i < ways.length):∃ g x,A=some ⟨g,0,none⟩∧w.cell? ⟨g,i,none⟩=some (encS x)∧WayAt w okI x ways[i]:=by
  obtain ⟨xs,h1,h2,h3⟩:=h
  have hx:i < xs.length:=by omega
  obtain ⟨g,cap,e,hb,hlt,cells,hc⟩:=Kd.R_form h1 (by omega)
  injection e with e1 e2 e3
  subst e1 e2 e3
  have h4:=(Kd.R_cell (0,0,0) h1 (i:Int) (by omega) (by omega)).1
  have h5:rdOf (0,0,0) xs (i:Int)=xs[i]:=by
    unfold rdOf
    rw [Int.toNat_natCast,List.getD_eq_getElem?_getD,List.getElem?_eq_getElem hx]
    rfl
  rw [h5,Int.toNat_natCast] at h4
  exact ⟨g,xs[i],rfl,h4,h3 i hx hi⟩
theorem enters107:∀ args w,(callFunc 107 args).run Tryz.prog w=.ok (.enter 107 args) w:=fun args w=>enters_ Tryz.func107 (by kernel_rfl) rfl args w
def contW (ls:List (Tm × Tm)) (t:Tm) (ws:List (List ByteArray)):List ByteArray ⊕ (List ByteArray × List (List ByteArray))→Option (List ByteArray ⊕ (List ByteArray × List (List ByteArray)))
 | .inl r=>some (.inl r)
 | .inr p=>levelW ls t p.1 p.2 ws
theorem levelW_cons {ls:List (Tm × Tm)} {t:Tm} {known us w:List ByteArray} {more ws:List (List ByteArray)} (h:nextS ls (w.getLastD ⟨#[]⟩)=some us):levelW ls t known more (w :: ws)=contW ls t ws (stepW t w known more us):=by
 rw [levelW,h,Option.bind_some]
 cases stepW t w known more us<;>rfl
def resW (ls:List (Tm × Tm)) (t:Tm) (n:Nat):Option (List ByteArray ⊕ (List ByteArray × List (List ByteArray)))→Int × List ByteArray
 | none=>(5,[])
 | some (.inl r)=>(0,r)
 | some (.inr p)=>loopW ls t n p.1 p.2
theorem loopW_succ (ls:List (Tm × Tm)) (t:Tm) (n:Nat) (known:List ByteArray) (ways:List (List ByteArray)):loopW ls t (n+1) known ways=resW ls t n (levelW ls t known [] ways):=by
 rw [loopW]
 rcases levelW ls t known [] ways with _|(r|p)<;>rfl
theorem loopInv_step {ls:List (Tm × Tm)} (hls:LawsGood ls) {t:Tm} {k:Nat} {known:List ByteArray} {ways:List (List ByteArray)} {now done last fr:List ByteArray} {p:List ByteArray × List (List ByteArray)} (hk:1≤k) (hI:LoopInv ls t k known ways now done last) (h1:levelS ls (done++last) [] last=some fr) (h:levelW ls t known [] ways=some (.inr p)):LoopInv ls t (k+1) p.1 p.2 (stepS ls now) (done++last) (sortS fr):=by
 have hc2:=closed_step hI.closed h1
 have hnx:∀ w,w∈ways→∃ us,nextS ls (endW w)=some us:=fun w hw=>by
  have hx:=(hI.ends (endW w)).1 ⟨w,hw,rfl⟩
  obtain ⟨us,e,_⟩:=hc2 (endW w) (List.mem_append_right _ hx)
  exact ⟨us,e⟩
 rcases levelW_spec ls t ways known [] hnx with ⟨w,us,u,a1,a2,a3,a4,a5⟩|⟨new,a1,a2,a3⟩
 ·rw [a5] at h;cases h
 ·rw [a1] at h
  injection h with h
  injection h with h
  subst h
  dsimp only
  have hno:∀ x us,x∈done++last→nextS ls x=some us→∀ u,u∈us→comesS t u=false:=fun x us hx hn u hu=>by
   rcases List.mem_append.1 hx with hx|hx
   ·exact hI.none x us hx hn u hu
   ·obtain ⟨w,hw,rfl⟩:=(hI.ends x).2 hx
    exact (a2 w us hw hn u hu).1
  have hkn:∀ x,x∈known++new.map endW↔x∈done++last++sortS fr:=fun x=>by
   constructor
   ·intro hx
    rcases List.mem_append.1 hx with hx|hx
    ·exact List.mem_append_left _ ((hI.kn x).1 hx)
    ·obtain ⟨m,hm,rfl⟩:=List.mem_map.1 hx
     obtain ⟨w,us,u,b1,b2,b3,b4,rfl⟩:=a3 m hm
     rw [endW_snoc]
     obtain ⟨us',e1,e2⟩:=hc2 (endW w) (List.mem_append_right _ ((hI.ends _).1 ⟨w,b1,rfl⟩))
     rw [b2] at e1
     injection e1 with e1
     subst e1
     exact e2 u b3
   ·intro hx
    rcases List.mem_append.1 hx with hx|hx
    ·exact List.mem_append_left _ ((hI.kn x).2 hx)
    ·rcases (mem_level ls _ x _ _ _ h1).1 (mem_sortS.1 hx) with h|⟨_,s,hs,us,e1,e2⟩
     ·cases h
     ·obtain ⟨w,hw,rfl⟩:=(hI.ends s).2 hs
      exact (a2 w us hw e1 x e2).2
  refine ⟨hc2,hkn,fun x=>?_,fun x hx=>?_,fun x hx=>?_,hno,fun m hm=>?_⟩
  ·rw [List.nil_append]
   constructor
   ·rintro ⟨m,hm,rfl⟩
    have hx:=(hkn (endW m)).1 (List.mem_append_right _ (List.mem_map.2 ⟨m,hm,rfl⟩))
    obtain ⟨w,us,u,b1,b2,b3,b4,rfl⟩:=a3 m hm
    rw [endW_snoc] at hx ⊢
    exact (List.mem_append.1 hx).resolve_left fun h=>b4 ((hI.kn u).2 h)
   ·intro hx
    have hx2:=(hkn x).2 (List.mem_append_right _ hx)
    rcases List.mem_append.1 hx2 with h|h
    ·exact absurd ((hI.kn x).1 h) (level_disj h1 x hx)
    ·obtain ⟨m,hm,e⟩:=List.mem_map.1 h
     exact ⟨m,hm,e⟩
  ·obtain ⟨s,hs,hxs⟩:=mem_stepS.1 hx
   obtain ⟨us,e1,e2⟩:=hc2 s (hI.nowIn s hs)
   rw [nextsR_some hls e1] at hxs
   exact e2 x hxs
  ·rcases (mem_level ls _ x _ _ _ h1).1 (mem_sortS.1 hx) with h|⟨_,s,hs,us,e1,e2⟩
   ·cases h
   ·exact mem_stepS.2 ⟨s,hI.lastIn s hs,by rw [nextsR_some hls e1];exact e2⟩
  ·rw [List.nil_append] at hm
   obtain ⟨w,us,u,b1,b2,b3,b4,rfl⟩:=a3 m hm
   obtain ⟨ts,v,c1,c2,c3,c4,c5,c6,c7,c8⟩:=way_snoc hls (hI.way w b1) hk b2 b3
   refine ⟨ts++[v],c1,by simp [c3],?_,c5,c6,fun _ x hx=>?_⟩
   ·rw [List.head?_append,c4]
    rfl
   ·simp at hx
    subst hx
    have hcv:=(a2 w us b1 b2 u b3).1
    have hgv:=c6 v (by simp)
    rw [c7,comesS_text hgv.1 hgv.2] at hcv
    exact hcv
theorem WayAt.below {w w':World} {ok:Nat→Prop} {x:Nat × Nat × Nat} {way:List ByteArray} (h:WayAt w ok x way) (hb:Below w.heap.size w w'):WayAt w' ok x way:=h.step (fun k hk hl=>⟨hk,hb.block k hl⟩)
theorem WayAt.grown {W w1:World} {ok:Nat→Prop} {x:Nat × Nat × Nat} {way:List ByteArray} (h:WayAt W ok x way) {base n sz:Nat} {v:Value} {cs:List Value} (hv:W.ownsRow base 36 sz v n cs) (hg:W.grownBy w1 v.ownBlock):WayAt w1 ok x way:=by
 obtain ⟨h1,h2,h3,cells,h4,h5⟩:=h
 exact ⟨h1,h2,h3,cells,(hg.block x.1 (gl_ h4) (own_ne hv h4 (by decide))).trans h4,h5⟩
theorem WayAt.bs {W:World} {ok:Nat→Prop} {x:Nat × Nat × Nat} {way:List ByteArray} (h:WayAt W ok x way) {m:Nat} (hm:x.1≠m) (o:Obj):WayAt (blockSet W m o) ok x way:=by
 obtain ⟨h1,h2,h3,cells,h4,h5⟩:=h
 exact ⟨h1,h2,h3,cells,(set_other o hm).trans h4,h5⟩
theorem WaysAt.grown {W w1:World} {base:Nat} {okO okI:Nat→Prop} {u:Value} {ways:List (List ByteArray)} (h:WaysAt W base okO okI u ways) {base' n sz:Nat} {v:Value} {cs:List Value} (hv:W.ownsRow base' 36 sz v n cs) (hg:W.grownBy w1 v.ownBlock) (hne:∀ k,u.ownBlock=some k→some k≠v.ownBlock):WaysAt w1 base okO okI u ways:=by
 obtain ⟨xs,h1,h2,h3⟩:=h
 exact ⟨xs,Kd.R_of_own (enc:=encS) (h1:=encS_one) (own_move (Kd.own_of_R h1) fun k hk=>hg.block k (own_lt (Kd.own_of_R h1) k hk) (hne k hk)) h1.1,h2,fun j a b=>(h3 j a b).grown hv hg⟩
theorem R_apart {W:World} {base base' n sz:Nat} {ok:Nat→Prop} {u v:Value} {xs:List ByteArray} {cs:List Value} (h:Kd.R Kd.string 9 W base ok u xs) (hv:W.ownsRow base' 36 sz v n cs):∀ k,u.ownBlock=some k→some k≠v.ownBlock:=fun k hk=>by
 rcases (Kd.own_of_R h).2 with ⟨rfl,hz⟩|⟨gb,cap,cur,rfl,hbase,hgb,_⟩
 ·simp [Value.ownBlock] at hk
 ·have:gb=k:=by simpa [Value.ownBlock] using hk
  subst this
  exact own_ne hv hgb (by decide)
def lpT (rs:List S94) (s:ByteArray) (steps:Int):Int × List ByteArray :=
 match newLawsT rs with
 | none=>(2,[])
 | some ls=>match readT s with
  | none=>(4,[])
  | some t=>if 0≤steps∧steps≤5 then (if (reachS ls steps.toNat [] [t.text]).isSome then loopW ls t steps.toNat [t.text] [[t.text]] else (5,[])) else (2,[])
set_option maxRecDepth 100000 in
set_option maxHeartbeats 4000000 in
theorem loopIn_calls (rs:List S94) (ls:List (Tm × Tm)) (hL:newLawsT rs=some ls) (s:ByteArray) (T:Tm) (hR:readT s=some T) (n:Nat) (hn:n≤5) (RX:List ByteArray) (hX:reachS ls n [] [T.text]=some RX) (A0:Option Addr) (c0 b0 b1 b2 b3:Nat) (w:World) (hC0:Kd.C k94 w A0 rs.length rs) (hb0:w.heap[b0]?=some (.cells #[.slice A0 rs.length c0] 35 (0,0))) (hb1:w.heap[b1]?=some (.cells #[.string s] 9 (0,0))) (hb2:w.heap[b2]?=some (.cells #[.int .i64 (n:Int)] 3 (0,0))) (hb3:w.heap[b3]?=some (.cells #[.slice none 0 0] 36 (0,0))) :
  Calls Tryz.prog 107 #[.pointer (some ⟨b0,0,none⟩),.pointer (some ⟨b1,0,none⟩),.pointer (some ⟨b2,0,none⟩),.pointer (some ⟨b3,0,none⟩)] w fun e w'=>e=endE (loopW ls T n [T.text] [[T.text]]).1∧But b3 w w'∧StrsAt w w' b3 (loopW ls T n [T.text] [[T.text]]).2:=by
 have hx0:=blk_cell hb0 0
 have hnl:=newLaws_calls rs A0 c0 w hC0
 have hlg:=newLawsT_good hL
 rw [hL] at hnl
 have hrc:=fun w':World=>read_calls (fun _=>True) s w' (fun _ _=>trivial)
 have hgd:=readT_good hR
 rw [hR] at hrc
 have HC:=Aside0.mk hnl
 have HR:=Aside0.mk hrc
 have HB2:=Aside0.mk (And.intro hb3 (And.intro hb1 hb2))
 have hwi:=within_ok (x:=(n:Int)) (lo:=0) (hi:=5) ⟨by omega,by omega⟩
 have hmm:=@run_makeMap Tryz.prog
 obtain ⟨RR,hRR⟩:∃ r,loopW ls T n [T.text] [[T.text]]=r:=⟨_,rfl⟩
 rw [hRR]
 have hrch:=fun (q:Nat × Value) (w':World) (okL:Nat→Prop) (A2:Option Addr) (c2:Nat) (hW:HasW w' okL ls A2) (hq:Has w' (fun _=>True) T q)=>reach_calls ls hlg.1 (by omega) T hgd.1 hgd.2 q w' (fun _=>True) okL A2 c2 hW hq n hn
 rw [hX] at hrch
 have hxt:=fun (q:Nat × Value) (w':World) (h:Has w' (fun _=>True) T q)=>text_calls T q w' (fun _=>True) h hgd.1 (by omega)
 have HX:=Aside0.mk hrch
 have HT:=Aside0.mk hxt
 have HP:=Aside0.mk (And.intro hlg (And.intro hgd (And.intro hRR (And.intro hn hX))))
 clear hnl hC0 hb0 hb1 hb2 hb3 hL hR hrc hlg hgd hrch hn hRR hX hxt
 obtain ⟨x0,hx0e⟩:∃ x,x=T.text:=⟨_,rfl⟩
 rw [←hx0e] at HT HP
 have HX0:=Aside0.mk hx0e
 clear hx0e
 go_enter Tryz.func107,Tryz.ntmps107
 go_wp2_with (first
  | (go_at_call 77;refine HC.out.mono ?_;rintro e w1 ⟨hb,A2,c2,rfl,hW⟩;have hx1:=blk_cell (blk_below HB2.out.2.1 hb) 0;have H1:=Aside0.mk (And.intro hb hW);clear hb hW)
  | (go_at_call 69;refine (HR.out _).mono ?_;rintro e w2 ⟨hb,⟨tid,pv⟩,he,hp⟩;obtain rfl:e=.returned (.iface tid pv):=he;have hx2:=blk_cell (blk_below HB2.out.2.2 (below_on H1.out.1 hb)) 0;obtain ⟨F,hF⟩:∃ F,F=txF (tid,pv):=⟨_,rfl⟩;have hm1:∀ w,(method 337 tid pv "numnah/rules.text").run Tryz.prog w=.ok (F,pv) w:=hF ▸ meth_text hp;have hm2:∀ args w,(callFunc F args).run Tryz.prog w=.ok (.enter F args) w:=hF ▸ enters_text hp;have HF:=Aside0.mk (fun w' h=>HT.out (tid,pv) w' h);rw [←hF] at HF;clear hF;have H2:=Aside0.mk (And.intro (below_on H1.out.1 hb) (And.intro (H1.out.2.below hb) hp));clear hb hp)
  | (go_at_call 101;refine (within_calls _ _ _ _).mono ?_;rintro e w3 ⟨rfl,h3⟩;subst w3;rw [hwi])
  | (go_at_call 67;refine (demand_ok _ _).mono ?_;rintro e w3 ⟨rfl,h3⟩;subst w3)
  | (go_at_call 106;refine (HX.out (tid,pv) _ _ _ _ H2.out.2.1 H2.out.2.2).mono ?_;rintro e w4 ⟨v4,rfl,hr4,hb⟩;have hx4:=blk_cell (blk_below HB2.out.2.2 (below_on H2.out.1 hb)) 0;have H4:=Aside0.mk (And.intro (below_on H2.out.1 hb) (And.intro (H2.out.2.1.below hb) (H2.out.2.2.below hb)));clear hb hr4)
  | (with_reducible refine (HF.out w4 H4.out.2.2).mono ?_;rintro e w5 ⟨rfl,hb⟩;have H5:=Aside0.mk (And.intro (below_on H4.out.1 hb) (And.intro (H4.out.2.1.below hb) (H4.out.2.2.below hb)));clear hb)
  | (refine (HF.out _ ((H5.out.2.2.alloc _).alloc _ |>.alloc _)).mono ?_;rintro e w6 ⟨rfl,hb⟩;have hs0:=(SetAt.new _).below hb;rw [World.size_alloc,World.size_alloc] at hs0;obtain ⟨o,ho,hs1⟩:=hs0.put x0;have hx7:(blockSet w6 (w5.heap.size+1+1) o).cell? ⟨b2,0,none⟩=some (.int .i64 (n:Int)):=blk_cell ((set_other o (by have:=(gl_ HB2.out.2.2);have:=H5.out.1.size;omega)).trans (blk_below HB2.out.2.2 (below_on H5.out.1 (below_step (below_alloc (below_alloc (below_alloc (Below.refl _ _) _) _) _) hb)))) 0;have H6:=Aside0.mk (And.intro hb hs1);clear hb hs0 hs1))
 obtain ⟨bm,hbm⟩:∃ b,b=w5.heap.size+1+1:=⟨_,rfl⟩
 have h65:Below w5.heap.size w5 w6:=below_step (below_alloc (below_alloc (below_alloc (Below.refl _ _) _) _) _) H6.out.1
 have hbs:Below w5.heap.size w5 (blockSet w6 bm o):=below_bs h65 (by omega) h65.size o
 have hW0:WaysAt (blockSet w6 bm o) w5.heap.size (fun k=>w5.heap.size≤k∧k≠bm) (fun k=>w5.heap.size≤k∧k≠bm) (.slice (some ⟨w5.heap.size+1,0,none⟩) 1 1) [[x0]]:=by
  have hlt6:=H6.out.2.lt
  rw [set_size] at hlt6
  have ho1:=World.ownsRow_lit (base:=w5.heap.size) (e:=36) (size:=1) (w5.alloc (.cells #[.string x0] 9)) #[encS (w5.heap.size,1,1)] 1 (by simp) (by unfold maxLen;decide) (by simp)
  rw [World.size_alloc] at ho1
  have hb6:Below ((w5.alloc (.cells #[.string x0] 9)).alloc (.cells #[encS (w5.heap.size,1,1)] 36)).heap.size ((w5.alloc (.cells #[.string x0] 9)).alloc (.cells #[encS (w5.heap.size,1,1)] 36)) w6:=below_step (below_alloc (Below.refl _ _) _) H6.out.1
  have hk0:((w5.alloc (.cells #[.string x0] 9)).alloc (.cells #[encS (w5.heap.size,1,1)] 36)).heap[w5.heap.size]?=some (.cells #[.string x0] 9 (0,0)):=blk_alloc (blk_new w5 _) _
  have hwy:WaysAt ((w5.alloc (.cells #[.string x0] 9)).alloc (.cells #[encS (w5.heap.size,1,1)] 36)) w5.heap.size (fun k=>w5.heap.size≤k∧k < bm) (fun k=>w5.heap.size≤k∧k < bm) (.slice (some ⟨w5.heap.size+1,0,none⟩) 1 1) [[x0]]:=by
   refine ⟨[(w5.heap.size,1,1)],Kd.R_of_own (enc:=encS) (h1:=encS_one) ho1 (fun k hk=>?_),rfl,fun j h1 h2=>?_⟩
   ·have:w5.heap.size+1=k:=by simpa [Value.ownBlock] using hk
    exact ⟨by omega,by omega⟩
   ·have hj:j=0:=by simpa using h1
    subst hj
    exact ⟨⟨Nat.le_refl _,by show w5.heap.size < bm;omega⟩,rfl,Nat.le_refl _,_,hk0,fun j hj=>by
     have hj0:j=0:=by simpa using hj
     subst hj0
     rfl⟩
  refine (hwy.below hb6).step (fun k _ hk _=>⟨⟨hk.1,by omega⟩,set_other o (by omega)⟩) (fun k hk _=>⟨⟨hk.1,by omega⟩,set_other o (by omega)⟩)
 have hS0:SetAt (blockSet w6 bm o) bm [x0]:=by rw [hbm];exact H6.out.2
 rw [←hbm]
 have HW0:=Aside0.mk (And.intro hW0 (And.intro hS0 (And.intro hbs hbm)))
 clear hW0 hS0 hbs hbm h65
 have HV:=Aside0.mk (And.intro H5.out.2.1 H5.out.2.2)
 have H5b:=Aside0.mk H5.out.1
 clear hx1 hx2 hx4 H1 H2 H4 H5 H6 HX HT HR HC HF hm1 hm2 hwi
 go_loopw [6,34] (fun v6 v34 wr=>∃ (k:Nat) (known:List ByteArray) (ways:List (List ByteArray)) (now done last:List ByteArray),v34=.int .i64 (k:Int)∧Aside0 (k≤n)∧Aside0 (loopW ls T (n - k) known ways=RR)∧Aside0 (LoopInv ls T (k+1) known ways now done last∧reachS ls (n - k) done last=some RX∧known.Nodup∧ways.length≤300)∧Aside0 (WaysAt wr w5.heap.size (fun k=>w5.heap.size≤k∧k≠bm) (fun k=>w5.heap.size≤k∧k≠bm) v6 ways)∧Aside0 (SetAt wr bm known)∧Aside0 (Below w5.heap.size w5 wr)) (fun _ v34 _=>n - (intOf v34).toNat)
 case atStart =>
  obtain ⟨hlg,hgd,hRR,hn,hX⟩:=HP.out
  obtain ⟨hW0,hS0,hbs,hbm⟩:=HW0.out
  have hLI:=loopInv_start (ls:=ls) hgd.1 hgd.2
  rw [←HX0.out] at hLI
  exact ⟨0,[x0],[[x0]],[x0],[],[x0],rfl,⟨Nat.zero_le _⟩,⟨hRR⟩,⟨hLI,hX,by simp,by simp⟩,⟨hW0⟩,⟨hS0⟩,⟨hbs⟩⟩
 case round =>
  obtain ⟨k,known,ways,now,done,last,rfl,HK,HE,HI,HW,HS,HB⟩:=hrel
  obtain ⟨A6,c6,rfl⟩:=HW.out.slice
  by_cases hkn:k < n
  ·have hkb:decide ((k:Int) < (n:Int))=true:=decide_eq_true (by omega)
   obtain ⟨hlg,hgd,hRR,hn,hX⟩:=HP.out
   obtain ⟨hI,hRs,hnd,hwl⟩:=HI.out
   have hE2:=HE.out
   rw [show n - k=(n - (k+1))+1 by omega] at hE2 hRs
   rw [loopW_succ] at hE2
   obtain ⟨fr,h1,h2,h3⟩:=reach_step hRs
   have hc2:=closed_step hI.closed h1
   obtain ⟨ALL,hALL⟩:∃ a,a=done++last++sortS fr:=⟨_,rfl⟩
   obtain ⟨RL,hRL⟩:∃ r,levelW ls T known [] ways=r:=⟨_,rfl⟩
   rw [hRL] at hE2
   have hstep:∀ p,RL=some (.inr p)→LoopInv ls T (k+1+1) p.1 p.2 (stepS ls now) (done++last) (sortS fr):=fun p hp=>loopInv_step hlg.1 (by omega) hI h1 (hRL.trans hp)
   have hnx:∀ w,w∈ways→∃ us,nextS ls (endW w)=some us∧∀ u,u∈us→u∈ALL:=fun w hw=>by
    have hx:=(hI.ends (endW w)).1 ⟨w,hw,rfl⟩
    obtain ⟨us,e1,e2⟩:=hc2 (endW w) (List.mem_append_right _ hx)
    exact ⟨us,e1,fun u hu=>by rw [hALL];exact e2 u hu⟩
   have hkA:∀ x,x∈known→x∈ALL:=fun x hx=>by rw [hALL];exact List.mem_append_left _ ((hI.kn x).1 hx)
   have hwy:=hI.way
   rw [←hALL] at h2
   have HC:=Aside0.mk (And.intro hRL (And.intro hE2 (And.intro h2 (And.intro h3 (And.intro hstep (And.intro hnx (And.intro hwy hwl)))))))
   have HKA:=Aside0.mk (And.intro hnd hkA)
   clear hlg hgd hRR hn hX hI hRs hnd hwl hE2 h1 h2 h3 hc2 hALL hRL hstep hnx hkA hwy
   go_wp2
   go_loopw [8,38] (fun v8 v38 wm=>∃ (i:Nat) (kn:List ByteArray) (more:List (List ByteArray)),v38=.int .i64 (i:Int)∧Aside0 (i≤ways.length)∧Aside0 (levelW ls T kn more (ways.drop i)=RL)∧Aside0 (WaysAt wm w5.heap.size (fun j=>(w5.heap.size≤j∧j≠bm)∧some j≠(Value.slice A6 ways.length c6).ownBlock) (fun k=>w5.heap.size≤k∧k≠bm) v8 more)∧Aside0 (WaysAt wm w5.heap.size (fun k=>w5.heap.size≤k∧k≠bm) (fun k=>w5.heap.size≤k∧k≠bm) (.slice A6 ways.length c6) ways)∧Aside0 (SetAt wm bm kn)∧Aside0 (kn.Nodup∧(∀ x,x∈kn→x∈ALL)∧more.length≤kn.length)∧Aside0 (Below w5.heap.size w5 wm)) (fun _ v38 _=>ways.length - (intOf v38).toNat)
   case atStart =>
    exact ⟨0,known,[],rfl,⟨Nat.zero_le _⟩,⟨by rw [List.drop_zero];exact HC.out.1⟩,⟨[],Kd.R_nil _ _ _ _ _,rfl,fun j h1=>absurd h1 (by simp)⟩,HW,HS,⟨HKA.out.1,HKA.out.2,Nat.zero_le _⟩,HB⟩
   case round =>
    obtain ⟨i,kn,more,rfl,HI2,HV2,HM,HW2,HS2,HN2,HB2x⟩:=hrel
    by_cases hlt:i < ways.length
    ·have hib:decide ((i:Int) < (ways.length:Int))=true:=decide_eq_true (by omega)
     obtain ⟨hRL,hE2,h2,h3,hstep,hnx,hwy,hwl⟩:=HC.out
     obtain ⟨gw,x10,eA6,hx10,hwa⟩:=HW2.out.get i hlt
     have hmem:=List.getElem_mem hlt
     obtain ⟨us,hus,husA⟩:=hnx _ hmem
     have hwo:=hwy _ hmem
     have hv:=HV2.out
     rw [List.drop_eq_getElem_cons hlt,levelW_cons hus] at hv
     generalize ways[i]=wy at *
     obtain ⟨ts,hts,htl,hth,htc,htg,_⟩:=hwo.ex
     have hwlen:wy.length=k+1:=by rw [hts,List.length_map,htl]
     obtain ⟨m0,hm0⟩:∃ m,wy.length=m+1:=⟨k,hwlen⟩
     have hend:endW wy=wy[m0]'(by omega):=by
      unfold endW
      rw [List.getLastD_eq_getLast?,List.getLast?_eq_getElem?,show wy.length - 1=m0 by omega,List.getElem?_eq_getElem (by omega)]
      rfl
     have hce:=hwa.cell m0 (by omega)
     rw [←hend] at hce
     obtain ⟨g10,n10,c10⟩:=x10
     obtain ⟨hw1,hw2,hw3,_⟩:=hwa
     dsimp only at hw1 hw2 hw3 hce
     rw [hm0] at hw2
     subst hw2
     subst eA6
     obtain ⟨t,hr,hnt,husT,hum,hug⟩:=nextS_mem HP.out.1.1 hus
     have hgt:=readT_good hr
     have hrl:=nexA_le ls (by have:=HP.out.1.2;omega) t hgt.2
     have husl:us.length≤60000:=by rw [husT];exact Nat.le_trans (textsT_len _) hrl
     have hutx:∀ u,u∈us→isTx u:=nextS_isTx HP.out.1.1 hus
     have hrc:=fun w':World=>read_calls (fun _=>True) (endW wy) w' (fun _ _=>trivial)
     rw [hr] at hrc
     have hnc:=fun (q:Nat × Value) (w':World) (okL:Nat→Prop) (hW:HasW w' okL ls A2) (hq:Has w' (fun _=>True) t q)=>next_calls ls HP.out.1.1 (by have:=HP.out.1.2;omega) t q w' (fun _=>True) okL A2 c2 hW hq hgt.1 hgt.2 (fun _ _=>trivial)
     rw [hnt] at hnc
     have htc2:=fun (A:Option Addr) (cap:Nat) (w':World) (hL:HasL w' (fun _=>True) (nexA ls t) A 0)=>texts_calls (nexA ls t) (fun v hv=>⟨(hug v hv).1,by have:=(hug v hv).2;omega⟩) (by omega) A cap w' (fun _=>True) hL
     rw [←husT] at htc2
     have hLm:=HV.out.1.below HB2x.out
     have hm0k:m0≤5:=by have:=HP.out.2.2.2.1;omega
     obtain ⟨es,hes⟩:∃ e,e=endW wy:=⟨_,rfl⟩
     rw [←hes] at hrc hce
     have hwa0:WayAt wr (fun k=>w5.heap.size≤k∧k≠bm) (g10,m0+1,c10) wy:=⟨hw1,hm0.symm,hw3,by assumption⟩
     obtain ⟨RS,hRS⟩:∃ r,stepW T wy kn more us=r:=⟨_,rfl⟩
     rw [hRS] at hv
     generalize nexA ls t=nx at *
     have HR:=Aside0.mk hrc
     have HX:=Aside0.mk hnc
     have HTC:=Aside0.mk htc2
     have HLM:=Aside0.mk (And.intro hLm (And.intro hv (And.intro hRS (And.intro husl (And.intro hutx (And.intro husA (And.intro hlt hwa0)))))))
     have HWY:=Aside0.mk (And.intro hm0 hm0k)
     have hwa1:wrap64 ((m0:Int)+1 - 1)=(m0:Int):=(wrS (by omega) (by omega)).trans (by omega)
     have hwa2:wrap64 (m0:Int)=(m0:Int):=wrS (by omega) (by omega)
     have W1I:=Aside0.mk (wrS (by omega) (by omega):wrap64 ((i:Int)+1)=(i:Int)+1)
     have hx10':wr.cell? ⟨gw,i,none⟩=some (.slice (some ⟨g10,0,none⟩) (m0+1) c10):=hx10
     clear hRL hE2 h2 h3 hstep hnx hwy hwl hx10 hmem hus husA hwo hv hts htl hth htc htg hwlen hm0 hend hw1 hw3 hr hnt husT hum hug hgt hrl husl hutx hrc hnc htc2 hLm hm0k hes hwa0 hRS
     go_wp2_with (first
      | (go_at_call 69;refine (HR.out _).mono ?_;rintro e w12 ⟨hb,⟨t2,p2⟩,he,hp⟩;obtain rfl:e=.returned (.iface t2 p2):=he;have H3:=Aside0.mk (And.intro hb hp);clear hb hp)
      | (go_at_call 99;refine (HX.out (t2,p2) _ _ (HLM.out.1.below H3.out.1) H3.out.2).mono ?_;rintro e w13 ⟨hb,v3,rfl,hrow⟩;obtain ⟨A3,c3,rfl,_,hL3⟩:=hrow.read (fun _ _=>trivial);have H4:=Aside0.mk (And.intro (below_on H3.out.1 hb) hL3);clear hb hrow hL3)
      | (go_at_call 98;refine (HTC.out _ _ _ H4.out.2).mono ?_;rintro e w14 ⟨v4,rfl,hr4,hb⟩;obtain ⟨A37,c37,rfl⟩:=Kd.R_slice hr4;have H5:=Aside0.mk (And.intro (below_on H4.out.1 hb) hr4);clear hb hr4))
     clear hx10' hce
     go_loopw [8,53] (fun v8 v53 wi=>∃ (j:Nat) (kn1:List ByteArray) (more1:List (List ByteArray)),v53=.int .i64 (j:Int)∧Aside0 (j≤us.length)∧Aside0 (stepW T wy kn1 more1 (us.drop j)=RS)∧Aside0 (WaysAt wi w5.heap.size (fun j=>(w5.heap.size≤j∧j≠bm)∧some j≠(Value.slice (some ⟨gw,0,none⟩) ways.length c6).ownBlock) (fun k=>w5.heap.size≤k∧k≠bm) v8 more1)∧Aside0 (WaysAt wi w5.heap.size (fun k=>w5.heap.size≤k∧k≠bm) (fun k=>w5.heap.size≤k∧k≠bm) (.slice (some ⟨gw,0,none⟩) ways.length c6) ways)∧Aside0 (WayAt wi (fun k=>w5.heap.size≤k∧k≠bm) (g10,m0+1,c10) wy)∧Aside0 (SetAt wi bm kn1)∧Aside0 (kn1.Nodup∧(∀ x,x∈kn1→x∈ALL)∧more1.length≤kn1.length)∧Aside0 (Kd.R Kd.string 9 wi w13.heap.size (fun k=>w13.heap.size≤k) (.slice A37 us.length c37) us)∧Aside0 (Below w5.heap.size w5 wi)) (fun _ v53 _=>us.length - (intOf v53).toNat)
     case atStart =>
      obtain ⟨hLm,hv,hRS,husl,hutx,husA,hlt',hwa0⟩:=HLM.out
      exact ⟨0,kn,more,rfl,⟨Nat.zero_le _⟩,⟨by rw [List.drop_zero];exact hRS⟩,⟨HM.out.below H5.out.1⟩,⟨HW2.out.below H5.out.1⟩,⟨hwa0.below H5.out.1⟩,⟨HS2.out.below H5.out.1⟩,HN2,⟨H5.out.2⟩,⟨below_step HB2x.out H5.out.1⟩⟩
     case round =>
      obtain ⟨j,kn1,more1,rfl,HJ,HF1,HM1,HWs,HWA,HS3,HN3,H37,HB3⟩:=hrel
      by_cases hj:j < us.length
      ·have hjb:decide ((j:Int) < (us.length:Int))=true:=decide_eq_true (by omega)
       obtain ⟨ad2,e37,hx2⟩:=Kd.at_string (Kd.R_reads' H37.out).2.2 (j:Int) (by omega) (by omega)
       rw [rdOf_at us j hj,Int.toNat_natCast] at hx2
       have hf:=HF1.out
       rw [List.drop_eq_getElem_cons hj,stepW] at hf
       have W1J:=Aside0.mk (wrS (by omega) (by have:=HLM.out.2.2.2.1;omega):wrap64 ((j:Int)+1)=(j:Int)+1)
       have hut:=HLM.out.2.2.2.2.1 _ (List.getElem_mem hj)
       have huA:=HLM.out.2.2.2.2.2.1 _ (List.getElem_mem hj)
       generalize us[j]=u at *
       subst e37
       obtain ⟨tu,hru,hgu,hsu,hux⟩:=isTx_read hut
       have hcs:comesS T u=comesT T tu:=by unfold comesS;rw [hru]
       rw [hcs] at hf
       have hrc:=fun w':World=>read_calls (fun _=>True) u w' (fun _ _=>trivial)
       rw [hru] at hrc
       have hcm:=fun (p:Nat × Value) (w':World) (hP:Has w' (fun _=>True) T (tid,pv)) (hT:Has w' (fun _=>True) tu p)=>comes_calls T tu (tid,pv) p w' (fun _=>True) (fun _=>True) hP HP.out.2.1.1 (by have:=HP.out.2.1.2;omega) hT hgu (by omega)
       have hcl:=fun (w':World) (hb:Below wr.heap.size wr w')=>clone_way (HWA.out.below hb) (by have:=HWY.out.1;have:=HWY.out.2;omega)
       have hHT:=HV.out.2.below HB3.out
       have HCL:=Aside0.mk hcl
       have HRU:=Aside0.mk hrc
       have HCM:=Aside0.mk hcm
       have HHT:=Aside0.mk (And.intro hHT (And.intro huA hj))
       obtain ⟨wu,hwu⟩:∃ x,x=wy++[u]:=⟨_,rfl⟩
       have HWU:=Aside0.mk hwu
       have hwul:wu.length=m0+2:=by rw [hwu,List.length_append,HWY.out.1];rfl
       rw [←hwu] at hf
       have HWL:=Aside0.mk hwul
       have HF2:=Aside0.mk hf
       have hx3:wr.cell? ⟨b3,0,none⟩=some (.slice none 0 0):=blk_cell (blk_below HB2.out.1 (below_on H5b.out HB3.out)) 0
       clear hf hut huA hru hgu hsu hux hcs hrc hcm hcl hHT hwu hwul
       obtain ⟨bb,hbb⟩:∃ b,b=comesT T tu:=⟨_,rfl⟩
       rw [←hbb] at HF2 HCM
       clear hbb
       cases bb with
       | true =>
        have hRS:RS=.inl wu:=by
         have:=HF2.out
         rw [if_pos rfl] at this
         exact this.symm
        have hRR:RR=(0,wu):=by
         have h1:=HLM.out.2.1
         rw [hRS] at h1
         have h2:=HC.out.2.1
         rw [←h1] at h2
         exact h2.symm
        have HRR:=Aside0.mk hRR
        clear hRS hRR
        go_wp2_with (first
         | (go_at_call 108;refine (HCL.out _ (Below.refl _ _)).mono ?_;rintro e w8 ⟨cv,rfl,hown,hb⟩;obtain ⟨g8,c8,rfl,_,_⟩:=Kd.R_form hown (by rw [HWY.out.1];omega);have H8:=Aside0.mk (And.intro hown hb);clear hown hb)
         | ((with_reducible refine gate_builtin (b:=.append) (xs:=#[.tmp 58,.tmp 60]) rfl ?_);at_builtin;refine Kd.R_append Kd.string (w0:=wr) wr.heap.size rfl (.tmp 58) (.tmp 60) 36 9 (.string ⟨#[]⟩) 16 rfl Tryz.underlying36 info9 rfl (by decide) (by omega) (.slice (some ⟨g8,0,none⟩) wy.length c8) wy u [.string u] (fun k=>wr.heap.size≤k) (fun _=>False) rfl rfl ?aP (fun _ hk=>hk.elim) ?aF ?aO ?aB ?aS ?aL ?_;(case aP=>exact rfl);(case aF=>exact fun k hk=>Nat.le_trans H8.out.2.size hk);(case aO=>exact H8.out.1);(case aB=>exact H8.out.2);(case aS=>exact H8.out.2.size);(case aL=>exact (by have:=HWY.out.1;have:=HWY.out.2;omega));intro v13 w9 ho9 hb9 hg9 hat9;rw [←HWU.out] at ho9;obtain ⟨g13,c13,rfl,_,_⟩:=Kd.R_form ho9 (by rw [HWL.out];omega);have H9:=Aside0.mk (And.intro ho9 hb9);clear ho9 hb9 hg9 hat9)
         | (go_at_call 69;refine (HRU.out _).mono ?_;rintro e w15 ⟨hb,⟨t9,p9⟩,he,hp⟩;obtain rfl:e=.returned (.iface t9 p9):=he;have H15:=Aside0.mk (And.intro hb hp);clear hb hp)
         | (go_at_call 79;refine (HCM.out (t9,p9) _ ((HHT.out.1.below H9.out.2).below H15.out.1) H15.out.2).mono ?_;rintro e w16 ⟨rfl,hb⟩;have hbw:=below_step (below_step H9.out.2 H15.out.1) hb;have hk3:=blk_below HB2.out.1 (below_on H5b.out (below_on HB3.out hbw));have hz3:=blk_frozen hk3 0;have hd3:w16.cell? ⟨b3,0,none⟩=some (.slice none 0 0):=blk_cell hk3 0;have H16:=Aside0.mk (And.intro hbw (And.intro hk3 (Kd.R_below (Kd.R_below H9.out.1 H15.out.1) hb)));clear hk3;clear hb hbw))
        obtain ⟨hbw,hk3,hr16⟩:=H16.out
        have hbW:Below w.heap.size w w16:=below_on H5b.out (below_on HB3.out hbw)
        have hle:w.heap.size≤wr.heap.size:=Nat.le_trans H5b.out.size HB3.out.size
        have ho16:=own_weaken (Kd.own_of_R hr16) hle
        have hf1:But b3 w (w16.setCell ⟨b3,0,none⟩ (.slice (some ⟨g13,0,none⟩) wu.length c13)):=(But.of_below hbW).trans (But.set _ 0 _)
        have hf2:(w16.setCell ⟨b3,0,none⟩ (.slice (some ⟨g13,0,none⟩) wu.length c13)).heap[b3]?=some (.cells #[.slice (some ⟨g13,0,none⟩) wu.length c13] 36 (0,0)):=blk_setCell hk3 _
        have hf3:Kd.R Kd.string 9 (w16.setCell ⟨b3,0,none⟩ (.slice (some ⟨g13,0,none⟩) wu.length c13)) w.heap.size (fun k=>w.heap.size≤k) (.slice (some ⟨g13,0,none⟩) wu.length c13) wu:=Kd.R_of_own (own_setCell ho16 (own_ne ho16 hk3 (by decide)) _) (fun k hk=>own_base ho16 k hk)
        generalize w16.setCell ⟨b3,0,none⟩ (.slice (some ⟨g13,0,none⟩) wu.length c13)=w19 at *
        refine bodyPost_ret (results_none rfl _ _ _) rfl ?_
        rw [HRR.out]
        exact ⟨rfl,hf1,_,hf2,hf3⟩
       | false =>
        have hf:=HF2.out
        rw [if_neg (by simp)] at hf
        by_cases hm:u∈kn1
        ·rw [if_pos hm] at hf
         have HF3:=Aside0.mk hf
         have HMm:=Aside0.mk hm
         clear hf hm
         go_wp2_with (first
         | (go_at_call 108;refine (HCL.out _ (Below.refl _ _)).mono ?_;rintro e w8 ⟨cv,rfl,hown,hb⟩;obtain ⟨g8,c8,rfl,_,_⟩:=Kd.R_form hown (by rw [HWY.out.1];omega);have H8:=Aside0.mk (And.intro hown hb);clear hown hb)
         | ((with_reducible refine gate_builtin (b:=.append) (xs:=#[.tmp 58,.tmp 60]) rfl ?_);at_builtin;refine Kd.R_append Kd.string (w0:=wr) wr.heap.size rfl (.tmp 58) (.tmp 60) 36 9 (.string ⟨#[]⟩) 16 rfl Tryz.underlying36 info9 rfl (by decide) (by omega) (.slice (some ⟨g8,0,none⟩) wy.length c8) wy u [.string u] (fun k=>wr.heap.size≤k) (fun _=>False) rfl rfl ?aP (fun _ hk=>hk.elim) ?aF ?aO ?aB ?aS ?aL ?_;(case aP=>exact rfl);(case aF=>exact fun k hk=>Nat.le_trans H8.out.2.size hk);(case aO=>exact H8.out.1);(case aB=>exact H8.out.2);(case aS=>exact H8.out.2.size);(case aL=>exact (by have:=HWY.out.1;have:=HWY.out.2;omega));intro v13 w9 ho9 hb9 hg9 hat9;rw [←HWU.out] at ho9;obtain ⟨g13,c13,rfl,_,_⟩:=Kd.R_form ho9 (by rw [HWL.out];omega);have H9:=Aside0.mk (And.intro ho9 hb9);clear ho9 hb9 hg9 hat9)
         | (go_at_call 69;refine (HRU.out _).mono ?_;rintro e w15 ⟨hb,⟨t9,p9⟩,he,hp⟩;obtain rfl:e=.returned (.iface t9 p9):=he;have H15:=Aside0.mk (And.intro hb hp);clear hb hp)
         | (go_at_call 79;refine (HCM.out (t9,p9) _ ((HHT.out.1.below H9.out.2).below H15.out.1) H15.out.2).mono ?_;rintro e w16 ⟨rfl,hb⟩;have hbw:=below_step (below_step H9.out.2 H15.out.1) hb;have hlk:=(HS3.out.below hbw).look u;rw [decide_eq_true HMm.out] at hlk;have H16:=Aside0.mk hbw;clear hb hbw))
         have hbw:=H16.out
         rw [W1J.out]
         refine ⟨⟨j+1,kn1,more1,by simp,⟨HHT.out.2.2⟩,⟨HF3.out⟩,⟨HM1.out.below hbw⟩,⟨HWs.out.below hbw⟩,⟨HWA.out.below hbw⟩,⟨HS3.out.below hbw⟩,HN3,⟨Kd.R_below H37.out hbw⟩,⟨below_step HB3.out hbw⟩⟩,?_⟩
         simp only [intOf]
         have:=HHT.out.2.2
         omega
        ·rw [if_neg hm] at hf
         have HF3:=Aside0.mk hf
         have HMm:=Aside0.mk hm
         clear hf hm
         obtain ⟨xs,hxR,hxl,hxW⟩:=HM1.out
         obtain ⟨A8,c8',rfl⟩:=Kd.R_slice hxR
         have hbmlt:=HS3.out.lt
         have HXS:=Aside0.mk (And.intro hxR (And.intro hxl (And.intro hxW hbmlt)))
         have HAL:=Aside0.mk (show (xs.length+1) * 24≤140737488355328 by
          have h1:=HN3.out
          have h2:=nodup_le _ _ h1.1 h1.2.1
          have h3:=HC.out.2.2.1
          rw [hxl]
          omega)
         clear hxR hxl hxW hbmlt
         have hgl:gw < wr.heap.size:=by
          obtain ⟨ys,hyR,_⟩:=HWs.out
          exact Kd.R_lt hyR gw (by simp [Value.ownBlock])
         have HBM5:=Aside0.mk (show w5.heap.size≤bm by have:=HW0.out.2.2.2;omega)
         have hAF:∀ (wz:World) (oo:Obj),wr.heap.size≤wz.heap.size→∀ k,(blockSet wz bm oo).heap.size≤k→(w5.heap.size≤k∧k≠bm)∧some k≠(Value.slice (some ⟨gw,0,none⟩) ways.length c6).ownBlock:=fun wz oo h1 k hk=>by
          rw [set_size] at hk
          have h2:=HXS.out.2.2.2
          have h4:=HB3.out.size
          refine ⟨⟨by omega,by omega⟩,fun e=>?_⟩
          have:gw=k:=by simpa [Value.ownBlock] using e.symm
          omega
         have HAF:=Aside0.mk hAF
         clear hgl hAF
         go_wp2_with (first
         | (go_at_call 108;refine (HCL.out _ (Below.refl _ _)).mono ?_;rintro e w8 ⟨cv,rfl,hown,hb⟩;obtain ⟨g8,c8,rfl,_,_⟩:=Kd.R_form hown (by rw [HWY.out.1];omega);have H8:=Aside0.mk (And.intro hown hb);clear hown hb)
         | ((with_reducible refine gate_builtin (b:=.append) (xs:=#[.tmp 58,.tmp 60]) rfl ?_);at_builtin;refine Kd.R_append Kd.string (w0:=wr) wr.heap.size rfl (.tmp 58) (.tmp 60) 36 9 (.string ⟨#[]⟩) 16 rfl Tryz.underlying36 info9 rfl (by decide) (by omega) (.slice (some ⟨g8,0,none⟩) wy.length c8) wy u [.string u] (fun k=>wr.heap.size≤k) (fun _=>False) rfl rfl ?aP (fun _ hk=>hk.elim) ?aF ?aO ?aB ?aS ?aL ?_;(case aP=>exact rfl);(case aF=>exact fun k hk=>Nat.le_trans H8.out.2.size hk);(case aO=>exact H8.out.1);(case aB=>exact H8.out.2);(case aS=>exact H8.out.2.size);(case aL=>exact (by have:=HWY.out.1;have:=HWY.out.2;omega));intro v13 w9 ho9 hb9 hg9 hat9;rw [←HWU.out] at ho9;obtain ⟨g13,c13,rfl,_,_⟩:=Kd.R_form ho9 (by rw [HWL.out];omega);have H9:=Aside0.mk (And.intro ho9 hb9);clear ho9 hb9 hg9 hat9)
         | (go_at_call 69;refine (HRU.out _).mono ?_;rintro e w15 ⟨hb,⟨t9,p9⟩,he,hp⟩;obtain rfl:e=.returned (.iface t9 p9):=he;have H15:=Aside0.mk (And.intro hb hp);clear hb hp)
         | (go_at_call 79;refine (HCM.out (t9,p9) _ ((HHT.out.1.below H9.out.2).below H15.out.1) H15.out.2).mono ?_;rintro e w16 ⟨rfl,hb⟩;have hbw:=below_step (below_step H9.out.2 H15.out.1) hb;have hlk:=(HS3.out.below hbw).look u;rw [decide_eq_false HMm.out] at hlk;obtain ⟨o2,ho2,hs2⟩:=(HS3.out.below hbw).put u;have H16:=Aside0.mk (And.intro hbw (And.intro hs2 (And.intro (Kd.R_below (Kd.R_below H9.out.1 H15.out.1) hb) (And.intro (Kd.R_of_own (enc:=encS) (h1:=encS_one) (own_blockSet (o:=o2) (own_move (Kd.own_of_R HXS.out.1) fun k hk=>hbw.block k (own_lt (Kd.own_of_R HXS.out.1) k hk)) (fun k hk=>(HXS.out.1.1 k hk).1.2)) HXS.out.1.1:Kd.R kS 36 (blockSet w16 bm o2) w5.heap.size (fun j=>(w5.heap.size≤j∧j≠bm)∧some j≠(Value.slice (some ⟨gw,0,none⟩) ways.length c6).ownBlock) (.slice A8 xs.length c8') xs) (below_bs (below_step HB3.out hbw) HBM5.out (Nat.le_trans HB3.out.size hbw.size) o2)))));clear hs2;clear hb hbw)
         | ((with_reducible refine gate_builtin (b:=.append) (xs:=#[.tmp 73,.tmp 75]) rfl ?_);at_builtin;refine Kd.R_append kS (w0:=w5) w5.heap.size rfl (.tmp 73) (.tmp 75) 84 36 (.slice none 0 0) 24 rfl Tryz.underlying84 info36 rfl (by decide) (by omega) (.slice A8 xs.length c8') xs (g13,wu.length,c13) [.slice (some ⟨g13,0,none⟩) wu.length c13] (fun j=>(w5.heap.size≤j∧j≠bm)∧some j≠(Value.slice (some ⟨gw,0,none⟩) ways.length c6).ownBlock) (fun _=>False) rfl rfl ?aP (fun _ hk=>hk.elim) ?aF ?aO ?aB ?aS ?aL ?_;(case aP=>exact rfl);(case aF=>exact HAF.out w16 o2 H16.out.1.size);(case aO=>exact H16.out.2.2.2.1);(case aB=>exact H16.out.2.2.2.2);(case aS=>exact H16.out.2.2.2.2.size);(case aL=>exact HAL.out);intro v18 w18 ho18 hb18 hg18 hat18;have H18:=Aside0.mk (And.intro ho18 (And.intro hb18 hg18));clear ho18 hb18 hg18 hat18))
         obtain ⟨hbw,hs2,hr16,hO,hB16⟩:=H16.out
         obtain ⟨ho18,hb18,hg18⟩:=H18.out
         obtain ⟨hxR,hxl,hxW,hbmlt⟩:=HXS.out
         have hown:=Kd.own_of_R hO
         have hap:=hxR.1
         have hwus:=hbw.size
         obtain ⟨x13,hx13,hwa13⟩:=WayAt.of_R (ok:=fun k=>w5.heap.size≤k∧k≠bm) hr16 (by rw [HWL.out];omega) (fun k hk=>by
          have h1:=hr16.1 k hk
          have h4:=HB3.out.size
          exact ⟨by omega,by omega⟩)
         obtain ⟨y1,y2,y3⟩:=x13
         unfold encS at hx13
         injection hx13 with e1 e2 e3
         injection e1 with e1
         injection e1 with e1 _ _
         dsimp only at e1 e2 e3
         subst e1 e2 e3
         have hbs:∀ {x:Nat × Nat × Nat} {way:List ByteArray},WayAt wr (fun k=>w5.heap.size≤k∧k≠bm) x way→WayAt w18 (fun k=>w5.heap.size≤k∧k≠bm) x way:=fun h=>((h.below hbw).bs h.1.2 o2).grown hown hg18
         have hwa18:=(hwa13.bs hwa13.1.2 o2).grown hown hg18
         rw [W1J.out]
         refine ⟨⟨j+1,kn1++[u],more1++[wu],by simp,⟨HHT.out.2.2⟩,⟨HF3.out⟩,⟨⟨xs++[(g13,wu.length,c13)],ho18,by simp [hxl],fun a h1 h2=>?_⟩⟩,⟨((HWs.out.below hbw).step (fun k _ hk _=>⟨hk,set_other o2 hk.2⟩) (fun k hk _=>⟨hk,set_other o2 hk.2⟩)).grown hown hg18 (fun k hk e=>(hap k e.symm).2 hk.symm)⟩,⟨hbs HWA.out⟩,⟨hs2.grown hg18 fun e=>(hap _ e.symm).1.2 rfl⟩,⟨?_,?_,by have:=HN3.out.2.2;simp;omega⟩,⟨R_side (R_bs (Kd.R_below H37.out hbw) (m:=bm) (fun k hk=>by have:=H37.out.1 k hk;have:=H4.out.1.size;have:=HS2.out.lt;omega) o2) hg18 (R_apart (R_bs (Kd.R_below H37.out hbw) (m:=bm) (fun k hk=>by have:=H37.out.1 k hk;have:=H4.out.1.size;have:=HS2.out.lt;omega) o2) hown)⟩,⟨hb18⟩⟩,?_⟩
         ·by_cases ha:a < xs.length
          ·have h3:a < more1.length:=by omega
           rw [List.getElem_append_left ha,List.getElem_append_left h3]
           exact hbs (hxW a ha h3)
          ·have h4:a=xs.length:=by
            rw [List.length_append,List.length_singleton] at h1
            omega
           subst h4
           rw [List.getElem_append_right (Nat.le_refl _),List.getElem_append_right (by omega)]
           simp only [hxl,Nat.sub_self,List.getElem_cons_zero]
           exact hwa18
         ·refine List.nodup_append.2 ⟨HN3.out.1,by simp,fun a ha b hb e=>?_⟩
          obtain rfl:=List.mem_singleton.1 hb
          subst e
          exact HMm.out ha
         ·intro x hx
          rcases List.mem_append.1 hx with hx|hx
          ·exact HN3.out.2.1 x hx
          ·obtain rfl:=List.mem_singleton.1 hx
           exact HHT.out.2.1
         ·simp only [intOf]
          have:=HHT.out.2.2
          omega
      ·have hjb:decide ((j:Int) < (us.length:Int))=false:=decide_eq_false (by omega)
       have hf:=HF1.out
       rw [List.drop_of_length_le (by omega),stepW] at hf
       subst hf
       go_wp2
       obtain ⟨hLm,hv,hRS,husl,hutx,husA,hlt',hwa0⟩:=HLM.out
       rw [W1I.out]
       refine ⟨⟨i+1,kn1,more1,by simp,⟨by omega⟩,⟨hv⟩,HM1,HWs,HS3,HN3,HB3⟩,?_⟩
       simp only [intOf]
       omega
    ·have hib:decide ((i:Int) < (ways.length:Int))=false:=decide_eq_false (by omega)
     obtain ⟨hRL,hE2,h2,h3,hstep,hnx,hwy,hwl⟩:=HC.out
     have hv:=HV2.out
     rw [List.drop_of_length_le (by omega),levelW] at hv
     rw [←hv] at hE2
     have hI2:=hstep _ hv.symm
     have hn3:=HN2.out
     have hml:more.length≤300:=Nat.le_trans hn3.2.2 (Nat.le_trans (nodup_le _ _ hn3.1 hn3.2.1) h2)
     have W1K:=Aside0.mk (wrp k (by have:=HP.out.2.2.2.1;omega):wrap64 ((k:Int)+1)=(k:Int)+1)
     have HE3:=Aside0.mk (And.intro hE2 (And.intro hI2 (And.intro h3 (And.intro hn3.1 hml))))
     clear hRL hE2 h2 h3 hstep hnx hwy hwl hv hI2 hn3 hml
     go_wp2
     obtain ⟨hE2,hI2,h3,hnd,hml⟩:=HE3.out
     rw [W1K.out]
     refine ⟨⟨k+1,kn,more,stepS ls now,done++last,sortS fr,by simp,⟨hkn⟩,⟨hE2⟩,⟨hI2,h3,hnd,hml⟩,⟨HM.out.step (fun j _ hj _=>⟨hj.1,rfl⟩) (fun j hj _=>⟨hj,rfl⟩)⟩,HS2,HB2x⟩,?_⟩
     simp only [intOf]
     omega
  ·have hkb:decide ((k:Int) < (n:Int))=false:=decide_eq_false (by omega)
   have hR0:RR=(6,[]):=by
    rw [←HE.out,show n - k=0 by omega,loopW]
   have hbB:=below_on H5b.out HB.out
   have HE0:=Aside0.mk (And.intro hbB hR0)
   clear hR0 hbB
   go_wp2_with (go_at_call 67;refine (demand_no _ _).mono ?_;rintro e w8 ⟨rfl,h8⟩;subst w8)
   refine ⟨rfl,?_⟩
   rw [HE0.out.2]
   exact ⟨rfl,But.of_below HE0.out.1,StrsAt.nil HB2.out.1 HE0.out.1⟩
set_option maxRecDepth 100000 in
set_option maxHeartbeats 1000000 in
theorem lp1_calls (rs:List S94) (s:ByteArray) (steps:Int) (A0:Option Addr) (c0 b0 b1 b2 b3:Nat) (w:World) (hC0:Kd.C k94 w A0 rs.length rs) (hb0:w.heap[b0]?=some (.cells #[.slice A0 rs.length c0] 35 (0,0))) (hb1:w.heap[b1]?=some (.cells #[.string s] 9 (0,0))) (hb2:w.heap[b2]?=some (.cells #[.int .i64 steps] 3 (0,0))) (hb3:w.heap[b3]?=some (.cells #[.slice none 0 0] 36 (0,0))) :
  Calls Tryz.prog 107 #[.pointer (some ⟨b0,0,none⟩),.pointer (some ⟨b1,0,none⟩),.pointer (some ⟨b2,0,none⟩),.pointer (some ⟨b3,0,none⟩)] w fun e w'=>e=endE (lpT rs s steps).1∧But b3 w w'∧StrsAt w w' b3 (lpT rs s steps).2:=by
 have hx0:=blk_cell hb0 0
 have hnl:=newLaws_calls rs A0 c0 w hC0
 cases hL:newLawsT rs with
 | none =>
  have e:lpT rs s steps=(2,[]):=by unfold lpT;rw [hL]
  rw [e]
  rw [hL] at hnl
  have HC:=Aside0.mk hnl
  have HB2:=Aside0.mk hb3
  clear hnl hC0 hb0 hb1 hb2 hb3 hL e
  go_enter Tryz.func107,Tryz.ntmps107
  go_wp2_with (go_at_call 77;refine HC.out.mono ?_;rintro e w1 ⟨hb,rfl⟩;have H1:=Aside0.mk hb;clear hb)
  exact ⟨rfl,rfl,But.of_below H1.out,StrsAt.nil HB2.out H1.out⟩
 | some ls =>
  have hlg:=newLawsT_good hL
  rw [hL] at hnl
  have hrc:=fun w':World=>read_calls (fun _=>True) s w' (fun _ _=>trivial)
  cases hR:readT s with
  | none =>
   have e:lpT rs s steps=(4,[]):=by unfold lpT;rw [hL];dsimp only;rw [hR]
   rw [e]
   rw [hR] at hrc
   have HC:=Aside0.mk hnl
   have HR:=Aside0.mk hrc
   have HB2:=Aside0.mk (And.intro hb3 hb1)
   clear hnl hC0 hb0 hb1 hb2 hb3 hL hR e hrc hlg
   go_enter Tryz.func107,Tryz.ntmps107
   go_wp2_with (first
    | (go_at_call 77;refine HC.out.mono ?_;rintro e w1 ⟨hb,A2,c2,rfl,hW⟩;have hx1:=blk_cell (blk_below HB2.out.2 hb) 0;have H1:=Aside0.mk (And.intro hb hW);clear hb hW)
    | (go_at_call 69;refine (HR.out _).mono ?_;rintro e w2 ⟨hb,rfl⟩;have H2:=Aside0.mk (below_on H1.out.1 hb);clear hb))
   exact ⟨rfl,rfl,But.of_below H2.out,StrsAt.nil HB2.out.1 H2.out⟩
  | some T =>
   have hgd:=readT_good hR
   rw [hR] at hrc
   have HC:=Aside0.mk hnl
   have HR:=Aside0.mk hrc
   have HB2:=Aside0.mk (And.intro hb3 (And.intro hb1 hb2))
   by_cases hm:0≤steps∧steps≤5
   ·have hwi:=within_ok hm
    obtain ⟨m,rfl⟩:∃ m:Nat,steps=(m:Int):=⟨steps.toNat,by omega⟩
    have hm5:m≤5:=by omega
    cases hRR:reachS ls m [] [T.text] with
    | some RX =>
     have e:lpT rs s (m:Int)=loopW ls T m [T.text] [[T.text]]:=by
      unfold lpT
      rw [hL];dsimp only;rw [hR];dsimp only;rw [if_pos hm,Int.toNat_natCast,hRR];exact if_pos rfl
     rw [e]
     exact loopIn_calls rs ls hL s T hR m hm5 RX hRR A0 c0 b0 b1 b2 b3 w hC0 hb0 hb1 hb2 hb3
    | none =>
     have e:lpT rs s (m:Int)=(5,[]):=by
      unfold lpT
      rw [hL];dsimp only;rw [hR];dsimp only;rw [if_pos hm,Int.toNat_natCast,hRR];exact if_neg (by simp)
     rw [e]
     have hrch:=fun (q:Nat × Value) (w':World) (okL:Nat→Prop) (A2:Option Addr) (c2:Nat) (hW:HasW w' okL ls A2) (hq:Has w' (fun _=>True) T q)=>reach_calls ls hlg.1 (by omega) T hgd.1 hgd.2 q w' (fun _=>True) okL A2 c2 hW hq m hm5
     rw [hRR] at hrch
     have HX:=Aside0.mk hrch
     clear hnl hC0 hb0 hb1 hb2 hb3 hL hR hrc hlg hgd hrch hm hRR e hm5
     go_enter Tryz.func107,Tryz.ntmps107
     go_wp2_with (first
      | (go_at_call 77;refine HC.out.mono ?_;rintro e w1 ⟨hb,A2,c2,rfl,hW⟩;have hx1:=blk_cell (blk_below HB2.out.2.1 hb) 0;have H1:=Aside0.mk (And.intro hb hW);clear hb hW)
      | (go_at_call 69;refine (HR.out _).mono ?_;rintro e w2 ⟨hb,⟨tid,pv⟩,he,hp⟩;obtain rfl:e=.returned (.iface tid pv):=he;have hx2:=blk_cell (blk_below HB2.out.2.2 (below_on H1.out.1 hb)) 0;have H2:=Aside0.mk (And.intro (below_on H1.out.1 hb) (And.intro (H1.out.2.below hb) hp));clear hb hp)
      | (go_at_call 101;refine (within_calls _ _ _ _).mono ?_;rintro e w3 ⟨rfl,h3⟩;subst w3;rw [hwi])
      | (go_at_call 67;refine (demand_ok _ _).mono ?_;rintro e w3 ⟨rfl,h3⟩;subst w3)
      | (go_at_call 106;refine (HX.out (tid,pv) _ _ _ _ H2.out.2.1 H2.out.2.2).mono ?_;rintro e w4 ⟨rfl,hb⟩;have H4:=Aside0.mk (below_on H2.out.1 hb);clear hb))
     exact ⟨rfl,rfl,But.of_below H4.out,StrsAt.nil HB2.out.1 H4.out⟩
   ·have e:lpT rs s steps=(2,[]):=by unfold lpT;rw [hL];dsimp only;rw [hR];dsimp only;rw [if_neg hm]
    rw [e]
    have hwi:=within_no hm
    clear hnl hC0 hb0 hb1 hb2 hb3 hL hR e hrc hlg hgd hm
    go_enter Tryz.func107,Tryz.ntmps107
    go_wp2_with (first
     | (go_at_call 77;refine HC.out.mono ?_;rintro e w1 ⟨hb,A2,c2,rfl,hW⟩;have hx1:=blk_cell (blk_below HB2.out.2.1 hb) 0;have H1:=Aside0.mk (And.intro hb hW);clear hb hW)
     | (go_at_call 69;refine (HR.out _).mono ?_;rintro e w2 ⟨hb,⟨tid,pv⟩,he,hp⟩;obtain rfl:e=.returned (.iface tid pv):=he;have hx2:=blk_cell (blk_below HB2.out.2.2 (below_on H1.out.1 hb)) 0;have H2:=Aside0.mk (And.intro (below_on H1.out.1 hb) (And.intro (H1.out.2.below hb) hp));clear hb hp)
     | (go_at_call 101;refine (within_calls _ _ _ _).mono ?_;rintro e w3 ⟨rfl,h3⟩;subst w3;rw [hwi])
     | (go_at_call 67;refine (demand_no _ _).mono ?_;rintro e w3 ⟨rfl,h3⟩;subst w3))
    exact ⟨rfl,rfl,But.of_below H2.out.1,StrsAt.nil HB2.out.1 H2.out.1⟩
set_option maxRecDepth 100000 in
set_option maxHeartbeats 1000000 in
theorem lpE_calls (rs:List S94) (s:ByteArray) (steps:Int) (A0:Option Addr) (c0:Nat) (w:World) (hC0:Kd.C k94 w A0 rs.length rs) :
  Calls Tryz.prog 57 #[.slice A0 rs.length c0,.string s,.int .i64 steps] w fun e w'=>∃ v,e=.returned (.tuple #[v,.int .i64 (lpT rs s steps).1])∧Kd.R Kd.string 9 w' w.heap.size (fun k=>w.heap.size≤k) v (lpT rs s steps).2∧Below w.heap.size w w':=by
 obtain ⟨r,l,hv⟩:∃ r l,lpT rs s steps=(r,l):=⟨_,_,rfl⟩
 have h1:=fun b0 b1 b2 b3 w' hC=>lp1_calls rs s steps A0 c0 b0 b1 b2 b3 w' hC
 rw [hv] at h1 ⊢
 dsimp only at h1 ⊢
 obtain ⟨w3,hw3⟩:∃ w3,w3=(((w.alloc (.cells #[.slice A0 rs.length c0] 35)).alloc (.cells #[.string s] 9)).alloc (.cells #[.int .i64 steps] 3)).alloc (.cells #[.slice none 0 0] 36):=⟨_,rfl⟩
 have hB3:Below w.heap.size w w3:=by rw [hw3];exact below_alloc (below_alloc (below_alloc (below_alloc (Below.refl _ _) _) _) _) _
 have hsz:w3.heap.size=w.heap.size+4:=by rw [hw3];simp
 have hk0:w3.heap[w.heap.size]?=some (.cells #[.slice A0 rs.length c0] 35 (0,0)):=by rw [hw3];exact blk_alloc (blk_alloc (blk_alloc (blk_new w _) _) _) _
 have hk1:w3.heap[w.heap.size+1]?=some (.cells #[.string s] 9 (0,0)):=by rw [hw3];exact blk_alloc (blk_alloc (blk_new1 w _ _) _) _
 have hk2:w3.heap[w.heap.size+2]?=some (.cells #[.int .i64 steps] 3 (0,0)):=by
  rw [hw3]
  have:=blk_new ((w.alloc (.cells #[.slice A0 rs.length c0] 35)).alloc (.cells #[.string s] 9)) (.cells #[.int .i64 steps] 3)
  rw [World.size_alloc,World.size_alloc] at this
  exact blk_alloc this _
 have hk3:w3.heap[w.heap.size+3]?=some (.cells #[.slice none 0 0] 36 (0,0)):=by
  rw [hw3]
  have:=blk_new (((w.alloc (.cells #[.slice A0 rs.length c0] 35)).alloc (.cells #[.string s] 9)).alloc (.cells #[.int .i64 steps] 3)) (.cells #[.slice none 0 0] 36)
  rwa [World.size_alloc,World.size_alloc,World.size_alloc] at this
 have hg:=guard_keeps 107 enters107 #[.pointer (some ⟨w.heap.size,0,none⟩),.pointer (some ⟨w.heap.size+1,0,none⟩),.pointer (some ⟨w.heap.size+2,0,none⟩),.pointer (some ⟨w.heap.size+3,0,none⟩)] w3 (fun c w1=>c=r∧But (w.heap.size+3) w3 w1∧StrsAt (w3.alloc (.cells #[.int .i64 0] 26)) w1 (w.heap.size+3) l) ((h1 w.heap.size (w.heap.size+1) (w.heap.size+2) (w.heap.size+3) (w3.alloc (.cells #[.int .i64 0] 26)) (Kd.C_below hC0 (below_alloc hB3 _)) (blk_alloc hk0 _) (blk_alloc hk1 _) (blk_alloc hk2 _) (blk_alloc hk3 _)).mono (fun e w1 hh=>by
  obtain ⟨rfl,hb,hv1⟩:=hh
  have hbt:But (w.heap.size+3) w3 w1:=(But.of_below (below_alloc (Below.refl _ _) _)).trans hb
  refine ⟨(hb.block _ (by simp) (by omega)).trans (blk_new w3 _),?_⟩
  by_cases hr:r=0
  ·subst hr
   exact .inl ⟨rfl,rfl,hbt,hv1⟩
  ·exact .inr ⟨r,endE_no hr,rfl,hbt,hv1⟩))
 have HG:=Aside0.mk hg
 have HB:=Aside0.mk hB3
 have HZ:=Aside0.mk hsz
 clear hg hB3 hsz hk0 hk1 hk2 hk3 hC0 h1 hv
 subst hw3
 go_enter Tryz.func57,Tryz.ntmps57
 go_wp2_with (go_at_call 65;refine HG.out.mono ?_;rintro e w1 ⟨c,w2,rfl,⟨rfl,hb,v,hv1,hv3⟩,hb2⟩;obtain ⟨A4,c4,rfl⟩:=own_slice (Kd.own_of_R hv3);have hv2:=(hb2.block _ (gl_ hv1) (by have:=HZ.out;omega)).trans hv1;have hz0:=blk_frozen hv2 0;have hd0:w1.cell? ⟨w.heap.size+3,0,none⟩=some (.slice A4 l.length c4):=blk_cell hv2 0;have HH:=Aside0.mk (And.intro hb (And.intro hb2 (And.intro hv2 hv3)));clear hb hb2 hv2 hv3)
 have hz:=HZ.out
 have b1:=HB.out
 obtain ⟨b2,b3,hv2,hv3⟩:=HH.out
 have b4:Below w.heap.size w w1:=(b1.trans (b2.below (Nat.le_add_right _ _) (by omega))).trans (b3.below (by omega) (by have:=b2.size;omega))
 have ho:=Kd.own_of_R hv3
 have hg2:w1.ownsRow w.heap.size 9 1 (.slice A4 l.length c4) l.length (l.map Value.string):=own_weaken (own_move ho (fun k hk=>b3.block k (own_lt ho k hk) (by have:=own_base ho k hk;rw [World.size_alloc] at this;omega))) (by rw [World.size_alloc];omega)
 have hv9:(w1.setCell ⟨w.heap.size+1+1+1,0,none⟩ (.slice A4 l.length c4)).heap[w.heap.size+1+1+1]?=some (.cells #[.slice A4 l.length c4] 36 (0,0)):=blk_setCell hv2 _
 have hcc:(w1.setCell ⟨w.heap.size+1+1+1,0,none⟩ (.slice A4 l.length c4)).cell? ⟨w.heap.size+1+1+1,0,none⟩=some (.slice A4 l.length c4):=blk_cell hv9 0
 have b5:Below w.heap.size w (w1.setCell ⟨w.heap.size+1+1+1,0,none⟩ (.slice A4 l.length c4)):=below_set b4 (by omega)
 have hr5:Kd.R Kd.string 9 (w1.setCell ⟨w.heap.size+1+1+1,0,none⟩ (.slice A4 l.length c4)) w.heap.size (fun k=>w.heap.size≤k) (.slice A4 l.length c4) l:=Kd.R_of_own (own_setCell hg2 (own_ne hg2 (show w1.heap[w.heap.size+1+1+1]?=_ from hv2) (by decide)) _) (fun k hk=>own_base hg2 k hk)
 generalize w1.setCell ⟨w.heap.size+1+1+1,0,none⟩ (.slice A4 l.length c4)=w9 at *
 simp [bodyPost,results,Tryz.results57,go_sem,hcc]
 exact ⟨hr5,b5⟩
def rules_Loop.f (l0:List S94) (a1:ByteArray) (a2:Int):Option (List ByteArray × Int):=some ((lpT l0 a1 a2).2,(lpT l0 a1 a2).1)
theorem rules_Loop.calls (A0:Option Addr) (c0:Nat) (l0:List S94) (a1:ByteArray) (a2:Int) (r0:List ByteArray) (r1:Int) (w:World) (hr0:Kd.C k94 w A0 l0.length l0) (hc0:l0.length≤c0) (h:rules_Loop.f l0 a1 a2=some (r0,r1)) :
  Calls Tryz.prog 57 #[.slice A0 l0.length c0,.string a1,.int .i64 a2] w fun e w'=>∃ v0_,e=.returned (.tuple #[v0_,.int .i64 r1])∧Kd.R Kd.string 9 w' w.heap.size (fun _=>True) v0_ r0∧Below w.heap.size w w':=by
 unfold rules_Loop.f at h
 injection h with h
 injection h with h1 h2
 subst h1 h2
 refine (lpE_calls l0 a1 a2 A0 c0 w hr0).mono ?_
 rintro e w' ⟨v,rfl,h1,h2⟩
 exact ⟨v,rfl,Kd.R_of_own (Kd.own_of_R h1) (fun _ _=>trivial),h2⟩
end Go.Proofs.YtaafeallcaiooaaGreat.Pr
