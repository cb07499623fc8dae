/- RulesSteps: more steps reach more, and begin with what fewer reach; a rule more never reaches fewer terms. -/
import Derived.Test.YtaafeallcaiooaaGreatHQd
import Derived.Test.YtaafeallcaiooaaGreatPr0
import Derived.Test.YtaafeallcaiooaaGreatHRu
import Derived.Test.YtaafeallcaiooaaGreatPrA6
import Derived.Test.YtaafeallcaiooaaGreatHOr
import Derived.Test.YtaafeallcaiooaaGreatHEr
import Derived.Test.YtaafeallcaiooaaGreatHMd
import Derived.Test.YtaafeallcaiooaaGreatPrA2
import Derived.Test.YtaafeallcaiooaaGreatDefRulesSteps
namespace Go.Proofs.YtaafeallcaiooaaGreat.Pr
open Go.RowKit Go.Proofs.Zw Go.Proofs.Zl Go.Proofs.Zm
set_option linter.unusedVariables false
set_option linter.unusedSimpArgs false
def Closed (ls:List (Tm × Tm)) (done all:List ByteArray):Prop:=∀ s,s∈done→∃ us,nextS ls s=some us∧∀ u,u∈us→u∈all
theorem reach_step {ls:List (Tm × Tm)} {n:Nat} {done last R:List ByteArray} (h:reachS ls (n+1) done last=some R):∃ fr,levelS ls (done++last) [] last=some fr∧(done++last++sortS fr).length≤300∧reachS ls n (done++last) (sortS fr)=some R:=by
  rw [reachS] at h
  cases hl:levelS ls (done++last) [] last with
  | none=>rw [hl] at h;cases h
  | some fr =>
    rw [hl,Option.bind_some] at h
    split at h
    · rename_i hz
      exact ⟨fr,rfl,hz,h⟩
    · cases h
theorem closed_step {ls:List (Tm × Tm)} {done last fr:List ByteArray} (hc:Closed ls done (done++last)) (hl:levelS ls (done++last) [] last=some fr):Closed ls (done++last) (done++last++sortS fr):=by
  intro s hs
  rcases List.mem_append.1 hs with hs|hs
  · obtain ⟨us,h1,h2⟩:=hc s hs
    exact ⟨us,h1,fun u hu=>List.mem_append_left _ (h2 u hu)⟩
  · obtain ⟨us,h1⟩:=level_next ls _ _ _ _ hl s hs
    refine ⟨us,h1,fun u hu=>?_⟩
    by_cases hk:u∈done++last
    · exact List.mem_append_left _ hk
    · exact List.mem_append_right _ (mem_sortS.2 ((mem_level ls _ u _ _ _ hl).2 (.inr ⟨hk,s,hs,us,h1,hu⟩)))
theorem level_disj {ls:List (Tm × Tm)} {out ss fr:List ByteArray} (hl:levelS ls out [] ss=some fr):∀ x,x∈sortS fr→x∉out:=fun x hx=>by
  rcases (mem_level ls _ x _ _ _ hl).1 (mem_sortS.1 hx) with h|h
  · cases h
  · exact h.1
theorem reach_pre {ls:List (Tm × Tm)}:∀ (n:Nat) (done last R:List ByteArray),reachS ls n done last=some R→(done++last) <+: R
  | 0,done,last,R,h=>by
    rw [reachS] at h
    injection h with h
    subst h
    exact List.prefix_refl _
  | n+1,done,last,R,h=>by
    obtain ⟨fr,_,_,h3⟩:=reach_step h
    exact (List.prefix_append _ _).trans (reach_pre n _ _ R h3)
theorem reach_len {ls:List (Tm × Tm)}:∀ (n:Nat) (done last R:List ByteArray),(done++last).length≤300→reachS ls n done last=some R→R.length≤300
  | 0,done,last,R,hz,h=>by
    rw [reachS] at h
    injection h with h
    subst h
    exact hz
  | n+1,done,last,R,hz,h=>by
    obtain ⟨fr,_,h2,h3⟩:=reach_step h
    exact reach_len n _ _ R h2 h3
theorem step_nodup {ls:List (Tm × Tm)} {done last fr:List ByteArray} (hd:(done++last).Nodup) (hl:levelS ls (done++last) [] last=some fr):(done++last++sortS fr).Nodup :=
  List.nodup_append.2 ⟨hd,sortS_nodup fr,fun a ha b hb e=>level_disj hl b hb (e ▸ ha)⟩
theorem reach_fewer {ls:List (Tm × Tm)}:∀ (n:Nat) (done last R:List ByteArray),reachS ls (n+1) done last=some R→∃ R',reachS ls n done last=some R'∧R' <+: R
  | 0,done,last,R,h=>⟨done++last,by rw [reachS],reach_pre 1 _ _ _ h⟩
  | n+1,done,last,R,h=>by
    obtain ⟨fr,h1,h2,h3⟩:=reach_step h
    obtain ⟨R',h4,h5⟩:=reach_fewer n _ _ R h3
    exact ⟨R',by rw [reachS,h1,Option.bind_some,if_pos h2,h4],h5⟩
theorem reach_rules {ls ls':List (Tm × Tm)} (hsub:∀ s us,nextS ls s=some us→∃ us',nextS ls' s=some us'∧∀ u,u∈us'→u∈us):∀ (n:Nat) (done last done' last' R:List ByteArray),Closed ls done (done++last)→(∀ s,s∈done'++last'→s∈done++last)→(done'++last').Nodup→(done++last).length≤300→reachS ls n done last=some R→∃ R',reachS ls' n done' last'=some R'∧R'.length≤R.length
  | 0,done,last,done',last',R,hc,hs,hd,hz,h=>by
    rw [reachS] at h
    injection h with h
    subst h
    exact ⟨done'++last',by rw [reachS],nodup_le _ _ hd hs⟩
  | n+1,done,last,done',last',R,hc,hs,hd,hz,h=>by
    obtain ⟨fr,h1,h2,h3⟩:=reach_step h
    have hc2:=closed_step hc h1
    have hn:∀ s,s∈done'++last'→∃ us',nextS ls' s=some us'∧∀ u,u∈us'→u∈done++last++sortS fr:=fun s hx=>by
      obtain ⟨us,e1,e2⟩:=hc2 s (hs s hx)
      obtain ⟨us',e3,e4⟩:=hsub s us e1
      exact ⟨us',e3,fun u hu=>e2 u (e4 u hu)⟩
    obtain ⟨fr',h4⟩:=level_some ls' (done'++last') last' [] (fun s hx=>by
      obtain ⟨us',e,_⟩:=hn s (List.mem_append_right _ hx)
      exact ⟨us',e⟩)
    have hs2:∀ s,s∈done'++last'++sortS fr'→s∈done++last++sortS fr:=fun s hx=>by
      rcases List.mem_append.1 hx with hx|hx
      · exact List.mem_append_left _ (hs s hx)
      · rcases (mem_level ls' _ s _ _ _ h4).1 (mem_sortS.1 hx) with hx|⟨_,s',hs',us,e1,e2⟩
        · cases hx
        · obtain ⟨us',e3,e4⟩:=hn s' (List.mem_append_right _ hs')
          rw [e1] at e3
          injection e3 with e3
          subst e3
          exact e4 s e2
    have hd2:=step_nodup hd h4
    have hz2:=nodup_le _ _ hd2 hs2
    obtain ⟨R',h5,h6⟩:=reach_rules hsub n _ _ _ _ R hc2 hs2 hd2 h2 h3
    exact ⟨R',by rw [reachS,h4,Option.bind_some,if_pos (by omega),h5],h6⟩
structure WayOk (ls:List (Tm × Tm)) (t:Tm) (k:Nat) (w:List ByteArray):Prop where
  ex:∃ ts:List Tm,w=ts.map Tm.text∧ts.length=k∧ts.head?=some t∧chainT ls ts=true∧(∀ x,x∈ts→x.good∧x.size≤60)∧(2≤k→∀ x,ts.getLast?=some x→comesT t x=false)
def endW (w:List ByteArray):ByteArray:=w.getLastD ⟨#[]⟩
structure LoopInv (ls:List (Tm × Tm)) (t:Tm) (k:Nat) (known:List ByteArray) (ways:List (List ByteArray)) (now done last:List ByteArray):Prop where
  closed:Closed ls done (done++last)
  kn:∀ x,x∈known↔x∈done++last
  ends:∀ x,(∃ w,w∈ways∧endW w=x)↔x∈last
  nowIn:∀ x,x∈now→x∈done++last
  lastIn:∀ x,x∈last→x∈now
  none:∀ x us,x∈done→nextS ls x=some us→∀ u,u∈us→comesS t u=false
  way:∀ w,w∈ways→WayOk ls t k w
attribute [local go_sem] max2_int min2_int max_two min_two max_three min_three max_four min_four
set_option linter.unusedVariables false
set_option linter.unusedSimpArgs false
end Go.Proofs.YtaafeallcaiooaaGreat.Pr
namespace Go.Proofs.YtaafeallcaiooaaGreat.Pr
open Go.RowKit Go.Proofs.Zw Go.Proofs.Zl Go.Proofs.Zm
set_option linter.unusedVariables false
set_option linter.unusedSimpArgs false
theorem u64_nn (a:Int):0≤IntKind.u64.wrap a:=by
  simp only [IntKind.wrap,IntKind.bits,IntKind.signed]
  exact Int.emod_nonneg _ (by decide)
theorem mod_5 (a0:Int):∃ m:Nat,m < 5∧nl_mod.f a0 5=some (m:Int):=by
  have h0:=u64_nn a0
  have h5:IntKind.u64.wrap 5=5:=by decide
  have hm:=Int.emod_nonneg (IntKind.u64.wrap a0) (show (5:Int)≠0 by decide)
  have hm2:=Int.emod_lt_of_pos (IntKind.u64.wrap a0) (show (0:Int) < 5 by decide)
  refine ⟨(IntKind.u64.wrap a0 % 5).toNat,by omega,?_⟩
  unfold nl_mod.f
  rw [h5,if_neg (by decide),Int.tmod_eq_emod_of_nonneg h0,wr (by omega) (by omega)]
  congr 1
  omega
theorem reachT_at {R:List S94} {ls:List (Tm × Tm)} (hN:newLawsT R=some ls) {t:Tm} (hg:t.good) (hs:t.size≤60) (m:Nat) (hm:m≤5):reachT R t.text (m:Int)=resRc (reachS ls m [] [t.text]):=by
  unfold reachT
  rw [hN];dsimp only;rw [readT_back hg hs];dsimp only;rw [if_pos ⟨by omega,by omega⟩,Int.toNat_natCast]
theorem lawsT_take:∀ {rs:List S94} {ls:List (Tm × Tm)} (n:Nat),lawsT rs=some ls→lawsT (rs.take n)=some (ls.take n)
  | [],ls,n,h=>by
    rw [lawsT] at h
    injection h with h
    subst h
    simp [lawsT]
  | x :: rs,ls,0,h=>by simp [lawsT]
  | x :: rs,ls,n+1,h=>by
    rw [lawsT] at h
    cases hx:lawT x with
    | none=>rw [hx] at h;cases h
    | some l =>
      cases hr:lawsT rs with
      | none=>rw [hx,hr] at h;cases h
      | some r =>
        rw [hx,hr] at h
        simp only [Option.bind_some,Option.map_some] at h
        injection h with h
        subst h
        rw [List.take_succ_cons,List.take_succ_cons,lawsT,hx,lawsT_take n hr]
        rfl
mutual
theorem nexA_sub {ls ls':List (Tm × Tm)} (h:∀ l,l∈ls'→l∈ls):∀ (t v:Tm),v∈nexA ls' t→v∈nexA ls t
  | .var c,v,hv=>by
    rw [nexA] at hv ⊢
    unfold rootT at hv ⊢
    rw [List.mem_filterMap] at hv ⊢
    obtain ⟨l,h1,h2⟩:=hv
    exact ⟨l,h l h1,h2⟩
  | .app s l,v,hv=>by
    rw [nexA,List.mem_append] at hv ⊢
    rcases hv with hv|hv
    · left
      unfold rootT at hv ⊢
      rw [List.mem_filterMap] at hv ⊢
      obtain ⟨l,h1,h2⟩:=hv
      exact ⟨l,h l h1,h2⟩
    · exact .inr (nexL_sub h s l [] v hv)
theorem nexL_sub {ls ls':List (Tm × Tm)} (h:∀ l,l∈ls'→l∈ls) (s:Int):∀ (l p:List Tm) (v:Tm),v∈nexL ls' s p l→v∈nexL ls s p l
  | [],p,v,hv=>by rw [nexL] at hv;cases hv
  | u :: us,p,v,hv=>by
    rw [nexL,List.mem_append,List.mem_map] at hv ⊢
    rcases hv with ⟨x,hx,rfl⟩|hv
    · exact .inl ⟨x,nexA_sub h u x hx,rfl⟩
    · exact .inr (nexL_sub h s us (p++[u]) v hv)
end
theorem nextS_sub {ls ls':List (Tm × Tm)} (hls:LawsGood ls) (h:∀ l,l∈ls'→l∈ls):∀ s us,nextS ls s=some us→∃ us',nextS ls' s=some us'∧∀ u,u∈us'→u∈us:=fun s us hn=>by
  obtain ⟨t,h1,h2,h3,h4,h5⟩:=nextS_mem hls hn
  have h6:nextT ls' t=some (nexA ls' t):=by
    rw [nextT_nexA]
    exact chk_ok fun v hv=>(h5 v (nexA_sub h t v hv)).2
  refine ⟨textsT (nexA ls' t),by unfold nextS;rw [h1,Option.bind_some,h6];rfl,fun u hu=>?_⟩
  obtain ⟨v,hv,rfl⟩:=mem_txs.1 hu
  exact (h4 _).2 ⟨v,nexA_sub h t v hv,rfl⟩
theorem reach_none (ls:List (Tm × Tm)):∀ (n:Nat) (done:List ByteArray),done.length≤300→reachS ls n done []=some done
  | 0,done,hz=>by rw [reachS,List.append_nil]
  | n+1,done,hz=>by
    rw [reachS,levelS,Option.bind_some]
    have e:sortS []=([]:List ByteArray):=rfl
    rw [e,List.append_nil,List.append_nil,if_pos hz]
    exact reach_none ls n done hz
theorem textsL (a b:List ByteArray) (hl:a.length=b.length) (hz:a.length≤1000000000):∀ (n i:Nat),i+n=a.length→Evt (fun k=>nl_texts.l0 k a b (i:Int)) (decide (a.drop i=b.drop i))
  | 0,i,hi=>by
    rw [List.drop_of_length_le (by omega),List.drop_of_length_le (by omega)]
    refine Evt.now fun k=>?_
    rw [nl_texts.l0,if_neg (by omega)]
    rfl
  | n+1,i,hi=>by
    have h1:i < a.length:=by omega
    have h2:i < b.length:=by omega
    have hw:wrap64 ((i:Int)+1)=((i+1:Nat):Int):=(wr (by omega) (by omega)).trans (by omega)
    rw [List.drop_eq_getElem_cons h1,List.drop_eq_getElem_cons h2]
    by_cases he:a[i]=b[i]
    · refine Evt.step (g':=fun k=>nl_texts.l0 k a b ((i+1:Nat):Int)) (fun k=>?_) ((textsL a b hl hz n (i+1) (by omega)).val ?_)
      · rw [nl_texts.l0,if_pos (by omega),if_pos (by omega),if_pos (by omega),rdOf_at a i h1,rdOf_at b i h2,if_pos (by rw [he]),hw]
      · rw [he]
        by_cases hd:a.drop (i+1)=b.drop (i+1)
        · rw [decide_eq_true hd,hd,decide_eq_true rfl]
        · rw [decide_eq_false hd,decide_eq_false (fun e=>hd (by injection e))]
    · refine Evt.now fun k=>?_
      rw [nl_texts.l0,if_pos (by omega),if_pos (by omega),if_pos (by omega),rdOf_at a i h1,rdOf_at b i h2,if_neg (fun e=>he (toList_inj.1 e))]
      rw [decide_eq_false (fun e=>he (by injection e))]
theorem textsE (a b:List ByteArray) (hz:a.length≤1000000000):Evt (fun k=>nl_texts.f k a b) (decide (a=b)):=by
  unfold nl_texts.f
  by_cases hl:a.length=b.length
  · refine Evt.pos (by omega) ?_
    have h:=textsL a b hl hz a.length 0 (by omega)
    rw [List.drop_zero,List.drop_zero] at h
    exact h
  · refine Evt.neg (by omega) (Evt.all fun _=>?_)
    rw [decide_eq_false (fun e=>hl (by rw [e]))]
theorem textsE_eq {a b:List ByteArray} (hz:a.length≤1000000000) (h:a=b):Evt (fun k=>nl_texts.f k a b) true:=(textsE a b hz).val (decide_eq_true h)
theorem reach_nolaws {t:Tm} (hg:t.good) (hs:t.size≤60):∀ n,reachS [] n [] [t.text]=some [t.text]
  | 0=>by rw [reachS];rfl
  | n+1=>by
    have h0:nexA [] t=[]:=by
      have:=nexA_len [] t
      simp at this
      exact this
    have h1:nextS [] t.text=some []:=by
      rw [nextS_text hg hs,nextT_nexA,h0]
      rfl
    rw [reachS,List.nil_append,levelS,h1,Option.bind_some,freshS,levelS,Option.bind_some]
    have e:sortS []=([]:List ByteArray):=rfl
    rw [e,List.append_nil,if_pos (by simp)]
    exact reach_none [] n [t.text] (by simp)
theorem st_j2 (R:List S94) (ls:List (Tm × Tm)) (hN:newLawsT R=some ls) (t:Tm) (hg:t.good) (hs:t.size≤60) (m:Nat) (hm:m < 5) :
    Evt (fun k=>nl_RulesSteps.j2 k (m:Int) R t.text (resRc (reachS ls m [] [t.text])).2 (resRc (reachS ls m [] [t.text])).1 (resRc (reachS ls (m+1) [] [t.text])).2 (resRc (reachS ls (m+1) [] [t.text])).1) true:=by
  have hlg:=newLawsT_good hN
  have hlw:lawsT R=some ls∧R.length≤6:=by
    unfold newLawsT at hN
    split at hN
    · rename_i h;exact ⟨hN,h⟩
    · cases hN
  have hll:=(lawsT_good hlw.1).2
  cases hD:reachS ls (m+1) [] [t.text] with
  | none =>
    refine Evt.step (fun k=>?_) awakeF
    rw [nl_RulesSteps.j2]
    show (if (5:Int)=0 then _ else if (5:Int)=5 then _ else _)=_
    rw [if_neg (by decide),if_pos rfl]
  | some D =>
    obtain ⟨C,hC,hCD⟩:=reach_fewer m [] [t.text] D hD
    rw [hC]
    have hDl:=reach_len (m+1) [] [t.text] D (by simp) hD
    have hle:=hCD.length_le
    have htk:D.take C.length=C:=(List.prefix_iff_eq_take.1 hCD).symm
    show Evt (fun k=>nl_RulesSteps.j2 k (m:Int) R t.text C 0 D 0) true
    refine Evt.step (g':=fun k=>(nl_texts.f k C C).bind fun t609=>(if t609=true then (nl_RulesSteps.j3 k (m:Int) R t.text C 0 D ((R.length:Int) == 0)) else (nl_RulesSteps.j3 k (m:Int) R t.text C 0 D true))) (fun k=>?_) ?_
    · rw [nl_RulesSteps.j2,if_pos rfl,if_pos rfl,if_neg (by omega),if_pos (by omega),if_pos (by omega),Int.toNat_natCast,htk]
    refine Evt.bind (textsE_eq (by omega) rfl) (Evt.pos rfl ?_)
    by_cases h0:R.length=0
    · have hR0:R=[]:=List.length_eq_zero_iff.1 h0
      have hl0:ls=[]:=List.length_eq_zero_iff.1 (by omega)
      subst hR0 hl0
      rw [reach_nolaws hg hs] at hC hD
      injection hC with hC
      injection hD with hD
      subst hC hD
      refine Evt.step (g':=fun k=>(nl_texts.f k [t.text] [t.text]).bind fun t610=>(if t610=true then ((nl_awake.f k).bind fun t611=>(some t611)) else (some false))) (fun k=>?_) (Evt.bind (textsE_eq (by simp) rfl) (Evt.pos rfl awakeF))
      rw [nl_RulesSteps.j3,if_pos rfl]
      exact if_pos rfl
    · have hb:((R.length:Int) == 0)=false:=by
        rw [beq_eq_false_iff_ne]
        omega
      rw [hb]
      obtain ⟨n,hn⟩:∃ n,R.length=n+1:=⟨R.length - 1,by omega⟩
      have hw:wrap64 ((R.length:Int) - 1)=(n:Int):=(wr (by omega) (by omega)).trans (by omega)
      have hw2:wrap64 ((m:Int)+1)=((m+1:Nat):Int):=(wr (by omega) (by omega)).trans (by omega)
      have hN':newLawsT (R.take n)=some (ls.take n):=by
        unfold newLawsT
        rw [if_pos (by rw [List.length_take];omega)]
        exact lawsT_take n hlw.1
      obtain ⟨R',h1,h2⟩:=reach_rules (nextS_sub hlg.1 fun l h=>List.mem_of_mem_take h) (m+1) [] [t.text] [] [t.text] D (fun s h=>by cases h) (fun s h=>h) (by simp) (by simp) hD
      have hF:rules_Reach.f (R.take n) t.text ((m+1:Nat):Int)=some (R',0):=by
        unfold rules_Reach.f
        rw [reachT_at hN' hg hs (m+1) (by omega),h1]
        rfl
      refine Evt.step (fun k=>?_) awakeF
      rw [nl_RulesSteps.j3,if_neg (by simp),hw,if_pos (by omega),if_pos (by omega),Int.toNat_natCast,hw2,hF,Option.bind_some,if_pos rfl,if_pos (by dsimp only;omega)]
theorem st_l0 (R:List S94) (m:Int) (t:ByteArray) (x11 x13 x15 us:List ByteArray) (x14 x16:Int) (hu:us.length≤1000000) (b:Bool):∀ (d i:Nat) (acc:List ByteArray),i+d=us.length→acc.length≤i+1 →
    Evt (fun k=>(nl_texts.f k x11 (acc++(us.drop i).filter (fun x=>decide (x≠t)))).bind fun t603=>(if t603=true then (nl_RulesSteps.j2 k m R t x13 x14 x15 x16) else (some false))) b →
    Evt (fun k=>nl_RulesSteps.l0 k m R t x11 x13 x14 x15 x16 us acc (i:Int)) b
  | 0,i,acc,hd,ha,h=>by
    rw [List.drop_of_length_le (by omega),List.filter_nil,List.append_nil] at h
    refine Evt.step (fun k=>?_) h
    rw [nl_RulesSteps.l0,if_neg (by omega)]
  | d+1,i,acc,hd,ha,h=>by
    have hi:i < us.length:=by omega
    have hw:wrap64 ((i:Int)+1)=((i+1:Nat):Int):=(wr (by omega) (by omega)).trans (by omega)
    rw [List.drop_eq_getElem_cons hi] at h
    by_cases he:us[i]=t
    · rw [List.filter_cons_of_neg (by simp [he])] at h
      refine Evt.step (fun k=>?_) (st_l0 R m t x11 x13 x15 us x14 x16 hu b d (i+1) acc (by omega) (by omega) h)
      rw [nl_RulesSteps.l0,if_pos (by omega),if_pos (by omega),rdOf_at us i hi,if_pos (by rw [he]),hw]
    · rw [List.filter_cons_of_pos (by simp [he]),←List.singleton_append (x:=us[i]),←List.append_assoc] at h
      refine Evt.step (fun k=>?_) (st_l0 R m t x11 x13 x15 us x14 x16 hu b d (i+1) (acc++[us[i]]) (by omega) (by rw [List.length_append,List.length_singleton];omega) h)
      rw [nl_RulesSteps.l0,if_pos (by omega),if_pos (by omega),rdOf_at us i hi,if_neg (fun e=>he (toList_inj.1 e)),if_pos (by omega),hw]
theorem steps_all (l:List ByteArray) (hl:okStr l) (a1:ByteArray) (ha:a1.size≤9223372036854775807) (a2:Int):Evt (fun k=>nl_RulesSteps.f k l a1 a2) true:=by
  obtain ⟨hE,hg,hz⟩:=gT_spec a1 10 ha (by decide) (by decide)
  generalize gT a1 10=t at *
  have hs:t.size≤60:=by omega
  obtain ⟨m,hm,hmod⟩:=mod_5 a2
  have hM:=made_f hl
  obtain ⟨R,hR⟩:∃ R,R=(madeT l).map toS:=⟨_,rfl⟩
  obtain ⟨ls,hls⟩:∃ ls,ls=madeT l:=⟨_,rfl⟩
  have hN:newLawsT R=some ls:=by rw [hR,hls];exact madeT_laws hl
  have hl3:ls.length≤3:=by rw [hls];exact madeT_len l
  have hlg:=newLawsT_good hN
  rw [←hR] at hM
  have hw2:wrap64 ((m:Int)+1)=((m+1:Nat):Int):=(wr (by omega) (by omega)).trans (by omega)
  have hO:∀ q:Nat,q≤5→rules_Reach.f R t.text (q:Int)=some ((resRc (reachS ls q [] [t.text])).2,(resRc (reachS ls q [] [t.text])).1):=fun q hq=>by
    unfold rules_Reach.f
    rw [reachT_at hN hg hs q hq]
  have h0:rules_Reach.f R t.text 0=some ([t.text],0):=hO 0 (by omega)
  have h1:rules_Reach.f R t.text 1=some ((resRc (reachS ls 1 [] [t.text])).2,(resRc (reachS ls 1 [] [t.text])).1):=hO 1 (by omega)
  have hX:rules_Next.f R t.text=some ((nextsT R t.text).2,(nextsT R t.text).1):=rfl
  unfold nl_RulesSteps.f
  simp only [hM,Option.bind_some]
  refine Evt.bind hE ?_
  simp only [hmod,hw2,h0,h1,hO m (by omega),hO (m+1) (by omega),hX,Option.bind_some]
  refine Evt.pos (by first|trivial|rfl) (Evt.bind (textsE_eq (by simp) rfl) (Evt.pos rfl ?_))
  have hj2:=st_j2 R ls hN t hg hs m hm
  have hc:(resRc (reachS ls m [] [t.text])).1=0∨(resRc (reachS ls m [] [t.text])).1=5:=by
    cases reachS ls m [] [t.text] with
    | none=>exact .inr rfl
    | some x=>exact .inl rfl
  obtain ⟨C,hC⟩:∃ c,c=resRc (reachS ls m [] [t.text]):=⟨_,rfl⟩
  obtain ⟨D,hD⟩:∃ c,c=resRc (reachS ls (m+1) [] [t.text]):=⟨_,rfl⟩
  rw [←hC] at hc hj2 ⊢
  rw [←hD] at hj2 ⊢
  cases hn:nextT ls t with
  | none =>
    have e1:nextsT R t.text=(5,[]):=by unfold nextsT;rw [hN];dsimp only;rw [readT_back hg hs];dsimp only;rw [hn]
    have e2:reachS ls 1 [] [t.text]=none:=by
      rw [reachS,List.nil_append,levelS,nextS_text hg hs,hn]
      rfl
    have e3:resRc (reachS ls 1 [] [t.text])=(5,[]):=by rw [e2];rfl
    rw [e1,e3]
    have hj0:Evt (fun k=>nl_RulesSteps.j0 k (m:Int) R t.text [] 5 C.2 C.1 D.2 D.1 [] (((5:Int) == 0) != ((5:Int) == 0))) true:=by
      refine Evt.step (fun k=>?_) hj2
      rw [nl_RulesSteps.j0,if_neg (by decide),if_neg (by decide)]
    refine Evt.neg (by decide) (Evt.pos rfl ?_)
    rcases hc with hc|hc
    · exact Evt.pos hc hj0
    · exact Evt.neg (by omega) (Evt.pos hc hj0)
  | some r =>
    have hn2:=hn
    rw [nextT_nexA] at hn2
    obtain ⟨rfl,hrs⟩:=chk_some hn2
    have e1:nextsT R t.text=(0,textsT (nexA ls t)):=by unfold nextsT;rw [hN];dsimp only;rw [readT_back hg hs];dsimp only;rw [hn]
    have hnl:=nexA_len ls t
    have hnm:(ls.length:Int) * t.size≤3 * 10:=Int.mul_le_mul (by omega) hz (by have:=Tm.size_pos t;omega) (by omega)
    have htl:=textsT_len (nexA ls t)
    obtain ⟨us,hus⟩:∃ u,u=textsT (nexA ls t):=⟨_,rfl⟩
    have hsrt:us.Pairwise ltS:=by rw [hus];exact textsT_sorted _
    rw [←hus] at e1 htl
    have hul:us.length≤30:=by omega
    have hfr:sortS (freshS [t.text] [] us)=us.filter (fun x=>decide (x≠t.text)):=by
      refine sorted_ext _ _ (sortS_sorted _) (hsrt.filter _) fun x=>?_
      rw [mem_sortS,mem_fresh,List.mem_filter]
      simp
    have hfl:(sortS (freshS [t.text] [] us)).length≤30:=by
      rw [hfr]
      exact Nat.le_trans (List.length_filter_le _ _) hul
    have e2:reachS ls 1 [] [t.text]=some ([t.text]++us.filter (fun x=>decide (x≠t.text))):=by
      rw [reachS,List.nil_append,levelS,nextS_text hg hs,hn,Option.map_some,←hus,Option.bind_some,levelS,Option.bind_some,if_pos (by rw [List.length_append];simp;omega),reachS,hfr]
    have e3:resRc (reachS ls 1 [] [t.text])=(0,[t.text]++us.filter (fun x=>decide (x≠t.text))):=by rw [e2];rfl
    rw [e1,e3]
    have hfl2:([t.text]++us.filter (fun x=>decide (x≠t.text))).length≤31:=by
      rw [List.length_append]
      have:=List.length_filter_le (fun x=>decide (x≠t.text)) us
      simp at this ⊢
      omega
    have hj0:Evt (fun k=>nl_RulesSteps.j0 k (m:Int) R t.text ([t.text]++us.filter (fun x=>decide (x≠t.text))) 0 C.2 C.1 D.2 D.1 us (((0:Int) == 0) != ((0:Int) == 0))) true:=by
      refine Evt.step (g':=fun k=>nl_RulesSteps.l0 k (m:Int) R t.text ([t.text]++us.filter (fun x=>decide (x≠t.text))) C.2 C.1 D.2 D.1 us [t.text] ((0:Nat):Int)) (fun k=>?_) (st_l0 R (m:Int) t.text _ C.2 D.2 us C.1 D.1 (by omega) true us.length 0 [t.text] (by omega) (by simp) ?_)
      · rw [nl_RulesSteps.j0,if_neg (by decide),if_pos rfl]
        rfl
      · rw [List.drop_zero]
        exact Evt.bind (textsE_eq (by omega) rfl) (Evt.pos rfl hj2)
    refine Evt.pos rfl ?_
    rcases hc with hc|hc
    · exact Evt.pos hc hj0
    · exact Evt.neg (by omega) (Evt.pos hc hj0)
end Go.Proofs.YtaafeallcaiooaaGreat.Pr
namespace Go.Proofs.YtaafeallcaiooaaGreat.Pure
open Go.RowKit Go.Proofs.YtaafeallcaiooaaGreat.Pr Go.Proofs.Zw Go.Proofs.Zl
theorem RulesSteps:nl_RulesSteps.Pure:=by
  intro l a b _ _ hl ha _
  have e:∀ x,x∈l→x.size≤9223372036854775807:=fun x hx=>by
    have h:=hl x hx
    unfold maxLen at h
    omega
  exact (steps_all l e a (by omega) b).ex
end Go.Proofs.YtaafeallcaiooaaGreat.Pure
