/- RulesReaches: Reach and Loop answer as the reference says. -/
import Derived.Test.YtaafeallcaiooaaGreatHEl
import Derived.Test.YtaafeallcaiooaaGreatPrD7
import Derived.Test.YtaafeallcaiooaaGreatPrD8
import Derived.Test.YtaafeallcaiooaaGreatHNp
import Derived.Test.YtaafeallcaiooaaGreatPrA2
import Derived.Test.YtaafeallcaiooaaGreatHRu
import Derived.Test.YtaafeallcaiooaaGreatDefRulesReaches
namespace Go.Proofs.YtaafeallcaiooaaGreat.Pr
open Go.RowKit Go.Proofs.Zw Go.Proofs.Zl Go.Proofs.Zm
set_option linter.unusedVariables false
set_option linter.unusedSimpArgs false
def freshR (out:List ByteArray):List ByteArray→List ByteArray→List ByteArray
 | m,[]=>m
 | m,u :: us=>freshR out (if u∈out then m else insD u m) us
def levelR (ls:List (Tm × Tm)) (out:List ByteArray):List ByteArray→List ByteArray→Option (List ByteArray)
 | m,[]=>some m
 | m,s :: ss=>if (nextsR ls s).any bigS=true∨out.length+(freshR out m (nextsR ls s)).length > 300 then none else levelR ls out (freshR out m (nextsR ls s)) ss
def levR (ls:List (Tm × Tm)):Nat→List (List ByteArray)→List ByteArray→Option (List (List ByteArray))
 | 0,pre,last=>some (pre++[last])
 | n+1,pre,last=>(levelR ls (pre.flatten++last) [] last).bind fun m=>levR ls n (pre++[last]) m
theorem mem_freshR (out:List ByteArray) (x:ByteArray):∀ (us m:List ByteArray),x∈freshR out m us↔x∈m∨(x∈us∧x∉out)
 | [],m=>by rw [freshR];simp
 | u :: us,m=>by
  rw [freshR,mem_freshR out x us]
  by_cases h:u∈out
  ·rw [if_pos h]
   constructor
   ·rintro (h1|⟨h1,h2⟩)
    ·exact .inl h1
    ·exact .inr ⟨List.mem_cons_of_mem _ h1,h2⟩
   ·rintro (h1|⟨h1,h2⟩)
    ·exact .inl h1
    ·rcases List.mem_cons.1 h1 with rfl|h1
     ·exact absurd h h2
     ·exact .inr ⟨h1,h2⟩
  ·rw [if_neg h,mem_insD]
   constructor
   ·rintro ((rfl|h1)|⟨h1,h2⟩)
    ·exact .inr ⟨List.mem_cons_self ..,h⟩
    ·exact .inl h1
    ·exact .inr ⟨List.mem_cons_of_mem _ h1,h2⟩
   ·rintro (h1|⟨h1,h2⟩)
    ·exact .inl (.inr h1)
    ·rcases List.mem_cons.1 h1 with rfl|h1
     ·exact .inl (.inl rfl)
     ·exact .inr ⟨h1,h2⟩
theorem freshR_sorted (out:List ByteArray):∀ (us m:List ByteArray),m.Pairwise ltS→(freshR out m us).Pairwise ltS
 | [],m,h=>by rw [freshR];exact h
 | u :: us,m,h=>by
  rw [freshR]
  refine freshR_sorted out us _ ?_
  split
  ·exact h
  ·exact insD_sorted u h
theorem freshR_len (out:List ByteArray):∀ (us m:List ByteArray),(freshR out m us).length≤m.length+us.length
 | [],m=>by rw [freshR];exact Nat.le_refl _
 | u :: us,m=>by
  rw [freshR]
  have h1:=freshR_len out us (if u∈out then m else insD u m)
  have h2:(if u∈out then m else insD u m).length≤m.length+1:=by
   split
   ·omega
   ·exact insD_len u m
  rw [List.length_cons]
  omega
theorem freshR_eq (out:List ByteArray) (us fr:List ByteArray):freshR out (sortS fr) us=sortS (freshS out fr us) :=
 sorted_ext _ _ (freshR_sorted out us _ (sortS_sorted _)) (sortS_sorted _) fun x=>by rw [mem_freshR,mem_sortS,mem_sortS,mem_fresh]
theorem fresh_len (out:List ByteArray):∀ (us fr:List ByteArray),fr.length≤(freshS out fr us).length
 | [],fr=>by rw [freshS];exact Nat.le_refl _
 | u :: us,fr=>by
  rw [freshS]
  refine Nat.le_trans ?_ (fresh_len out us _)
  split
  ·exact Nat.le_refl _
  ·rw [List.length_append];omega
theorem level_len (ls:List (Tm × Tm)) (out:List ByteArray):∀ (ss fr r:List ByteArray),levelS ls out fr ss=some r→fr.length≤r.length
 | [],fr,r,h=>by
  rw [levelS] at h
  injection h with h
  subst h
  exact Nat.le_refl _
 | s :: ss,fr,r,h=>by
  rw [levelS] at h
  cases hn:nextS ls s with
  | none=>rw [hn] at h;cases h
  | some us =>
   rw [hn,Option.bind_some] at h
   exact Nat.le_trans (fresh_len out us fr) (level_len ls out ss _ r h)
theorem next_big {ls:List (Tm × Tm)} (hls:LawsGood ls) {s:ByteArray} (hs:isTx s):((nextsR ls s).any bigS=false∧nextS ls s=some (nextsR ls s))∨((nextsR ls s).any bigS=true∧nextS ls s=none):=by
 obtain ⟨t,h1,h2,h3,rfl⟩:=isTx_read hs
 have e1:nextsR ls t.text=nxS ls t:=by unfold nextsR;rw [h1]
 rw [e1,nextS_text h2 h3]
 rcases next_ref hls h2 h3 with ⟨a,b⟩|⟨a,b⟩
 ·refine .inl ⟨a,?_⟩
  rw [b,nxS_eq]
  rfl
 ·refine .inr ⟨a,?_⟩
  rw [b]
  rfl
theorem levelR_eq {ls:List (Tm × Tm)} (hls:LawsGood ls) (out:List ByteArray):∀ (ss fr:List ByteArray),(∀ s,s∈ss→isTx s)→fr.Nodup→out.length+fr.length≤300→levelR ls out (sortS fr) ss=(levelS ls out fr ss).bind fun r=>if out.length+r.length≤300 then some (sortS r) else none
 | [],fr,hs,hd,hz=>by
  rw [levelR,levelS,Option.bind_some,if_pos hz]
 | s :: ss,fr,hs,hd,hz=>by
  rw [levelR,levelS,freshR_eq]
  rcases next_big hls (hs s (by simp)) with ⟨a,b⟩|⟨a,b⟩
  ·rw [b,Option.bind_some]
   have hd2:=fresh_nodup out (nextsR ls s) fr hd
   rw [sortS_len hd2]
   by_cases h:out.length+(freshS out fr (nextsR ls s)).length > 300
   ·rw [if_pos (.inr h)]
    cases hl:levelS ls out (freshS out fr (nextsR ls s)) ss with
    | none=>rfl
    | some r =>
     have:=level_len ls out ss _ r hl
     rw [Option.bind_some,if_neg (by omega)]
   ·rw [if_neg (by rw [a];simp;omega)]
    exact levelR_eq hls out ss _ (fun s' h'=>hs s' (by simp [h'])) hd2 (by omega)
  ·rw [b,if_pos (.inl a)]
   rfl
theorem reach_levR {ls:List (Tm × Tm)} (hls:LawsGood ls):∀ (n:Nat) (pre:List (List ByteArray)) (last:List ByteArray),(∀ s,s∈last→isTx s)→(pre.flatten++last).length≤300→reachS ls n pre.flatten last=(levR ls n pre last).map List.flatten
 | 0,pre,last,hs,hz=>by
  rw [reachS,levR,Option.map_some]
  simp
 | n+1,pre,last,hs,hz=>by
  have e0:([]:List ByteArray)=sortS []:=rfl
  rw [reachS,levR]
  have h:=levelR_eq hls (pre.flatten++last) last [] hs List.nodup_nil (by simpa using hz)
  rw [show sortS []=([]:List ByteArray) from rfl] at h
  rw [h]
  cases hl:levelS ls (pre.flatten++last) [] last with
  | none=>rfl
  | some fr =>
   rw [Option.bind_some,Option.bind_some,List.length_append (bs:=sortS fr),sortS_len (level_nodup ls _ _ _ _ hl List.nodup_nil)]
   by_cases hz2:(pre.flatten++last).length+fr.length≤300
   ·rw [if_pos hz2,if_pos hz2,Option.bind_some]
    have ih:=reach_levR hls n (pre++[last]) (sortS fr) (fun s h=>?_) ?_
    ·rw [←ih]
     congr 1
     simp
    ·rcases (mem_level ls _ s _ _ _ hl).1 (mem_sortS.1 h) with h|⟨_,s',_,us,h1,h2⟩
     ·cases h
     ·exact nextS_isTx hls h1 s h2
    ·rw [List.length_append,sortS_len (level_nodup ls _ _ _ _ hl List.nodup_nil)]
     simp at hz2 ⊢
     omega
   ·rw [if_neg hz2,if_neg hz2]
    rfl
theorem rdL7_at (xs:List (List ByteArray)) (i:Nat) (h:i < xs.length):rd_L7 xs (i:Int)=xs[i]:=by
 unfold rd_L7
 rw [Int.toNat_natCast,List.getD_eq_getElem?_getD,List.getElem?_eq_getElem h]
 rfl
theorem flat_le {L:List (List ByteArray)} {l:List ByteArray} (h:l∈L):l.length≤L.flatten.length:=(List.sublist_flatten_of_mem h).length_le
section
variable {rs:List S94} {ls:List (Tm × Tm)} (hls:lawsT rs=some ls) (hn:rs.length≤1000)
theorem rc_l3 (steps cnt:Int) (L:List (List ByteArray)) (hL:L.flatten.length≤1000) (hL2:L.length≤1000) (hL0:0 < L.length) (more:List ByteArray) (i:Int) (l:List ByteArray) (j:Nat) (hj:j < l.length) (hm:more.length≤1000000000) (R:List (List ByteArray) × Bool)
  (hT:l[j]∈L.flatten→Evt (fun k=>nr_Reach.l2 k rs steps L cnt ((L.length - 1:Nat):Int) more i l (wrap64 ((j:Int)+1))) R) (hF:l[j]∉L.flatten→Evt (fun k=>nr_Reach.l2 k rs steps L cnt ((L.length - 1:Nat):Int) (insD l[j] more) i l (wrap64 ((j:Int)+1))) R) :
  ∀ (d m:Nat) (b:Bool),m+d=L.length→(b=true↔l[j]∈(L.take m).flatten)→Evt (fun k=>nr_Reach.l3 k rs steps L cnt ((L.length - 1:Nat):Int) more i l (j:Int) b (m:Int)) R
 | 0,m,b,hd,hb=>by
  rw [List.take_of_length_le (by omega)] at hb
  cases b with
  | true =>
   refine Evt.step (fun k=>?_) (hT (hb.1 rfl))
   rw [nr_Reach.l3,if_neg (by omega),if_pos rfl]
  | false =>
   refine Evt.step (g':=fun k=>(nr_insert.f k more l[j]).bind fun t665=>(nr_Reach.l2 k rs steps L cnt ((L.length - 1:Nat):Int) t665 i l (wrap64 ((j:Int)+1)))) (fun k=>?_) (Evt.bind (insertE more l[j] hm) (hF (fun h=>by have:=hb.2 h;cases this)))
   rw [nr_Reach.l3,if_neg (by omega),if_neg (by simp),if_pos (by omega),if_pos (by omega),rdOf_at l j hj]
 | d+1,m,b,hd,hb=>by
  have hm1:m < L.length:=by omega
  have hw:wrap64 ((m:Int)+1)=((m+1:Nat):Int):=(wr (by omega) (by omega)).trans (by omega)
  have htk:(L.take (m+1)).flatten=(L.take m).flatten++L[m]:=by rw [List.take_succ_eq_append_getElem hm1,List.flatten_append];simp
  cases b with
  | true =>
   refine Evt.step (g':=fun k=>nr_Reach.l3 k rs steps L cnt ((L.length - 1:Nat):Int) more i l (j:Int) true ((m+1:Nat):Int)) (fun k=>?_) (rc_l3 steps cnt L hL hL2 hL0 more i l j hj hm R hT hF d (m+1) true (by omega) ?_)
   ·rw [nr_Reach.l3,if_pos (by omega),if_pos rfl,hw]
   ·rw [htk]
    exact ⟨fun _=>List.mem_append_left _ (hb.1 rfl),fun _=>rfl⟩
  | false =>
   have hle:=flat_le (List.getElem_mem hm1)
   refine Evt.step (g':=fun k=>(nr_has.f k L[m] l[j]).bind fun t663=>(nr_Reach.l3 k rs steps L cnt ((L.length - 1:Nat):Int) more i l (j:Int) t663 ((m+1:Nat):Int))) (fun k=>?_) (Evt.bind (hasE L[m] l[j] (by omega)) (rc_l3 steps cnt L hL hL2 hL0 more i l j hj hm R hT hF d (m+1) _ (by omega) ?_))
   ·rw [nr_Reach.l3,if_pos (by omega),if_neg (by simp),if_pos (by omega),if_pos (by omega),if_pos (by omega),if_pos (by omega),rdL7_at L m hm1,rdOf_at l j hj,hw]
   ·rw [htk,hasS_iff,List.mem_append]
    exact ⟨.inr,fun h=>h.resolve_left fun h=>by have:=hb.2 h;cases this⟩
theorem rc_l2 (steps cnt:Int) (L:List (List ByteArray)) (hL:L.flatten.length≤1000) (hL2:L.length≤1000) (hL0:0 < L.length) (i:Int) (l:List ByteArray) (hl:l.length≤1000000) (R:List (List ByteArray) × Bool):∀ (d j:Nat) (more:List ByteArray),j+d=l.length→more.length+d≤1000000000 →
  Evt (fun k=>nr_Reach.l2 k rs steps L cnt ((L.length - 1:Nat):Int) (freshR L.flatten more (l.drop j)) i l (l.length:Int)) R→Evt (fun k=>nr_Reach.l2 k rs steps L cnt ((L.length - 1:Nat):Int) more i l (j:Int)) R
 | 0,j,more,hd,hm,h=>by
  rw [List.drop_of_length_le (by omega),freshR] at h
  rw [show j=l.length by omega]
  exact h
 | d+1,j,more,hd,hm,h=>by
  have hj:j < l.length:=by omega
  have hw:wrap64 ((j:Int)+1)=((j+1:Nat):Int):=(wr (by omega) (by omega)).trans (by omega)
  rw [List.drop_eq_getElem_cons hj,freshR] at h
  refine Evt.step (g':=fun k=>nr_Reach.l3 k rs steps L cnt ((L.length - 1:Nat):Int) more i l (j:Int) false ((0:Nat):Int)) (fun k=>by rw [nr_Reach.l2,if_pos (by omega)];rfl) (rc_l3 steps cnt L hL hL2 hL0 more i l j hj (by omega) R (fun hx=>?_) (fun hx=>?_) L.length 0 false (by omega) (by simp))
  ·rw [if_pos hx] at h
   rw [hw]
   exact rc_l2 steps cnt L hL hL2 hL0 i l hl R d (j+1) more (by omega) (by omega) h
  ·rw [if_neg hx] at h
   rw [hw]
   have:=insD_len l[j] more
   exact rc_l2 steps cnt L hL hL2 hL0 i l hl R d (j+1) _ (by omega) (by omega) h
include hls hn in
theorem nextsR_facts {s:ByteArray} (hs:isTx s):Evt (fun k=>nr_Next.f k rs s) (nextsR ls s)∧(nextsR ls s).length≤60000∧∀ x,x∈nextsR ls s→x.size≤1000000:=by
 obtain ⟨t,h1,h2,h3,rfl⟩:=isTx_read hs
 have hlg:=lawsT_good hls
 have e1:nextsR ls t.text=nxS ls t:=by unfold nextsR;rw [h1]
 rw [e1]
 exact ⟨nextRE rs ls hls hn t h2 h3,Nat.le_trans (nxS_len ls t) (nexA_le ls (by omega) t h3),nxS_small hlg.1 h3⟩
include hls hn in
theorem rc_l1 (steps:Int) (pre:List (List ByteArray)) (last:List ByteArray) (hL:(pre++[last]).flatten.length≤300) (hL2:(pre++[last]).length≤1000) (hll:last.length≤300) (hs:∀ s,s∈last→isTx s) (R:List (List ByteArray) × Bool):∀ (d i:Nat) (more:List ByteArray),i+d=last.length→more.length+60000 * d≤100000000 →
  (match levelR ls (pre++[last]).flatten more (last.drop i) with
   | none=>R=([],false)
   | some m=>Evt (fun k=>nr_Reach.l0 k rs steps (pre++[last]++[m]) (wrap64 (((pre++[last]).flatten.length:Int)+(m.length:Int))) (wrap64 ((pre.length:Int)+1))) R) →
  Evt (fun k=>nr_Reach.l1 k rs steps (pre++[last]) ((pre++[last]).flatten.length:Int) (pre.length:Int) more (i:Int)) R
 | 0,i,more,hd,hm,h=>by
  rw [List.drop_of_length_le (by omega),levelR] at h
  dsimp only at h
  have hrd:rd_L7 (pre++[last]) (pre.length:Int)=last:=by rw [rdL7_at _ _ (by simp)];simp
  have hlen:(pre++[last]).length=pre.length+1:=by simp
  refine Evt.step (fun k=>?_) h
  rw [nr_Reach.l1,if_pos (by omega),if_pos (by omega),hrd,if_neg (by omega),if_pos (by omega)]
 | d+1,i,more,hd,hm,h=>by
  have hi:i < last.length:=by omega
  have hrd:rd_L7 (pre++[last]) (pre.length:Int)=last:=by rw [rdL7_at _ _ (by simp)];simp
  have hlen:(pre++[last]).length=pre.length+1:=by simp
  have hw:wrap64 ((i:Int)+1)=((i+1:Nat):Int):=(wr (by omega) (by omega)).trans (by omega)
  have hpl:((pre.length:Nat):Int)=(((pre++[last]).length - 1:Nat):Int):=by omega
  rw [List.drop_eq_getElem_cons hi,levelR] at h
  have htx:=hs _ (List.getElem_mem hi)
  obtain ⟨hN,hNl,hNz⟩:=nextsR_facts hls hn htx
  have hri:=rdOf_at last i hi
  generalize last[i]=s at *
  refine Evt.step (g':=fun k=>(nr_Next.f k rs s).bind fun t657=>(nr_Reach.l2 k rs steps (pre++[last]) ((pre++[last]).flatten.length:Int) (pre.length:Int) more (i:Int) t657 0)) (fun k=>by rw [nr_Reach.l1,if_pos (by omega),if_pos (by omega),hrd,if_pos (by omega),if_pos (by omega),hri]) ?_
  refine Evt.bind hN ?_
  have hfl:=freshR_len (pre++[last]).flatten (nextsR ls s) more
  generalize nextsR ls s=us at *
  rw [hpl]
  refine rc_l2 (rs:=rs) steps _ (pre++[last]) (by omega) hL2 (by omega) (i:Int) us (by omega) R us.length 0 more (by omega) (by omega) ?_
  rw [List.drop_zero]
  refine Evt.step (g':=fun k=>(nr_Large.f k us).bind fun t660=>(if t660=true then (some (([]:List (List ByteArray)),false)) else (if (wrap64 (((pre++[last]).flatten.length:Int)+((freshR (pre++[last]).flatten more us).length:Int))) > 300 then (some (([]:List (List ByteArray)),false)) else (nr_Reach.l1 k rs steps (pre++[last]) ((pre++[last]).flatten.length:Int) (((pre++[last]).length - 1:Nat):Int) (freshR (pre++[last]).flatten more us) ((i+1:Nat):Int))))) (fun k=>by rw [nr_Reach.l2,if_neg (by omega),hw]) ?_
  refine Evt.bind (largeRE us (by omega) hNz) ?_
  rw [←hpl]
  generalize freshR (pre++[last]).flatten more us=m2 at *
  have hw2:wrap64 (((pre++[last]).flatten.length:Int)+(m2.length:Int))=(((pre++[last]).flatten.length+m2.length:Nat):Int):=(wr (by omega) (by omega)).trans (by omega)
  rw [hw2]
  clear hw2 hw
  cases hb:us.any bigS with
  | true =>
   rw [if_pos (.inl hb)] at h
   dsimp only at h
   subst h
   exact Evt.pos rfl (Evt.all fun _=>rfl)
  | false =>
   refine Evt.neg (by simp) ?_
   by_cases hz:(pre++[last]).flatten.length+m2.length > 300
   ·rw [if_pos (.inr hz)] at h
    dsimp only at h
    subst h
    exact Evt.pos (by omega) (Evt.all fun _=>rfl)
   ·rw [if_neg (by rw [hb];simp only [Bool.false_eq_true,false_or];exact hz)] at h
    exact Evt.neg (by omega) (rc_l1 steps pre last hL hL2 hll hs R d (i+1) m2 (by omega) (by omega) h)
include hls hn in
theorem reach_l0 (steps:Nat) (hst:steps≤100):∀ (n:Nat) (pre:List (List ByteArray)) (last:List ByteArray),pre.length+n=steps→(pre++[last]).flatten.length≤300→(∀ s,s∈last→isTx s) →
  Evt (fun k=>nr_Reach.l0 k rs (steps:Int) (pre++[last]) ((pre++[last]).flatten.length:Int) (pre.length:Int)) (match levR ls n pre last with|none=>([],false)|some L=>(L,true))
 | 0,pre,last,hd,hz,hs=>by
  rw [levR]
  refine Evt.now fun k=>?_
  rw [nr_Reach.l0,if_neg (by omega)]
 | n+1,pre,last,hd,hz,hs=>by
  have hlg:=(lawsT_good hls).1
  rw [levR]
  have hfe:(pre++[last]).flatten=pre.flatten++last:=by simp
  have hlast:last.length≤300:=by rw [hfe,List.length_append] at hz;omega
  refine Evt.step (g':=fun k=>nr_Reach.l1 k rs (steps:Int) (pre++[last]) ((pre++[last]).flatten.length:Int) (pre.length:Int) [] ((0:Nat):Int)) (fun k=>by rw [nr_Reach.l0,if_pos (by omega)];rfl) ?_
  refine rc_l1 hls hn steps pre last hz (by simp;omega) hlast hs _ last.length 0 [] (by omega) (by rw [List.length_nil];omega) ?_
  rw [List.drop_zero,hfe]
  have hlv:=levelR_eq hlg (pre.flatten++last) last [] hs List.nodup_nil (by rw [←hfe];simpa using hz)
  rw [show sortS []=([]:List ByteArray) from rfl] at hlv
  cases hl:levelR ls (pre.flatten++last) [] last with
  | none=>rfl
  | some m =>
   rw [Option.bind_some]
   dsimp only
   rw [hl] at hlv
   cases hlS:levelS ls (pre.flatten++last) [] last with
   | none=>rw [hlS] at hlv;cases hlv
   | some r =>
    rw [hlS,Option.bind_some] at hlv
    split at hlv
    ·rename_i hz2
     injection hlv with hlv
     subst hlv
     have hnd:=level_nodup ls _ _ _ _ hlS List.nodup_nil
     have hml:=sortS_len hnd
     have hz3:(pre++[last]++[sortS r]).flatten.length≤300:=by
      rw [List.flatten_append,hfe,List.length_append]
      simp only [List.flatten_cons,List.flatten_nil,List.append_nil]
      omega
     have hw1:wrap64 (((pre.flatten++last).length:Int)+((sortS r).length:Int))=((pre++[last]++[sortS r]).flatten.length:Int):=by
      rw [wr (by omega) (by omega),List.flatten_append,hfe]
      simp only [List.flatten_cons,List.flatten_nil,List.append_nil,List.length_append]
      omega
     have hw2:wrap64 ((pre.length:Int)+1)=((pre++[last]).length:Int):=by
      rw [wr (by omega) (by omega)]
      simp
     rw [hw1,hw2]
     refine reach_l0 steps hst n (pre++[last]) (sortS r) (by simp;omega) hz3 (fun s h=>?_)
     rcases (mem_level ls _ s _ _ _ hlS).1 (mem_sortS.1 h) with h|⟨_,s',_,us,h1,h2⟩
     ·cases h
     ·exact nextS_isTx hlg h1 s h2
    ·cases hlv
include hls hn in
theorem reachRE (steps:Nat) (hst:steps≤100) (t:Tm) (hg:t.good) (hs:t.size≤60):Evt (fun k=>nr_Reach.f k rs t.text (steps:Int)) (match levR ls steps [] [t.text] with|none=>([],false)|some L=>(L,true)):=reach_l0 hls hn steps hst steps [] [t.text] (by simp) (by simp) (fun s h=>by
 obtain rfl:=List.mem_singleton.1 h
 exact ⟨t,hg,hs,rfl⟩)
end
section
variable {rs:List S94} {ls:List (Tm × Tm)} (hls:lawsT rs=some ls) (hn:rs.length≤1000) {T:Tm} (hT:T.good) (sT:T.size≤60)
include hT sT in
theorem returnsS {u:ByteArray} (hu:isTx u):Evt (fun k=>nr_Returns.f k T.text u) (comesS T u):=by
  obtain ⟨v,h1,h2,h3,rfl⟩:=isTx_read hu
  rw [comesS_text h2 h3]
  exact returnsRE T v hT sT h2 h3
include hT sT in
theorem sh_l2 (steps x8 i:Int) (now l:List ByteArray) (hl:∀ u,u∈l→isTx u) (hll:l.length≤1000000) (R:Int):∀ (d j:Nat) (acc:List ByteArray),j+d=l.length→acc.length+d≤1000000000 →
    ((l.drop j).any (comesS T)=true→R=x8)→((l.drop j).any (comesS T)=false→Evt (fun k=>nr_Shortest.l1 k rs T.text steps now x8 (addAll acc (l.drop j)) (wrap64 (i+1))) R) →
    Evt (fun k=>nr_Shortest.l2 k rs T.text steps now x8 acc i l (j:Int)) R
  | 0,j,acc,hd,hz,h1,h2=>by
    rw [List.drop_of_length_le (by omega)] at h2
    refine Evt.step (fun k=>?_) (h2 rfl)
    rw [nr_Shortest.l2,if_neg (by omega)]
    rfl
  | d+1,j,acc,hd,hz,h1,h2=>by
    have hj:j < l.length:=by omega
    have hw:wrap64 ((j:Int)+1)=((j+1:Nat):Int):=(wr (by omega) (by omega)).trans (by omega)
    rw [List.drop_eq_getElem_cons hj,List.any_cons] at h1 h2
    have htx:=hl _ (List.getElem_mem hj)
    refine Evt.step (g':=fun k=>(nr_insert.f k acc l[j]).bind fun t676=>((nr_Returns.f k T.text l[j]).bind fun t680=>(if t680=true then (some x8) else (nr_Shortest.l2 k rs T.text steps now x8 t676 i l ((j+1:Nat):Int))))) (fun k=>by rw [nr_Shortest.l2,if_pos (by omega),if_pos (by omega),rdOf_at l j hj,hw]) ?_
    refine Evt.bind (insertE acc l[j] (by omega)) (Evt.bind (returnsS hT sT htx) ?_)
    have hil:=insD_len l[j] acc
    cases hc:comesS T l[j] with
    | true =>
      rw [hc] at h1
      rw [h1 rfl]
      exact Evt.pos rfl (Evt.all fun _=>rfl)
    | false =>
      rw [hc] at h1 h2
      refine Evt.neg (by simp) (sh_l2 steps x8 i now l hl hll R d (j+1) _ (by omega) (by omega) (fun h=>h1 (by rw [h];rfl)) (fun h=>?_))
      exact h2 (by rw [h];rfl)
include hls hn hT sT in
theorem sh_l1 (steps x8:Int) (now:List ByteArray) (hnow:∀ s,s∈now→isTx s∧∀ u,u∈nextsR ls s→isTx u) (hnl:now.length≤1000) (R:Int):∀ (d i:Nat) (acc:List ByteArray),i+d=now.length→acc.length+60000 * d≤100000000 →
    ((now.drop i).any (fun s=>(nextsR ls s).any (comesS T))=true→R=x8)→((now.drop i).any (fun s=>(nextsR ls s).any (comesS T))=false→Evt (fun k=>nr_Shortest.l0 k rs T.text steps ((now.drop i).foldl (fun a s=>addAll a (nextsR ls s)) acc) (wrap64 (x8+1))) R) →
    Evt (fun k=>nr_Shortest.l1 k rs T.text steps now x8 acc (i:Int)) R
  | 0,i,acc,hd,hz,h1,h2=>by
    rw [List.drop_of_length_le (by omega)] at h2
    refine Evt.step (fun k=>?_) (h2 rfl)
    rw [nr_Shortest.l1,if_neg (by omega)]
    rfl
  | d+1,i,acc,hd,hz,h1,h2=>by
    have hi:i < now.length:=by omega
    have hw:wrap64 ((i:Int)+1)=((i+1:Nat):Int):=(wr (by omega) (by omega)).trans (by omega)
    rw [List.drop_eq_getElem_cons hi,List.any_cons] at h1 h2
    obtain ⟨htx,hux⟩:=hnow _ (List.getElem_mem hi)
    obtain ⟨hN,hNl,_⟩:=nextsR_facts hls hn htx
    have hri:=rdOf_at now i hi
    generalize now[i]=s at *
    refine Evt.step (g':=fun k=>(nr_Next.f k rs s).bind fun t672=>(nr_Shortest.l2 k rs T.text steps now x8 acc (i:Int) t672 0)) (fun k=>by rw [nr_Shortest.l1,if_pos (by omega),if_pos (by omega),hri]) ?_
    refine Evt.bind hN ?_
    have hal:=addAll_len (nextsR ls s) acc
    refine sh_l2 (rs:=rs) hT sT steps x8 (i:Int) now (nextsR ls s) hux (by omega) R (nextsR ls s).length 0 acc (by omega) (by omega) (fun h=>?_) (fun h=>?_)
    · rw [List.drop_zero] at h
      exact h1 (by rw [h];rfl)
    · rw [List.drop_zero] at h ⊢
      rw [hw]
      refine sh_l1 steps x8 now hnow hnl R d (i+1) _ (by omega) (by omega) (fun h'=>h1 (by rw [h'];simp)) (fun h'=>?_)
      have:=h2 (by rw [h,h'];rfl)
      rw [List.foldl_cons] at this
      exact this
include hls hn hT sT in
theorem sh_l0 (steps:Nat) (hst:steps≤100):∀ (n k:Nat) (now done last RX:List ByteArray),k+n=steps+1→Closed ls done (done++last)→(∀ x,x∈now→x∈done++last)→(∀ x,x∈done++last→isTx x)→now.Pairwise ltS→(done++last).length≤300→reachS ls n done last=some RX →
    Evt (fun q=>nr_Shortest.l0 q rs T.text (steps:Int) now (k:Int)) ((shortS ls T n k now:Nat):Int)
  | 0,k,now,done,last,RX,hk,hc,hnw,htx,hs,hz,hR=>by
    rw [shortS]
    refine Evt.now fun q=>?_
    rw [nr_Shortest.l0,if_neg (by omega)]
    rfl
  | n+1,k,now,done,last,RX,hk,hc,hnw,htx,hs,hz,hR=>by
    have hlg:=(lawsT_good hls).1
    obtain ⟨fr,h1,h2,h3⟩:=reach_step hR
    have hc2:=closed_step hc h1
    have hnl:=nodup_le _ _ (sorted_nodup hs) hnw
    have hw:wrap64 ((k:Int)+1)=((k+1:Nat):Int):=(wr (by omega) (by omega)).trans (by omega)
    have hnx:∀ s,s∈now→isTx s∧∀ u,u∈nextsR ls s→isTx u∧u∈done++last++sortS fr:=fun s hs'=>by
      obtain ⟨us,e1,e2⟩:=hc2 s (hnw s hs')
      rw [nextsR_some hlg e1]
      exact ⟨htx s (hnw s hs'),fun u hu=>⟨nextS_isTx hlg e1 u hu,e2 u hu⟩⟩
    refine Evt.step (g':=fun q=>nr_Shortest.l1 q rs T.text (steps:Int) now (k:Int) [] ((0:Nat):Int)) (fun q=>by rw [nr_Shortest.l0,if_pos (by omega)];rfl) ?_
    rw [shortS]
    refine sh_l1 hls hn hT sT steps (k:Int) now (fun s hs'=>⟨(hnx s hs').1,fun u hu=>((hnx s hs').2 u hu).1⟩) (by omega) _ now.length 0 [] (by omega) (by rw [List.length_nil];omega) (fun h=>?_) (fun h=>?_)
    · rw [List.drop_zero] at h
      have h':hitS ls T now=true:=h
      rw [if_pos h']
    · rw [List.drop_zero] at h ⊢
      rw [if_neg (by unfold hitS;rw [h];simp),hw]
      refine sh_l0 steps hst n (k+1) (stepS ls now) (done++last) (sortS fr) RX (by omega) hc2 (fun x hx=>?_) (fun x hx=>?_) (stepS_sorted ls now) h2 h3
      · obtain ⟨s,hs',hx⟩:=mem_stepS.1 hx
        exact ((hnx s hs').2 x hx).2
      · rcases List.mem_append.1 hx with hx|hx
        · exact htx x hx
        · rcases (mem_level ls _ x _ _ _ h1).1 (mem_sortS.1 hx) with h|⟨_,s',_,us,e1,e2⟩
          · cases h
          · exact nextS_isTx hlg e1 x e2
include hls hn hT sT in
theorem shortestRE (steps:Nat) (hst:steps≤100) (RX:List ByteArray) (hR:reachS ls steps [] [T.text]=some RX):Evt (fun q=>nr_Shortest.f q rs T.text (steps:Int)) ((shortS ls T steps 1 [T.text]:Nat):Int) :=
  sh_l0 hls hn hT sT steps hst steps 1 [T.text] [] [T.text] RX (by omega) (fun s h=>by cases h) (fun x h=>h) (fun x h=>by
    obtain rfl:=List.mem_singleton.1 h
    exact ⟨T,hT,sT,rfl⟩) (List.pairwise_singleton _ _) (by simp) hR
end
theorem readsT_map:∀ ts:List Tm,(∀ x,x∈ts→x.good∧x.size≤60)→readsT (ts.map Tm.text)=some ts
  | [],_=>rfl
  | t :: ts,h=>by
    have ht:=h t (by simp)
    rw [List.map_cons,readsT,readT_back ht.1 ht.2,Option.bind_some,readsT_map ts (fun x hx=>h x (by simp [hx]))]
    rfl
theorem textsL (a b:List ByteArray) (hl:a.length=b.length) (hz:a.length≤1000000000):∀ (n i:Nat),i+n=a.length→Evt (fun k=>nl_texts.l0 k a b (i:Int)) (decide (a.drop i=b.drop i))
  | 0,i,hi=>by
    rw [List.drop_of_length_le (by omega),List.drop_of_length_le (by omega)]
    refine Evt.now fun k=>?_
    rw [nl_texts.l0,if_neg (by omega)]
    rfl
  | n+1,i,hi=>by
    have h1:i < a.length:=by omega
    have h2:i < b.length:=by omega
    have hw:wrap64 ((i:Int)+1)=((i+1:Nat):Int):=(wr (by omega) (by omega)).trans (by omega)
    rw [List.drop_eq_getElem_cons h1,List.drop_eq_getElem_cons h2]
    by_cases he:a[i]=b[i]
    · refine Evt.step (g':=fun k=>nl_texts.l0 k a b ((i+1:Nat):Int)) (fun k=>?_) ((textsL a b hl hz n (i+1) (by omega)).val ?_)
      · rw [nl_texts.l0,if_pos (by omega),if_pos (by omega),if_pos (by omega),rdOf_at a i h1,rdOf_at b i h2,if_pos (by rw [he]),hw]
      · rw [he]
        by_cases hd:a.drop (i+1)=b.drop (i+1)
        · rw [decide_eq_true hd,hd,decide_eq_true rfl]
        · rw [decide_eq_false hd,decide_eq_false (fun e=>hd (by injection e))]
    · refine Evt.now fun k=>?_
      rw [nl_texts.l0,if_pos (by omega),if_pos (by omega),if_pos (by omega),rdOf_at a i h1,rdOf_at b i h2,if_neg (fun e=>he (toList_inj.1 e))]
      rw [decide_eq_false (fun e=>he (by injection e))]
theorem textsE (a b:List ByteArray) (hz:a.length≤1000000000):Evt (fun k=>nl_texts.f k a b) (decide (a=b)):=by
  unfold nl_texts.f
  by_cases hl:a.length=b.length
  · refine Evt.pos (by omega) ?_
    have h:=textsL a b hl hz a.length 0 (by omega)
    rw [List.drop_zero,List.drop_zero] at h
    exact h
  · refine Evt.neg (by omega) (Evt.all fun _=>?_)
    rw [decide_eq_false (fun e=>hl (by rw [e]))]
theorem textsE_eq {a b:List ByteArray} (hz:a.length≤1000000000) (h:a=b):Evt (fun k=>nl_texts.f k a b) true:=(textsE a b hz).val (decide_eq_true h)
theorem newLaws_lr {rs:List S94} {ls:List (Tm × Tm)} (h:newLawsT rs=some ls):lawsT rs=some ls:=by
 unfold newLawsT at h
 split at h
 ·exact h
 ·cases h
theorem getLast_snoc (ts:List Tm) (v d:Tm):(ts++[v]).getLastD d=v:=by simp
theorem rch_l1 (rs:List S94) (ls:List (Tm × Tm)) (hls:lawsT rs=some ls) (hn:rs.length≤1000) (T:Tm) (ts:List Tm) (hg:∀ x,x∈ts→x.good∧x.size≤60) (hl:ts.length≤1000) (hc:chainT ls ts=true) (hf:finL ts=true) (hh:ts.head?=some T) (m:Nat) (hm:ts.length=m+1):∀ (d i:Nat),i+d=ts.length→Evt (fun k=>nl_RulesReaches.l1 k rs T.text (ts.map Tm.text) 0 (m:Int) (i:Int)) true
 | 0,i,hd=>by
  have hlm:(ts.map Tm.text).length=ts.length:=List.length_map ..
  have hL:=loopRE rs ls hls hn (ts.map Tm.text) ts (readsT_map ts hg) (by omega)
  rw [hc,hf] at hL
  have hw:wrap64 ((m:Int)+1)=((m+1:Nat):Int):=(wr (by omega) (by omega)).trans (by omega)
  have h0:rdOf ByteArray.empty (ts.map Tm.text) 0=T.text:=by
   rw [show (0:Int)=((0:Nat):Int) from rfl,rdOf_at _ 0 (by omega)]
   cases ts with
   | nil=>cases hh
   | cons a r =>
    injection hh with hh
    subst hh
    rfl
  refine Evt.step (g':=fun k=>(nr_Loop.f k rs (ts.map Tm.text)).bind fun t713=>(if t713=true then (if (0:Int)=0 then ((nl_awake.f k).bind fun t714=>(some t714)) else (some false)) else (some false))) (fun k=>?_) (Evt.bind hL (Evt.pos rfl (Evt.pos rfl awakeF)))
  rw [nl_RulesReaches.l1,if_neg (by omega),hw,if_pos (by omega),if_pos (by omega),h0,if_pos rfl]
 | d+1,i,hd=>by
  have hlm:(ts.map Tm.text).length=ts.length:=List.length_map ..
  have hi:i < ts.length:=by omega
  have hw:wrap64 ((i:Int)+1)=((i+1:Nat):Int):=(wr (by omega) (by omega)).trans (by omega)
  have hgi:=hg _ (List.getElem_mem hi)
  have hz:=text_le (t:=ts[i]) (by omega)
  have hT:=termRE ts[i].text (by omega)
  rw [readT_back hgi.1 hgi.2] at hT
  refine Evt.step (g':=fun k=>(nr_Term.f k ts[i].text).bind fun t711=>(if t711=true then (nl_RulesReaches.l1 k rs T.text (ts.map Tm.text) 0 (m:Int) ((i+1:Nat):Int)) else (some false))) (fun k=>?_) (Evt.bind hT (Evt.pos rfl (rch_l1 rs ls hls hn T ts hg hl hc hf hh m hm d (i+1) (by omega))))
  rw [nl_RulesReaches.l1,if_pos (by omega),if_pos (by omega),rdOf_at _ i (by omega),List.getElem_map,hw]
theorem rch_j2 (rs:List S94) (ls:List (Tm × Tm)) (hls:lawsT rs=some ls) (hn:rs.length≤1000) (T:Tm) (hg:T.good) (hs:T.size≤60) (n:Nat) (hn5:n≤5) (R:List ByteArray) (hR:reachS ls n [] [T.text]=some R):Evt (fun k=>nl_RulesReaches.j2 k (n:Int) rs T.text (loopW ls T n [T.text] [[T.text]]).2 (loopW ls T n [T.text] [[T.text]]).1 false) true:=by
 have hlg:=(lawsT_good hls).1
 have hS:=shortestRE hls hn hg hs n (by omega) R hR
 obtain ⟨c,hc⟩:∃ c,c=loopW ls T n [T.text] [[T.text]]:=⟨_,rfl⟩
 rw [←hc]
 refine Evt.step (g':=fun k=>(nr_Shortest.f k rs T.text (n:Int)).bind fun t708=>(if t708=0 then (if (c.2.length:Int)=0 then (if c.1=6 then ((nl_awake.f k).bind fun t709=>(some t709)) else (some false)) else (some false)) else (nl_RulesReaches.l1 k rs T.text c.2 c.1 t708 0))) (fun k=>by rw [nl_RulesReaches.j2,if_neg (by simp)]) ?_
 refine Evt.bind hS ?_
 rcases loop_sim hlg n 1 [T.text] [[T.text]] [T.text] [] [T.text] R (Nat.le_refl _) (loopInv_start hg hs) hR with ⟨h1,h2⟩|⟨m,w,us,u,h1,h2,h3,h4,h5,h6,h7,h8⟩
 ·rw [h1] at hc
  rw [hc,h2]
  exact Evt.pos rfl (Evt.pos rfl (Evt.pos rfl awakeF))
 ·rw [h7] at hc
  rw [hc,h8]
  obtain ⟨ts,v,e1,e2,e3,e4,e5,e6,e7,e8⟩:=way_snoc hlg h1 h2 h4 h5
  have hgv:=e6 v (by simp)
  have hcv:comesT T v=true:=by rw [←comesS_text hgv.1 hgv.2,←e7];exact h6
  have hhd:(ts++[v]).head?=some T:=by rw [List.head?_append,e4];rfl
  have hfin:finL (ts++[v])=true:=by
   unfold finL
   rw [getLast_snoc]
   have hd:(ts++[v]).headD (.var 0)=T:=by rw [List.headD_eq_head?_getD,hhd];rfl
   rw [hd,hcv,decide_eq_true (by rw [List.length_append,e3,List.length_singleton];omega)]
   rfl
  refine Evt.neg (by omega) ?_
  dsimp only
  rw [e1]
  exact rch_l1 rs ls hls hn T (ts++[v]) e6 (by rw [List.length_append,e3,List.length_singleton];omega) e5 hfin hhd m (by rw [List.length_append,e3,List.length_singleton]) (ts++[v]).length 0 (by omega)
theorem rch_l0 (rs:List S94) (s x11:List ByteArray) (t:ByteArray) (x10 x12 a2:Int) (L:List (List ByteArray)) (hL:L.length≤1000) (hz:L.flatten.length≤1000) (b:Bool):∀ (d i:Nat) (acc:List ByteArray),i+d=L.length→acc=(L.take i).flatten →
  Evt (fun k=>(nl_texts.f k s L.flatten).bind fun t707=>(if t707=true then (nl_RulesReaches.j2 k a2 rs t x11 x12 (x10 != 0)) else (nl_RulesReaches.j2 k a2 rs t x11 x12 true))) b →
  Evt (fun k=>nl_RulesReaches.l0 k a2 rs t s x10 x11 x12 L acc (i:Int)) b
 | 0,i,acc,hd,ha,h=>by
  rw [List.take_of_length_le (by omega)] at ha
  subst ha
  refine Evt.step (fun k=>?_) h
  rw [nl_RulesReaches.l0,if_neg (by omega)]
 | d+1,i,acc,hd,ha,h=>by
  have hi:i < L.length:=by omega
  have hw:wrap64 ((i:Int)+1)=((i+1:Nat):Int):=(wr (by omega) (by omega)).trans (by omega)
  have h1:(L.take (i+1)).flatten=acc++L[i]:=by rw [List.take_succ_eq_append_getElem hi,List.flatten_append,←ha];simp
  have h2:(L.take (i+1)).flatten.length≤L.flatten.length:=by
   conv=>rhs;rw [←List.take_append_drop (i+1) L,List.flatten_append,List.length_append]
   omega
  rw [h1,List.length_append] at h2
  refine Evt.step (g':=fun k=>nl_RulesReaches.l0 k a2 rs t s x10 x11 x12 L (acc++L[i]) ((i+1:Nat):Int)) (fun k=>?_) (rch_l0 rs s x11 t x10 x12 a2 L hL hz b d (i+1) _ (by omega) h1.symm h)
  rw [nl_RulesReaches.l0,if_pos (by omega),if_pos (by omega),rdL7_at L i hi,if_pos (by omega),hw]
theorem reaches_all (l0:List S94) (a1:ByteArray) (a2:Int):Evt (fun k=>nl_RulesReaches.f k l0 a1 a2) true:=by
 obtain ⟨rs,hrs,hE⟩:=lawsE l0
 obtain ⟨s,hp,hps⟩:=short_ev a1
 have hrl:=hrs.1
 have hR:=rulesRE rs (by omega) (fun y hy=>by have:=hrs.2 y hy;omega)
 have hO:rules_Reach.f rs s a2=some ((reachT rs s a2).2,(reachT rs s a2).1):=rfl
 have hV:rules_Loop.f rs s a2=some ((lpT rs s a2).2,(lpT rs s a2).1):=rfl
 unfold nl_RulesReaches.f
 refine Evt.bind hE ?_
 simp only [hp,hO,hV,Option.bind_some]
 refine Evt.bind hR ?_
 cases hN:newLawsT rs with
 | none =>
  have eo:reachT rs s a2=(2,[]):=by unfold reachT;rw [hN]
  have ev:lpT rs s a2=(2,[]):=by unfold lpT;rw [hN]
  rw [eo,ev]
  exact Evt.neg (by simp) (Evt.pos rfl (Evt.pos rfl (Evt.pos rfl (Evt.pos rfl awakeF))))
 | some ls =>
  have hlg:=newLawsT_good hN
  refine Evt.pos rfl (Evt.bind (termRE s (by omega)) ?_)
  cases hT:readT s with
  | none =>
   have eo:reachT rs s a2=(4,[]):=by unfold reachT;rw [hN];dsimp only;rw [hT]
   have ev:lpT rs s a2=(4,[]):=by unfold lpT;rw [hN];dsimp only;rw [hT]
   rw [eo,ev]
   exact Evt.neg (by simp) (Evt.pos rfl (Evt.pos rfl (Evt.pos rfl (Evt.pos rfl awakeF))))
  | some t =>
   have hgt:=readT_good hT
   obtain rfl:=readT_text hT
   refine Evt.pos rfl ?_
   by_cases hm:0≤a2∧a2≤5
   ·obtain ⟨m,rfl⟩:∃ m:Nat,a2=(m:Int):=⟨a2.toNat,by omega⟩
    have hm5:m≤5:=by omega
    have hRr:=reachRE (newLaws_lr hN) (by omega) m (by omega) t hgt.1 hgt.2
    have hrl:=reach_levR hlg.1 m [] [t.text] (fun x h=>by
     obtain rfl:=List.mem_singleton.1 h
     exact ⟨t,hgt.1,hgt.2,rfl⟩) (by simp)
    rw [List.flatten_nil] at hrl
    have eo:reachT rs t.text (m:Int)=resRc (reachS ls m [] [t.text]):=by unfold reachT;rw [hN];dsimp only;rw [hT];dsimp only;rw [if_pos hm,Int.toNat_natCast]
    have ev:lpT rs t.text (m:Int)=if (reachS ls m [] [t.text]).isSome then loopW ls t m [t.text] [[t.text]] else (5,[]):=by unfold lpT;rw [hN];dsimp only;rw [hT];dsimp only;rw [if_pos hm,Int.toNat_natCast]
    refine Evt.neg (by omega) (Evt.step (g':=fun k=>(nr_Reach.f k rs t.text (m:Int)).bind fun bt698=>(if bt698.2=true then (nl_RulesReaches.l0 k (m:Int) rs t.text (reachT rs t.text m).2 (reachT rs t.text m).1 (lpT rs t.text m).2 (lpT rs t.text m).1 bt698.1 ([]:List ByteArray) 0) else (if ((reachT rs t.text m).2.length:Int)=0 then (if (reachT rs t.text m).1=5 then (if ((lpT rs t.text m).2.length:Int)=0 then (if (lpT rs t.text m).1=5 then ((nl_awake.f k).bind fun t702=>(some t702)) else (some false)) else (some false)) else (some false)) else (some false)))) (fun k=>by rw [nl_RulesReaches.j0,decide_eq_false (by omega),if_neg (by simp)]) ?_)
    refine Evt.bind hRr ?_
    cases hlv:levR ls m [] [t.text] with
    | none =>
     rw [hlv] at hrl
     have hrl2:reachS ls m [] [t.text]=none:=hrl
     rw [hrl2] at eo ev
     have ev2:lpT rs t.text (m:Int)=(5,[]):=ev.trans (if_neg (by simp))
     rw [eo,ev2]
     exact Evt.neg (by simp) (Evt.pos rfl (Evt.pos rfl (Evt.pos rfl (Evt.pos rfl awakeF))))
    | some L =>
     rw [hlv] at hrl
     have hrl2:reachS ls m [] [t.text]=some L.flatten:=hrl
     rw [hrl2] at eo ev
     have ev2:lpT rs t.text (m:Int)=loopW ls t m [t.text] [[t.text]]:=ev.trans (if_pos rfl)
     have hzL:=reach_len m [] [t.text] _ (by simp) hrl2
     have hLl:L.length≤1000:=by
      have:∀ (n:Nat) (pre:List (List ByteArray)) (last:List ByteArray) (L:List (List ByteArray)),levR ls n pre last=some L→L.length=pre.length+1+n:=by
       intro n
       induction n with
       | zero=>intro pre last L h;rw [levR] at h;injection h with h;subst h;simp
       | succ n ih =>
        intro pre last L h
        rw [levR] at h
        cases hx:levelR ls (pre.flatten++last) [] last with
        | none=>rw [hx] at h;cases h
        | some y =>
         rw [hx,Option.bind_some] at h
         have:=ih _ _ _ h
         rw [List.length_append,List.length_singleton] at this
         omega
      have:=this m [] [t.text] L hlv
      simp at this
      omega
     rw [eo,ev2]
     refine Evt.pos rfl (rch_l0 rs _ _ t.text _ _ (m:Int) L hLl (by omega) true L.length 0 [] (by omega) (by simp) ?_)
     refine Evt.bind (textsE_eq (by show L.flatten.length≤_;omega) rfl) (Evt.pos rfl ?_)
     exact rch_j2 rs ls (newLaws_lr hN) (by omega) t hgt.1 hgt.2 m hm5 L.flatten hrl2
   ·have eo:reachT rs t.text a2=(2,[]):=by unfold reachT;rw [hN];dsimp only;rw [hT];dsimp only;rw [if_neg hm]
    have ev:lpT rs t.text a2=(2,[]):=by unfold lpT;rw [hN];dsimp only;rw [hT];dsimp only;rw [if_neg hm]
    rw [eo,ev]
    have hj:Evt (fun k=>nl_RulesReaches.j0 k a2 rs t.text [] 2 [] 2 true) true:=Evt.step (fun k=>by rw [nl_RulesReaches.j0,if_pos rfl];exact if_pos rfl) awakeF
    by_cases h0:a2 < 0
    ·exact Evt.pos h0 hj
    ·have h5:decide (a2 > 5)=true:=decide_eq_true (by omega)
     rw [h5]
     exact Evt.neg h0 hj
end Go.Proofs.YtaafeallcaiooaaGreat.Pr
namespace Go.Proofs.YtaafeallcaiooaaGreat.Pure
open Go.RowKit Go.Proofs.YtaafeallcaiooaaGreat.Pr Go.Proofs.Zw Go.Proofs.Zl
theorem RulesReaches:nl_RulesReaches.Pure:=by
 intro l a b _ _ _ _ _
 exact (reaches_all l a b).ex
end Go.Proofs.YtaafeallcaiooaaGreat.Pure
