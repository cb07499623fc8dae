/- reach: the walk. -/
import Derived.Test.YtaafeallcaiooaaGreatHEm
import Derived.Test.YtaafeallcaiooaaGreatPr0
import Derived.Test.YtaafeallcaiooaaGreatPrA2
import Derived.Test.YtaafeallcaiooaaGreatHRu
import Derived.Test.YtaafeallcaiooaaGreatHLe
import Derived.Test.YtaafeallcaiooaaGreatHLp
import Derived.Test.YtaafeallcaiooaaGreatHNe
import Derived.Test.YtaafeallcaiooaaGreatHCa
import Derived.Test.YtaafeallcaiooaaGreatHSq
namespace Go.Proofs.YtaafeallcaiooaaGreat.Pr
open Go.RowKit Go.Maps Go.Proofs.Zw Go.Proofs.Zl Go.Proofs.Zm
set_option linter.unusedVariables false
set_option linter.unusedSimpArgs false
attribute [local go_sem] max2_int min2_int max_two min_two max_three min_three max_four min_four
set_option linter.unusedVariables false
set_option linter.unusedSimpArgs false
end Go.Proofs.YtaafeallcaiooaaGreat.Pr
namespace Go.Proofs.YtaafeallcaiooaaGreat.Pr
open Go.RowKit Go.Proofs.Zw Go.Proofs.Zl Go.Proofs.Zm
attribute [local go_sem] max2_int min2_int max_two min_two max_three min_three max_four min_four
set_option linter.unusedVariables false
set_option linter.unusedSimpArgs false
end Go.Proofs.YtaafeallcaiooaaGreat.Pr
namespace Go.Proofs.YtaafeallcaiooaaGreat.Pr
open Go.RowKit Go.Proofs.Zw Go.Proofs.Zl Go.Proofs.Zm
set_option linter.unusedVariables false
set_option linter.unusedSimpArgs false
theorem toList_inj {a b:ByteArray}:a.toList=b.toList↔a=b:=by
  constructor
  · intro h
    rw [ByteArray.toList_eq,ByteArray.toList_eq] at h
    rw [←B8_of a,←B8_of b,h]
  · rintro rfl;rfl
mutual
def nexA (ls:List (Tm × Tm)):Tm→List Tm
  | .var c=>rootT ls (.var c)
  | .app s l=>rootT ls (.app s l)++nexL ls s [] l
def nexL (ls:List (Tm × Tm)) (s:Int):List Tm→List Tm→List Tm
  | _,[]=>[]
  | pre,u :: us=>(nexA ls u).map (fun v=>.app s (pre++v :: us))++nexL ls s (pre++[u]) us
end
mutual
theorem nexA_len (ls:List (Tm × Tm)):∀ t:Tm,((nexA ls t).length:Int)≤ls.length * t.size
  | .var c=>by rw [nexA,Tm.size,Int.mul_one];have:=rootT_len ls (.var c);omega
  | .app s l=>by
    rw [nexA,List.length_append,Tm.size,Int.mul_add]
    have h1:=rootT_len ls (.app s l)
    have h2:=nexL_len ls s [] l
    omega
theorem nexL_len (ls:List (Tm × Tm)) (s:Int):∀ (pre l:List Tm),((nexL ls s pre l).length:Int)≤ls.length * Tm.sizes l
  | pre,[]=>by rw [nexL,Tm.sizes];simp
  | pre,u :: us=>by
    rw [nexL,List.length_append,List.length_map,Tm.sizes,Int.mul_add]
    have h1:=nexA_len ls u
    have h2:=nexL_len ls s (pre++[u]) us
    omega
end
attribute [local go_sem] max2_int min2_int max_two min_two max_three min_three max_four min_four
set_option linter.unusedVariables false
set_option linter.unusedSimpArgs false
end Go.Proofs.YtaafeallcaiooaaGreat.Pr
namespace Go.Proofs.YtaafeallcaiooaaGreat.Pr
open Go.RowKit Go.Proofs.Zw Go.Proofs.Zl Go.Proofs.Zm
set_option linter.unusedVariables false
set_option linter.unusedSimpArgs false
theorem good_mk {s:Int} {p us:List Tm} {v:Tm} (hs:97≤s∧s≤102) (hl:(p.length:Int)+1+us.length=nParts s) (hp:Tm.goods p) (hv:v.good) (hu:Tm.goods us):(Tm.app s (p++v :: us)).good:=by
  rw [Tm.good]
  refine ⟨hs,by rw [List.length_append,List.length_cons];omega,?_⟩
  rw [goods_app,Tm.goods]
  exact ⟨hp,hv,hu⟩
mutual
theorem nexA_good (ls:List (Tm × Tm)) (hls:LawsGood ls):∀ (t:Tm),t.good→t.size≤1000000→∀ v,v∈nexA ls t→v.good
  | .var c,hg,hs,v,hv=>by rw [nexA] at hv;exact rootT_good hls hg hs hv
  | .app s l,hg,hs,v,hv=>by
    rw [nexA,List.mem_append] at hv
    rcases hv with hv|hv
    · exact rootT_good hls hg hs hv
    · rw [Tm.good] at hg
      rw [Tm.size] at hs
      exact nexL_good ls hls s hg.1 l [] (by rw [Tm.goods];trivial) hg.2.2 (by omega) (by simp;omega) v hv
theorem nexL_good (ls:List (Tm × Tm)) (hls:LawsGood ls) (s:Int) (hs:97≤s∧s≤102):∀ (us p:List Tm),Tm.goods p→Tm.goods us→Tm.sizes us≤1000000→(p.length:Int)+us.length=nParts s→∀ v,v∈nexL ls s p us→v.good
  | [],p,hp,hu,hz,hn,v,hv=>by rw [nexL] at hv;cases hv
  | u :: us,p,hp,hu,hz,hn,v,hv=>by
    rw [Tm.goods] at hu
    rw [Tm.sizes] at hz
    rw [List.length_cons] at hn
    have hsn:=Tm.sizes_nn us
    have hsp:=Tm.size_pos u
    rw [nexL,List.mem_append,List.mem_map] at hv
    rcases hv with ⟨x,hx,rfl⟩|hv
    · exact good_mk hs (by omega) hp (nexA_good ls hls u hu.1 (by omega) x hx) hu.2
    · exact nexL_good ls hls s hs us (p++[u]) (by rw [goods_app,Tm.goods,Tm.goods];exact ⟨hp,hu.1,trivial⟩) hu.2 (by omega) (by simp;omega) v hv
end
attribute [local go_sem] max2_int min2_int max_two min_two max_three min_three max_four min_four
set_option linter.unusedVariables false
set_option linter.unusedSimpArgs false
end Go.Proofs.YtaafeallcaiooaaGreat.Pr
namespace Go.Proofs.YtaafeallcaiooaaGreat.Pr
open Go.RowKit Go.Proofs.Zw Go.Proofs.Zl Go.Proofs.Zm
set_option linter.unusedVariables false
set_option linter.unusedSimpArgs false
theorem chk_none {l:List Tm} (h:chk l=none):∃ t,t∈l∧¬ t.size≤60:=by
  unfold chk at h
  split at h
  · cases h
  · rename_i h1
    refine Classical.byContradiction fun hn=>h1 (List.all_eq_true.2 fun t ht=>?_)
    exact decide_eq_true (Classical.byContradiction fun h2=>hn ⟨t,ht,h2⟩)
theorem mk_big (s:Int) (p us:List Tm) (v:Tm):v.size≤(Tm.app s (p++v :: us)).size:=by
  rw [Tm.size,sizes_app,Tm.sizes]
  have h1:=Tm.sizes_nn p
  have h2:=Tm.sizes_nn us
  omega
mutual
theorem nextT_nexA (ls:List (Tm × Tm)):∀ t:Tm,nextT ls t=chk (nexA ls t)
  | .var c=>by rw [nextT,nexA]
  | .app s l=>by
    rw [nextT,nexA]
    rcases nextL_nexL ls s [] l with h|⟨h,x,hx,hb⟩
    · rw [h,Option.bind_some]
    · rw [h,Option.bind_none]
      exact (chk_no (List.mem_append_right _ hx) hb).symm
theorem nextL_nexL (ls:List (Tm × Tm)) (s:Int):∀ (pre l:List Tm),nextL ls s pre l=some (nexL ls s pre l)∨(nextL ls s pre l=none∧∃ x,x∈nexL ls s pre l∧¬ x.size≤60)
  | pre,[]=>.inl (by rw [nextL,nexL])
  | pre,u :: us=>by
    rw [nextL,nexL,nextT_nexA ls u]
    cases hc:chk (nexA ls u) with
    | none =>
      obtain ⟨v,hv,hb⟩:=chk_none hc
      refine .inr ⟨rfl,.app s (pre++v :: us),List.mem_append_left _ (List.mem_map.2 ⟨v,hv,rfl⟩),?_⟩
      have:=mk_big s pre us v
      omega
    | some r =>
      obtain ⟨rfl,_⟩:=chk_some hc
      rw [Option.bind_some]
      rcases nextL_nexL ls s (pre++[u]) us with h|⟨h,x,hx,hb⟩
      · rw [h]
        exact .inl rfl
      · rw [h]
        exact .inr ⟨rfl,x,List.mem_append_right _ hx,hb⟩
end
theorem ltS_irrefl (x:ByteArray):¬ ltS x x:=fun h=>((ltS_iff x x).1 h).2 rfl
theorem sorted_ext:∀ l m:List ByteArray,l.Pairwise ltS→m.Pairwise ltS→(∀ x,x∈l↔x∈m)→l=m
  | [],[],_,_,_=>rfl
  | [],b :: m,_,_,h=>absurd ((h b).2 (by simp)) (by simp)
  | a :: l,[],_,_,h=>absurd ((h a).1 (by simp)) (by simp)
  | a :: l,b :: m,h1,h2,h=>by
    have ha:=List.pairwise_cons.1 h1
    have hb:=List.pairwise_cons.1 h2
    have e:a=b:=by
      rcases List.mem_cons.1 ((h a).1 (by simp)) with e|e
      · exact e
      · rcases List.mem_cons.1 ((h b).2 (by simp)) with e2|e2
        · exact e2.symm
        · exact absurd (ltS_trans (ha.1 b e2) (hb.1 a e)) (ltS_irrefl a)
    subst e
    rw [sorted_ext l m ha.2 hb.2 (fun x=>⟨fun hx=>?_,fun hx=>?_⟩)]
    · rcases List.mem_cons.1 ((h x).1 (List.mem_cons_of_mem _ hx)) with e|e
      · exact absurd (e ▸ ha.1 x hx) (ltS_irrefl _)
      · exact e
    · rcases List.mem_cons.1 ((h x).2 (List.mem_cons_of_mem _ hx)) with e|e
      · exact absurd (e ▸ hb.1 x hx) (ltS_irrefl _)
      · exact e
theorem mem_txs {x:ByteArray}:∀ {l:List Tm},x∈textsT l↔∃ v∈l,x=v.text
  | []=>by simp [textsT]
  | t :: l=>by
    rw [textsT,mem_insD,mem_txs]
    simp
end Go.Proofs.YtaafeallcaiooaaGreat.Pr
namespace Go.Proofs.YtaafeallcaiooaaGreat.Pr
set_option linter.unusedVariables false
instance decMem (x:ByteArray) (l:List ByteArray):Decidable (x∈l):=decidable_of_iff (l.any (fun y=>decide (y=x))=true) (by simp)
theorem nodup_le:∀ (L M:List ByteArray),L.Nodup→(∀ x,x∈L→x∈M)→L.length≤M.length
  | [],M,_,_=>Nat.zero_le _
  | a :: L,M,hn,h=>by
    have hn2:=List.nodup_cons.1 hn
    have ha:a∈M:=h a (by simp)
    obtain ⟨s,t,rfl⟩:=List.append_of_mem ha
    have ih:=nodup_le L (s++t) hn2.2 fun x hx=>by
      have h1:=h x (by simp [hx])
      have h2:x≠a:=fun e=>hn2.1 (e ▸ hx)
      simp only [List.mem_append,List.mem_cons] at h1 ⊢
      rcases h1 with h1|h1|h1
      · exact .inl h1
      · exact absurd h1 h2
      · exact .inr h1
    simp only [List.length_append,List.length_cons] at ih ⊢
    omega
theorem nodup_perm:∀ {L M:List ByteArray},L.Nodup→M.Nodup→(∀ x,x∈L↔x∈M)→L.Perm M
  | [],M,_,_,h=>by
    cases M with
    | nil=>exact List.Perm.nil
    | cons a M=>exact absurd ((h a).2 (by simp)) (by simp)
  | a :: L,M,hn,hm,h=>by
    have hn2:=List.nodup_cons.1 hn
    obtain ⟨s,t,rfl⟩:=List.append_of_mem ((h a).1 (by simp))
    have hp:(s++a :: t).Perm (a :: (s++t)):=List.perm_middle
    have hm2:=List.nodup_cons.1 (hp.nodup_iff.1 hm)
    refine (List.Perm.cons a (nodup_perm hn2.2 hm2.2 fun x=>?_)).trans hp.symm
    have h1:=h x
    simp only [List.mem_append,List.mem_cons] at h1 ⊢
    constructor
    · intro hx
      have hne:x≠a:=fun e=>hn2.1 (e ▸ hx)
      rcases h1.1 (.inr hx) with h2|h2|h2
      · exact .inl h2
      · exact absurd h2 hne
      · exact .inr h2
    · intro hx
      have hne:x≠a:=fun e=>hm2.1 (e ▸ List.mem_append.2 hx)
      have h3:x∈s∨x=a∨x∈t:=by
        rcases hx with hx|hx
        · exact .inl hx
        · exact .inr (.inr hx)
      exact (h1.2 h3).resolve_left hne
open Go.RowKit Go.Proofs.Zw Go.Proofs.Zl Go.Proofs.Zm
def nextS (ls:List (Tm × Tm)) (s:ByteArray):Option (List ByteArray):=(readT s).bind fun t=>(nextT ls t).map textsT
def freshS (out:List ByteArray):List ByteArray→List ByteArray→List ByteArray
 | fr,[]=>fr
 | fr,u :: us=>freshS out (if u∈out++fr then fr else fr++[u]) us
def levelS (ls:List (Tm × Tm)) (out:List ByteArray):List ByteArray→List ByteArray→Option (List ByteArray)
 | fr,[]=>some fr
 | fr,s :: ss=>(nextS ls s).bind fun us=>levelS ls out (freshS out fr us) ss
def sortS (l:List ByteArray):List ByteArray:=l.foldr insD []
def reachS (ls:List (Tm × Tm)):Nat→List ByteArray→List ByteArray→Option (List ByteArray)
 | 0,done,last=>some (done++last)
 | k+1,done,last=>(levelS ls (done++last) [] last).bind fun fr=>if (done++last++sortS fr).length≤300 then reachS ls k (done++last) (sortS fr) else none
def comesS (t:Tm) (u:ByteArray):Bool:=match readT u with
 | some v=>comesT t v
 | none=>false
def isTx (s:ByteArray):Prop:=∃ t:Tm,t.good∧t.size≤60∧s=t.text
theorem isTx_read {s:ByteArray} (h:isTx s):∃ t,readT s=some t∧t.good∧t.size≤60∧s=t.text:=by
 obtain ⟨t,h1,h2,h3⟩:=h
 exact ⟨t,readT_iff.2 ⟨h1,h2,h3⟩,h1,h2,h3⟩
theorem nextS_text {ls:List (Tm × Tm)} {t:Tm} (hg:t.good) (hs:t.size≤60):nextS ls t.text=(nextT ls t).map textsT:=by
 unfold nextS
 rw [readT_back hg hs,Option.bind_some]
theorem nextS_mem {ls:List (Tm × Tm)} (hls:LawsGood ls) {s:ByteArray} {us:List ByteArray} (h:nextS ls s=some us):∃ t,readT s=some t∧nextT ls t=some (nexA ls t)∧us=textsT (nexA ls t)∧(∀ u,u∈us↔∃ v∈nexA ls t,u=v.text)∧∀ v∈nexA ls t,v.good∧v.size≤60:=by
 unfold nextS at h
 cases hr:readT s with
 | none=>rw [hr] at h;cases h
 | some t =>
  have hg:=readT_good hr
  rw [hr,Option.bind_some] at h
  cases hn:nextT ls t with
  | none=>rw [hn] at h;cases h
  | some r =>
   rw [hn] at h
   injection h with h
   have hn2:=hn
   rw [nextT_nexA] at hn2
   obtain ⟨rfl,hz⟩:=chk_some hn2
   refine ⟨t,rfl,hn,h.symm,fun u=>?_,fun v hv=>⟨nexA_good ls hls t hg.1 (by omega) v hv,hz v hv⟩⟩
   rw [←h]
   exact mem_txs
theorem nextS_isTx {ls:List (Tm × Tm)} (hls:LawsGood ls) {s:ByteArray} {us:List ByteArray} (h:nextS ls s=some us):∀ u,u∈us→isTx u:=fun u hu=>by
 obtain ⟨t,_,_,_,h1,h2⟩:=nextS_mem hls h
 obtain ⟨v,hv,rfl⟩:=(h1 u).1 hu
 exact ⟨v,(h2 v hv).1,(h2 v hv).2,rfl⟩
theorem mem_fresh (out:List ByteArray) (x:ByteArray):∀ (us fr:List ByteArray),x∈freshS out fr us↔x∈fr∨(x∈us∧x∉out)
 | [],fr=>by rw [freshS];simp
 | u :: us,fr=>by
  rw [freshS,mem_fresh out x us]
  by_cases h:u∈out++fr
  ·rw [if_pos h]
   constructor
   ·rintro (h1|⟨h1,h2⟩)
    ·exact .inl h1
    ·exact .inr ⟨List.mem_cons_of_mem _ h1,h2⟩
   ·rintro (h1|⟨h1,h2⟩)
    ·exact .inl h1
    ·rcases List.mem_cons.1 h1 with rfl|h1
     ·exact .inl ((List.mem_append.1 h).resolve_left h2)
     ·exact .inr ⟨h1,h2⟩
  ·rw [if_neg h]
   constructor
   ·rintro (h1|⟨h1,h2⟩)
    ·rcases List.mem_append.1 h1 with h1|h1
     ·exact .inl h1
     ·obtain rfl:=List.mem_singleton.1 h1
      exact .inr ⟨List.mem_cons_self ..,fun h2=>h (List.mem_append_left _ h2)⟩
    ·exact .inr ⟨List.mem_cons_of_mem _ h1,h2⟩
   ·rintro (h1|⟨h1,h2⟩)
    ·exact .inl (List.mem_append_left _ h1)
    ·rcases List.mem_cons.1 h1 with rfl|h1
     ·exact .inl (by simp)
     ·exact .inr ⟨h1,h2⟩
theorem fresh_nodup (out:List ByteArray):∀ (us fr:List ByteArray),fr.Nodup→(freshS out fr us).Nodup
 | [],fr,h=>by rw [freshS];exact h
 | u :: us,fr,h=>by
  rw [freshS]
  refine fresh_nodup out us _ ?_
  by_cases hu:u∈out++fr
  ·rw [if_pos hu];exact h
  ·rw [if_neg hu]
   refine List.nodup_append.2 ⟨h,by simp,fun a ha b hb e=>?_⟩
   obtain rfl:=List.mem_singleton.1 hb
   subst e
   exact hu (List.mem_append_right _ ha)
theorem mem_level (ls:List (Tm × Tm)) (out:List ByteArray) (x:ByteArray):∀ (ss fr r:List ByteArray),levelS ls out fr ss=some r→(x∈r↔x∈fr∨(x∉out∧∃ s∈ss,∃ us,nextS ls s=some us∧x∈us))
 | [],fr,r,h=>by
  rw [levelS] at h
  injection h with h
  subst h
  simp
 | s :: ss,fr,r,h=>by
  rw [levelS] at h
  cases hn:nextS ls s with
  | none=>rw [hn] at h;cases h
  | some us =>
   rw [hn,Option.bind_some] at h
   rw [mem_level ls out x ss _ r h,mem_fresh]
   constructor
   ·rintro ((h1|⟨h1,h2⟩)|⟨h1,s',h2,us',h3,h4⟩)
    ·exact .inl h1
    ·exact .inr ⟨h2,s,by simp,us,hn,h1⟩
    ·exact .inr ⟨h1,s',List.mem_cons_of_mem _ h2,us',h3,h4⟩
   ·rintro (h1|⟨h1,s',h2,us',h3,h4⟩)
    ·exact .inl (.inl h1)
    ·rcases List.mem_cons.1 h2 with rfl|h2
     ·rw [hn] at h3
      injection h3 with h3
      subst h3
      exact .inl (.inr ⟨h4,h1⟩)
     ·exact .inr ⟨h1,s',h2,us',h3,h4⟩
theorem level_next (ls:List (Tm × Tm)) (out:List ByteArray):∀ (ss fr r:List ByteArray),levelS ls out fr ss=some r→∀ s,s∈ss→∃ us,nextS ls s=some us
 | [],fr,r,h,s,hs=>by cases hs
 | s :: ss,fr,r,h,s',hs=>by
  rw [levelS] at h
  cases hn:nextS ls s with
  | none=>rw [hn] at h;cases h
  | some us =>
   rw [hn,Option.bind_some] at h
   rcases List.mem_cons.1 hs with rfl|hs
   ·exact ⟨us,hn⟩
   ·exact level_next ls out ss _ r h s' hs
theorem level_some (ls:List (Tm × Tm)) (out:List ByteArray):∀ (ss fr:List ByteArray),(∀ s,s∈ss→∃ us,nextS ls s=some us)→∃ r,levelS ls out fr ss=some r
 | [],fr,h=>⟨fr,by rw [levelS]⟩
 | s :: ss,fr,h=>by
  obtain ⟨us,hn⟩:=h s (by simp)
  obtain ⟨r,hr⟩:=level_some ls out ss (freshS out fr us) (fun s' hs=>h s' (by simp [hs]))
  exact ⟨r,by rw [levelS,hn,Option.bind_some,hr]⟩
theorem level_nodup (ls:List (Tm × Tm)) (out:List ByteArray):∀ (ss fr r:List ByteArray),levelS ls out fr ss=some r→fr.Nodup→r.Nodup
 | [],fr,r,h,hd=>by
  rw [levelS] at h
  injection h with h
  subst h
  exact hd
 | s :: ss,fr,r,h,hd=>by
  rw [levelS] at h
  cases hn:nextS ls s with
  | none=>rw [hn] at h;cases h
  | some us =>
   rw [hn,Option.bind_some] at h
   exact level_nodup ls out ss _ r h (fresh_nodup out us fr hd)
theorem mem_sortS {x:ByteArray}:∀ {l:List ByteArray},x∈sortS l↔x∈l
 | []=>Iff.rfl
 | y :: l=>by
  show x∈insD y (sortS l)↔_
  rw [mem_insD,mem_sortS,List.mem_cons]
theorem sortS_sorted:∀ l,(sortS l).Pairwise ltS
 | []=>List.Pairwise.nil
 | y :: l=>insD_sorted y (sortS_sorted l)
theorem sorted_nodup {l:List ByteArray} (h:l.Pairwise ltS):l.Nodup:=h.imp fun {a b} h e=>by subst e;exact ltS_irrefl a h
theorem sortS_nodup (l:List ByteArray):(sortS l).Nodup:=sorted_nodup (sortS_sorted l)
theorem sortS_perm {l:List ByteArray} (h:l.Nodup):(sortS l).Perm l:=nodup_perm (sortS_nodup l) h fun x=>mem_sortS
theorem sortS_len {l:List ByteArray} (h:l.Nodup):(sortS l).length=l.length:=(sortS_perm h).length_eq
theorem keyd9:Keyd (α:=ByteArray) Tryz.prog 9 Value.string:=by
  refine keyd_of_now Tryz.underlying9 (fun a b=>?_) (fun a em w=>?_) (fun a=>?_)
  · simp [Instr.sameNow,bs_beq]
  · exact checkS em 9999 a w
  · simp [Instr.sameBits,bs_beq]
def SetAt (w:World) (m:Nat) (kn:List ByteArray):Prop:=∃ L,MapIs Value.string w m L∧∀ x,getL L x=if x∈kn then some (.bool true) else none
theorem SetAt.move {w w':World} {m:Nat} {kn:List ByteArray} (h:SetAt w m kn) (hb:w'.heap[m]?=w.heap[m]?):SetAt w' m kn:=by
  obtain ⟨L,h1,h2⟩:=h
  exact ⟨L,h1.move hb,h2⟩
theorem SetAt.lt {w:World} {m:Nat} {kn:List ByteArray} (h:SetAt w m kn):m < w.heap.size:=by
  obtain ⟨L,h1,h2⟩:=h
  exact h1.lt
theorem SetAt.below {w w':World} {m:Nat} {kn:List ByteArray} (h:SetAt w m kn) (hb:Below w.heap.size w w'):SetAt w' m kn:=h.move (hb.block _ h.lt)
theorem SetAt.look {w:World} {m:Nat} {kn:List ByteArray} (h:SetAt w m kn) (x:ByteArray):(Instr.lookup 141 (.map (some m)) (.string x) false).run Tryz.prog w=.ok (.bool (decide (x∈kn))) w:=by
  obtain ⟨L,h1,h2⟩:=h
  have:=MapIs.lookup keyd9 Tryz.underlying141 zero4 h1 x false
  rw [h2] at this
  by_cases hx:x∈kn
  · rw [if_pos hx] at this
    rw [decide_eq_true hx]
    simpa using this
  · rw [if_neg hx] at this
    rw [decide_eq_false hx]
    simpa using this
theorem SetAt.put {w:World} {m:Nat} {kn:List ByteArray} (h:SetAt w m kn) (x:ByteArray):∃ o,(Instr.mapUpdate 141 (.map (some m)) (.string x) (.bool true)).run Tryz.prog w=.ok () (blockSet w m o)∧SetAt (blockSet w m o) m (kn++[x]):=by
  obtain ⟨L,h1,h2⟩:=h
  obtain ⟨o,ho,hm⟩:=MapIs.update keyd9 Tryz.underlying141 h1 x (.bool true)
  refine ⟨o,ho,_,hm,fun y=>?_⟩
  rw [getL_putG,h2]
  by_cases h1:y=x
  · rw [if_pos h1,if_pos (by simp [h1])]
  · rw [if_neg h1]
    by_cases h2:y∈kn
    · rw [if_pos h2,if_pos (by simp [h2])]
    · rw [if_neg h2,if_neg (by simp [h2,h1])]
theorem SetAt.new (w:World):SetAt (w.alloc (.map #[] 0)) w.heap.size []:=⟨[],⟨#[],0,blk_new w _,rfl⟩,fun x=>by simp [getL]⟩
theorem own_blockSet {w:World} {base:Nat} {e:TypeId} {sz:Nat} {v:Value} {n m:Nat} {cells:List Value} {o:Obj} (h:w.ownsRow base e sz v n cells) (hm:∀ k,v.ownBlock=some k→k≠m):(blockSet w m o).ownsRow base e sz v n cells :=
  own_move h fun k hk=>set_other o (hm k hk)
open Go.Maps Go.Sort
theorem sort_sorted {M:List ByteArray} (hM:M.Pairwise ltS) {ss:List (List UInt8)} (h:ss.Perm (M.map bytesS)):ss.mergeSort (fun x y=>decide (x≤y))=M.map bytesS:=by
  have h1:=List.pairwise_mergeSort (le:=fun x y:List UInt8=>decide (x≤y)) (fun a b c h1 h2=>by simp at h1 h2 ⊢;exact List.le_trans h1 h2) (fun a b=>by simp;exact List.le_total a b) ss
  have h2:(ss.mergeSort (fun x y=>decide (x≤y))).Pairwise (fun x y:List UInt8=>x≤y):=h1.imp (fun h=>by simpa using h)
  have h3:(M.map bytesS).Pairwise (fun x y:List UInt8=>x≤y):=List.pairwise_map.2 (hM.imp (fun h=>((ltS_iff _ _).1 h).1))
  exact List.Perm.eq_of_pairwise (le:=fun x y:List UInt8=>x≤y) (fun a b _ _ h1 h2=>List.le_antisymm h1 h2) h2 h3 ((List.mergeSort_perm _ _).trans h)
theorem ints_of_own {w:World} {base:Nat} {ok:Nat→Prop} {v:Value} {l:List ByteArray} (h:Kd.R Kd.string 9 w base ok v l):Sq.Ints w.heap.size w v (l.map bytesS):=by
  have ho:=Kd.own_of_R h
  rcases ho.2 with ⟨rfl,hz⟩|⟨gb,cap,cur,rfl,hbase,hgb,r1,r2,r3,r4⟩
  · have hl:l=[]:=List.length_eq_zero_iff.1 hz
    subst hl
    exact .inl ⟨rfl,rfl⟩
  · refine .inr ⟨gb,0,cap,by rw [List.length_map],(gl_ hgb),fun j hj=>?_⟩
    rw [List.length_map] at hj
    obtain ⟨ad,e,hc⟩:=Kd.at_string (Kd.R_reads' h).2.2 (j:Int) (by omega) (by omega)
    have e2:ad=⟨gb,0,none⟩:=by injection e with e;exact e.symm
    subst e2
    rw [rdOf_at l j hj] at hc
    rw [List.getElem?_map,List.getElem?_eq_getElem hj]
    simp [Addr.add,bytesS,encStr] at hc ⊢
    by_cases h0:j=0
    · subst h0
      simpa using hc
    · simpa [h0] using hc
theorem sortedV_calls (v:Value) (l:List ByteArray) (base:Nat) (ok:Nat→Prop) (w:World) (h:Kd.R Kd.string 9 w base ok v l) (hn:l.Nodup) (hl:l.length≤1000000000) :
    Calls Tryz.prog 132 #[.func (.func 152) #[] #[.pointer (some ⟨w.heap.size,0,none⟩)]] (w.alloc (.cells #[v] 36)) fun e w'=>∃ u:Value,e=.returned u∧Kd.R Kd.string 9 w' (w.heap.size+1) (fun k=>w.heap.size+1≤k) u (sortS l)∧Below (w.heap.size+1) (w.alloc (.cells #[v] 36)) w':=by
  refine (Sq.sorted_any v (l.map bytesS) w (by rw [List.length_map];omega) (ints_of_own h)).mono ?_
  rintro e w' ⟨u,rfl,ho,_,hb⟩
  have hs:=sort_sorted (sortS_sorted l) (ss:=l.map bytesS) ((sortS_perm hn).symm.map bytesS)
  rw [hs,List.length_map,←sortS_len hn,List.map_map,show (fun l=>encStr l) ∘ bytesS=Value.string from rfl] at ho
  exact ⟨u,rfl,Kd.R_of_own (enc:=Value.string) (h1:=fun _=>rfl) ho (fun k hk=>own_base ho k hk),hb⟩
def OutRc (w:World) (R:Option (List ByteArray)) (e:Ending) (w':World):Prop:=match R with
  | none=>e=troubled 5∧Below w.heap.size w w'
  | some l=>∃ v,e=.returned v∧Kd.R Kd.string 9 w' w.heap.size (fun k=>w.heap.size≤k) v l∧Below w.heap.size w w'
end Go.Proofs.YtaafeallcaiooaaGreat.Pr
