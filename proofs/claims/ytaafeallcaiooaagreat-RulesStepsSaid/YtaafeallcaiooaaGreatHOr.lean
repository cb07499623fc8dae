/- Orient: the first precedence that proves the rules. -/
import Derived.Test.YtaafeallcaiooaaGreatHLw
import Derived.Test.YtaafeallcaiooaaGreatHPn
import Derived.Test.YtaafeallcaiooaaGreatHCa
import Derived.Lib.ConvBytes
namespace Go.Proofs.YtaafeallcaiooaaGreat.Pr
open Go.RowKit Go.Proofs.Zw Go.Proofs.Zl Go.Proofs.Zm
set_option linter.unusedVariables false
set_option linter.unusedSimpArgs false
def B8 (l:List UInt8):ByteArray:=⟨l.toArray⟩
theorem B8_list (l:List UInt8):(B8 l).data.toList=l:=by simp [B8]
theorem B8_of (s:ByteArray):B8 s.data.toList=s:=by cases s;simp [B8]
theorem B8_size (l:List UInt8):(B8 l).size=l.length:=by simp [B8,ByteArray.size]
theorem hdB_nil:hdB (B8 [])=0:=rfl
theorem hdB_cons (c:UInt8) (l:List UInt8):hdB (B8 (c :: l))=(c.toNat:Int):=by
 have h0:0 < (B8 (c :: l)).size:=by rw [B8_size];simp
 unfold hdB
 rw [if_neg (by omega)]
 have e:bt (B8 (c :: l)) 0=(((B8 (c :: l))[0]'h0).toNat:Int):=by simp [bt,h0]
 rw [e]
 rfl
theorem tlB_cons (c:UInt8) (l:List UInt8):tlB (B8 (c :: l))=B8 l:=by
 unfold tlB
 apply ByteArray.ext
 simp [B8,ByteArray.size]
def txM:Nat→List Tm→List UInt8
 | _,[]=>[]
 | i,t :: l=>UInt8.ofNat (mark i).toNat :: (t.tx++txM (i+1) l)
theorem tx_app2 (s:Int) (l:List Tm) (h:l.length≤2):(Tm.app s l).tx=ch s :: (if l.length=0 then [] else txM 0 l++[41]):=by
 match l,h with
 | [],_=>rw [tx_app];rfl
 | [x],_=>rw [tx_app];simp [txM,mark]
 | [x,y],_=>rw [tx_app];simp [txM,mark]
theorem ch_toNat {c:Int} (h:0≤c∧c≤255):(((ch c).toNat:Nat):Int)=c:=by
 unfold ch
 simp
 omega
theorem ch_of (c:UInt8):ch (c.toNat:Int)=c:=by
 unfold ch
 simp
theorem mark_nat (i:Nat):(((UInt8.ofNat (mark i).toNat).toNat:Nat):Int)=mark i:=by
 unfold mark
 split<;>rfl
theorem pL_back (q:Nat) (ih:∀ (t:Tm) (r:List UInt8) (n:Int),t.good→t.size≤q→n+t.size≤60→pT q (B8 (t.tx++r)) n=some (t,B8 r,n+t.size)) :
  ∀ (l:List Tm) (i:Nat) (r:List UInt8) (n:Int),Tm.goods l→Tm.sizes l≤q→n+Tm.sizes l≤60→pL (pT q) l.length i (B8 (txM i l++r)) n=some (l,B8 r,n+Tm.sizes l)
 | [],i,r,n,hg,hq,hn=>by
  rw [List.length_nil,pL,txM,Tm.sizes,List.nil_append,Int.add_zero]
 | t :: l,i,r,n,hg,hq,hn=>by
  rw [Tm.goods] at hg
  rw [Tm.sizes] at hq hn
  have h1:=Tm.sizes_nn l
  have h2:=Tm.size_pos t
  rw [List.length_cons,pL,txM,List.cons_append,hdB_cons,mark_nat,if_pos rfl,tlB_cons,List.append_assoc,ih t _ n hg.1 (by omega) (by omega),Option.bind_some]
  dsimp only
  rw [pL_back q ih l (i+1) r (n+t.size) hg.2 (by omega) (by omega),Tm.sizes]
  simp only [Option.map_some]
  rw [Int.add_assoc]
theorem pT_back:∀ (q:Nat) (t:Tm) (r:List UInt8) (n:Int),t.good→t.size≤q→n+t.size≤60→pT q (B8 (t.tx++r)) n=some (t,B8 r,n+t.size)
 | 0,t,r,n,hg,hq,hn=>by have:=Tm.size_pos t;omega
 | q+1,.var c,r,n,hg,hq,hn=>by
  rw [Tm.good] at hg
  rw [Tm.size] at hn ⊢
  rw [pT,if_neg (by omega),Tm.tx,List.cons_append,hdB_cons,ch_toNat (by omega),if_pos hg,tlB_cons]
  rfl
 | q+1,.app s l,r,n,hg,hq,hn=>by
  have hl2:=good_len hg
  rw [Tm.good] at hg
  rw [Tm.size] at hq hn ⊢
  have h1:=Tm.sizes_nn l
  rw [pT,if_neg (by omega),tx_app2 s l hl2,List.cons_append,hdB_cons,ch_toNat (by omega),if_neg (by omega),if_pos hg.1,tlB_cons]
  have hp:(nParts s).toNat=l.length:=by omega
  rw [hp]
  by_cases h0:l.length=0
  ·obtain rfl:l=[]:=List.length_eq_zero_iff.1 h0
   rw [if_pos List.length_nil]
   have h3:¬ nParts s > 0:=by have:=hg.2.1;simp at this;omega
   rw [List.length_nil,pL,Option.bind_some,if_neg h3,Tm.sizes]
   simp
  ·rw [if_neg h0,List.append_assoc,pL_back q (pT_back q) l 0 _ (n+1) hg.2.2 (by omega) (by omega),Option.bind_some]
   have h3:nParts s > 0:=by omega
   rw [if_pos h3]
   dsimp only
   rw [List.cons_append,List.nil_append,hdB_cons,if_pos (by decide),tlB_cons,Int.add_assoc]
theorem readT_back {t:Tm} (hg:t.good) (hs:t.size≤60):readT t.text=some t:=by
 unfold readT
 have h:=pT_back 61 t [] 0 hg (by omega) (by omega)
 rw [List.append_nil] at h
 have e:t.text=B8 t.tx:=rfl
 rw [e,h,Option.bind_some]
 rfl
theorem hd_cons {s:ByteArray} (h:hdB s≠0):s.data.toList=ch (hdB s) :: (tlB s).data.toList:=by
 rw [←B8_of s] at h ⊢
 cases hs:s.data.toList with
 | nil=>rw [hs,hdB_nil] at h;exact absurd rfl h
 | cons c l=>rw [hdB_cons,tlB_cons,ch_of,B8_list,B8_list]
theorem pL_text {f:ByteArray→Int→Option (Tm × ByteArray × Int)} (hf:∀ s n t s' n',f s n=some (t,s',n')→s.data.toList=t.tx++s'.data.toList):∀ m i s n l s' n',pL f m i s n=some (l,s',n')→l.length=m∧s.data.toList=txM i l++s'.data.toList
 | 0,i,s,n,l,s',n',h=>by
  rw [pL] at h
  injection h with h
  injection h with h1 h2
  injection h2 with h2 h3
  subst h1 h2
  exact ⟨rfl,rfl⟩
 | m+1,i,s,n,l,s',n',h=>by
  rw [pL] at h
  split at h
  ·rename_i hm
   cases hr:f (tlB s) n with
   | none=>rw [hr] at h;cases h
   | some r =>
    obtain ⟨t,s2,n2⟩:=r
    rw [hr,Option.bind_some] at h
    cases hr2:pL f m (i+1) s2 n2 with
    | none=>rw [hr2] at h;cases h
    | some r2 =>
     obtain ⟨l2,s3,n3⟩:=r2
     rw [hr2] at h
     injection h with h
     injection h with h1 h2
     injection h2 with h2 h3
     subst h1 h2
     have a:=hf _ _ _ _ _ hr
     have b:=pL_text hf m (i+1) s2 n2 l2 s3 n3 hr2
     have hc:=hd_cons (s:=s) (by rw [hm];unfold mark;split<;>decide)
     refine ⟨by rw [List.length_cons,b.1],?_⟩
     rw [hc,hm,a,b.2,txM]
     simp [ch]
  ·cases h
theorem pT_text:∀ q s n t s' n',pT q s n=some (t,s',n')→s.data.toList=t.tx++s'.data.toList
 | 0,s,n,t,s',n',h=>by cases h
 | q+1,s,n,t,s',n',h=>by
  rw [pT] at h
  split at h
  ·cases h
  ·split at h
   ·rename_i hv
    injection h with h
    injection h with h1 h2
    injection h2 with h2 h3
    subst h1 h2
    rw [hd_cons (s:=s) (by omega),Tm.tx]
    rfl
   ·split at h
    ·rename_i hv
     have hc:=hd_cons (s:=s) (by omega)
     cases hr:pL (pT q) (nParts (hdB s)).toNat 0 (tlB s) (n+1) with
     | none=>rw [hr] at h;cases h
     | some r =>
      obtain ⟨l,s2,n2⟩:=r
      have a:=pL_text (pT_text q) _ _ _ _ _ _ _ hr
      rw [hr,Option.bind_some] at h
      dsimp only at h
      have hl2:l.length≤2:=by have:=a.1;unfold nParts at this;omega
      split at h
      ·rename_i hp
       split at h
       ·rename_i h41
        injection h with h
        injection h with h1 h2
        injection h2 with h2 h3
        subst h1 h2
        have hc2:=hd_cons (s:=s2) (by omega)
        rw [hc,a.2,tx_app2 _ _ hl2,if_neg (by omega),hc2,h41]
        simp [ch]
       ·cases h
      ·rename_i hp
       injection h with h
       injection h with h1 h2
       injection h2 with h2 h3
       subst h1 h2
       have hl0:l=[]:=List.length_eq_zero_iff.1 (by omega)
       subst hl0
       rw [hc,a.2,tx_app2 _ _ hl2,if_pos List.length_nil]
       rfl
    ·cases h
theorem readT_text {s:ByteArray} {t:Tm} (h:readT s=some t):s=t.text:=by
 unfold readT at h
 cases hr:pT 61 s 0 with
 | none=>rw [hr] at h;cases h
 | some r =>
  obtain ⟨t',s',n'⟩:=r
  rw [hr,Option.bind_some] at h
  dsimp only at h
  split at h
  ·rename_i hz
   injection h with h
   subst h
   have a:=pT_text 61 s 0 _ _ _ hr
   have h0:s'.data.toList=[]:=by
    apply List.length_eq_zero_iff.1
    rw [Array.length_toList]
    exact hz
   rw [h0,List.append_nil] at a
   rw [←B8_of s,a]
   rfl
  ·cases h
theorem readT_iff {s:ByteArray} {t:Tm}:readT s=some t↔t.good∧t.size≤60∧s=t.text :=
 ⟨fun h=>⟨(readT_good h).1,(readT_good h).2,readT_text h⟩,fun h=>by rw [h.2.2];exact readT_back h.1 h.2.1⟩
end Go.Proofs.YtaafeallcaiooaaGreat.Pr
namespace Go.Proofs.YtaafeallcaiooaaGreat.Pr
theorem cmp_all (r:Int→Int):∀ (n:Nat) (a b:Tm),a.good→b.good→a.size+b.size≤(n:Int)→n≤1000000→CmpOk 130 r a b:=by
  intro n
  induction n with
  | zero =>
    intro a b ha hb h _
    have h1:=a.size_pos
    have h2:=b.size_pos
    omega
  | succ n ih =>
    intro a b ha hb h hn
    have h1:=a.size_pos
    have h2:=b.size_pos
    cases b with
    | var v=>exact cmp_var r a v ha (by omega)
    | app s' l' =>
      cases a with
      | var c=>exact cmp_va r c s' l'
      | app s l =>
        refine cmp_app r s l s' l' ha hb (by omega) (by omega) (fun x y hx hy hlt=>?_)
        have h3:=x.size_pos
        have h4:=y.size_pos
        exact greater_of r x y hx hy (by omega) (by omega) (ih x y hx hy (by omega) (by omega))
theorem greater_all (r:Int→Int) (a b:Tm) (ha:a.good) (hb:b.good) (h:a.size+b.size≤1000000):CmpOk 93 r a b:=by
  have h1:=a.size_pos
  have h2:=b.size_pos
  exact greater_of r a b ha hb (by omega) (by omega) (cmp_all r 1000000 a b ha hb h (Nat.le_refl _))
open Go.RowKit Go.Proofs.Zw Go.Proofs.Zl Go.Proofs.Zm
theorem HasW.apart {α:Type} {enc:α→Value} {w:World} {ok:Nat→Prop} {ls:List (Tm × Tm)} {A:Option Addr} {b:Nat} {L:List (α × Value)} (h:HasW w ok ls A) (hm:MapIs enc w b L):HasW w (fun k=>k≠b) ls A:=by
  intro j hj
  obtain ⟨g,cs,p,q,h1,h2,h3,h4,h5,h6,h7⟩:=h j hj
  refine ⟨g,cs,p,q,h1,?_,h3,h4,h5,h6.apart hm,h7.apart hm⟩
  intro e
  obtain ⟨es,cl,hb,_⟩:=hm
  rw [e,hb] at h3
  cases h3
theorem HasW.but {w w':World} {b:Nat} {ls:List (Tm × Tm)} {A:Option Addr} (h:HasW w (fun k=>k≠b) ls A) (hb:But b w w'):HasW w' (fun k=>k≠b) ls A:=h.step (fun k hk hl=>⟨hk,hb.block k hl hk⟩)
def provT (r:Int→Int) (ls:List (Tm × Tm)):Bool:=!(ls.any fun l=>!gt r l.1 l.2)
theorem prov1_calls (r:Int→Int) (a b:Tm) (p q:Nat × Value) (B b1 b2:Nat) (w:World) (ok ok':Nat→Prop) (hp:Has w ok a p) (hq:Has w ok' b q) (ha:a.good) (hb:b.good) (hs:a.size+b.size≤1000000) (hB:w.heap[B]?=some (.cells #[.map (some b1),.map (some b2)] 120 (0,0))) (hP:Prec w r b1 b2) :
    Calls Tryz.prog 128 #[.agg #[encI p,encI q],.pointer (some ⟨B,0,none⟩)] w fun e w'=>e=.returned (.bool (!gt r a b))∧But b2 w w'∧Prec w' r b1 b2:=by
  have hB1:Below w.heap.size w (w.alloc (.cells #[encI p,encI q] 144)):=below_alloc (Below.refl _ _) _
  have hg:=greater_all r a b ha hb hs p q (w.alloc (.cells #[encI p,encI q] 144)) ok ok' b1 b2 (hp.below hB1) (hq.below hB1) (hP.below hB1)
  have hx0:(w.alloc (.cells #[encI p,encI q] 144)).cell? ⟨B,0,none⟩=some (.map (some b1)):=blk_cell (blk_alloc hB _) 0
  have hx1:(w.alloc (.cells #[encI p,encI q] 144)).cell? ⟨B,1,none⟩=some (.map (some b2)):=blk_cell (blk_alloc hB _) 1
  generalize gt r a b=g at *
  obtain ⟨t1,v1⟩:=p
  obtain ⟨t2,v2⟩:=q
  have HG:=Aside0.mk hg
  have HB:=Aside0.mk hB1
  clear hg hB1 hp hq ha hb hs hB hP
  unfold precV at HG
  unfold encI at *
  go_enter Tryz.func128,Tryz.ntmps128
  go_wp2_with (go_at_call 93;refine HG.out.mono ?_;rintro e w2 ⟨rfl,hb,hP⟩;have H2:=Aside0.mk (And.intro hb hP);clear hb hP)
  go_ret
  exact ⟨rfl,(But.of_below HB.out).trans H2.out.1,H2.out.2⟩
set_option maxRecDepth 100000 in
set_option maxHeartbeats 1000000 in
theorem indexLaw_calls (r:Int→Int) (ls:List (Tm × Tm)) (B b1 b2:Nat) (A:Option Addr) (cap:Nat) (w:World) (hL:HasW w (fun k=>k≠b2) ls A) (hls:LawsGood ls) (hln:ls.length≤1000) (hB:w.heap[B]?=some (.cells #[.map (some b1),.map (some b2)] 120 (0,0))) (hP:Prec w r b1 b2) (hne:B≠b2) :
    Calls Tryz.prog 147 #[.slice A ls.length cap,.func (.func 128) #[] #[.pointer (some ⟨B,0,none⟩)]] w fun e w'=>∃ k:Int,e=.returned (.int .i64 k)∧decide (k≥0)=ls.any (fun l=>!gt r l.1 l.2)∧But b2 w w'∧Prec w' r b1 b2:=by
  have HP:=Aside0.mk (And.intro hL (And.intro hls (And.intro hln (And.intro hB (And.intro hP hne)))))
  clear hL hls hln hB hP hne
  go_enter Tryz.func147,Tryz.ntmps147
  go_wp2
  go_loopw [8] (fun v8 wr=>∃ (i:Nat),v8=.int .i64 (i:Int)∧Aside0 (i≤ls.length)∧Aside0 ((ls.take i).any (fun l=>!gt r l.1 l.2)=false)∧Aside0 (But b2 w wr∧Prec wr r b1 b2)) (fun v8 _=>ls.length - (intOf v8).toNat)
  case atStart=>exact ⟨0,rfl,⟨Nat.zero_le _⟩,⟨rfl⟩,⟨But.refl _ _,HP.out.2.2.2.2.1⟩⟩
  case round =>
    obtain ⟨i,rfl,HI,HA,HB⟩:=hrel
    obtain ⟨hL,hls,hln,hB,hP,hne⟩:=HP.out
    by_cases hlt:i < ls.length
    · have hlb:decide ((i:Int) < (ls.length:Int))=true:=decide_eq_true (by omega)
      obtain ⟨g,cs,⟨t1,p1⟩,⟨t2,p2⟩,rfl,hg1,hg2,hc1,hc2,hl1,hl2⟩:=(hL.but HB.out.1) i hlt
      have hcell1:wr.cell? ⟨g,i * 2,none⟩=some (.iface t1 p1):=(blk_cell hg2 (i * 2)).trans hc1
      have hcell2:wr.cell? ⟨g,i * 2+1,none⟩=some (.iface t2 p2):=(blk_cell hg2 (i * 2+1)).trans hc2
      obtain ⟨hg3,hg4,hs3,hs4⟩:=hls _ (List.getElem_mem hlt)
      have hcall:=prov1_calls r ls[i].1 ls[i].2 (t1,p1) (t2,p2) B b1 b2 wr _ _ hl1 hl2 hg3 hg4 (by omega) ((HB.out.1.block B (gl_ hB) hne).trans hB) HB.out.2
      have hsn:(ls.take (i+1)).any (fun l=>!gt r l.1 l.2)=!gt r ls[i].1 ls[i].2:=by
        rw [List.take_succ_eq_append_getElem hlt,List.any_append,HA.out]
        simp
      have htr:(!gt r ls[i].1 ls[i].2)=true→ls.any (fun l=>!gt r l.1 l.2)=true:=fun h=>List.any_eq_true.2 ⟨ls[i],List.getElem_mem hlt,h⟩
      have w1i:wrap64 ((i:Int)+1)=(i:Int)+1:=wrS (by omega) (by omega)
      have HC:=Aside0.mk hcall
      have HH:=Aside0.mk (And.intro hsn htr)
      clear hcall hsn htr hL hls hln hB hP hne hg1 hg2 hc1 hc2 hl1 hl2 hg3 hg4 hs3 hs4
      unfold encI at HC
      generalize (!gt r ls[i].1 ls[i].2)=b at *
      cases b with
      | true =>
        go_wp2_with (go_at_call 128;refine HC.out.mono ?_;rintro e w1 ⟨rfl,hb,hP⟩;have H1:=Aside0.mk (And.intro hb hP);clear hb hP)
        go_ret
        exact ⟨_,rfl,(decide_eq_true (by omega)).trans (HH.out.2 (by simp)).symm,HB.out.1.trans H1.out.1,H1.out.2⟩
      | false =>
        go_wp2_with (go_at_call 128;refine HC.out.mono ?_;rintro e w1 ⟨rfl,hb,hP⟩;have H1:=Aside0.mk (And.intro hb hP);clear hb hP)
        rw [w1i]
        refine ⟨⟨i+1,by simp,⟨by omega⟩,⟨HH.out.1⟩,⟨HB.out.1.trans H1.out.1,H1.out.2⟩⟩,?_⟩
        simp only [intOf]
        omega
    · have hlb:decide ((i:Int) < (ls.length:Int))=false:=decide_eq_false (by omega)
      have hno:ls.any (fun l=>!gt r l.1 l.2)=false:=by have:=HA.out;rwa [List.take_of_length_le (by omega)] at this
      have HN:=Aside0.mk hno
      clear hL hls hln hB hP hne hno
      go_wp2
      go_ret
      exact ⟨-1,rfl,by rw [HN.out];rfl,HB.out⟩
theorem containsLaw_calls (r:Int→Int) (ls:List (Tm × Tm)) (B b1 b2:Nat) (A:Option Addr) (cap:Nat) (w:World) (hL:HasW w (fun k=>k≠b2) ls A) (hls:LawsGood ls) (hln:ls.length≤1000) (hB:w.heap[B]?=some (.cells #[.map (some b1),.map (some b2)] 120 (0,0))) (hP:Prec w r b1 b2) (hne:B≠b2) :
    Calls Tryz.prog 127 #[.slice A ls.length cap,.func (.func 128) #[] #[.pointer (some ⟨B,0,none⟩)]] w fun e w'=>e=.returned (.bool (ls.any (fun l=>!gt r l.1 l.2)))∧But b2 w w'∧Prec w' r b1 b2:=by
  have HC:=Aside0.mk (indexLaw_calls r ls B b1 b2 A cap w hL hls hln hB hP hne)
  clear hL hls hln hB hP hne
  generalize ls.any (fun l=>!gt r l.1 l.2)=b at *
  generalize ls.length=n at *
  go_enter Tryz.func127,Tryz.ntmps127
  go_wp2_with (go_at_call 147;refine HC.out.mono ?_;rintro e w1 ⟨k,rfl,hk,hb⟩;have H1:=Aside0.mk (And.intro hk hb);clear hb hk)
  go_ret
  rw [←H1.out.1]
  exact ⟨rfl,H1.out.2⟩
theorem proves_calls (r:Int→Int) (ls:List (Tm × Tm)) (b1 b2:Nat) (A:Option Addr) (cap:Nat) (w:World) (ok:Nat→Prop) (hL:HasW w ok ls A) (hls:LawsGood ls) (hln:ls.length≤1000) (hP:Prec w r b1 b2) :
    Calls Tryz.prog 88 #[precV b1 b2,.slice A ls.length cap] w fun e w'=>e=.returned (.bool (provT r ls))∧But b2 w w'∧Prec w' r b1 b2:=by
  obtain ⟨hr,hne,L,hM,hK⟩:=hP
  have hP:Prec w r b1 b2:=⟨hr,hne,L,hM,hK⟩
  have hB1:Below w.heap.size w (w.alloc (.cells #[.map (some b1),.map (some b2)] 120)):=below_alloc (Below.refl _ _) _
  have hlt:=hM.lt
  have HC:=Aside0.mk (containsLaw_calls r ls w.heap.size b1 b2 A cap (w.alloc (.cells #[.map (some b1),.map (some b2)] 120)) ((hL.apart hM).below hB1) hls hln (blk_new w _) (hP.below hB1) (by omega))
  have HB:=Aside0.mk hB1
  clear hL hls hln hP hB1 hlt hr hne hM hK
  unfold provT precV
  generalize ls.any (fun l=>!gt r l.1 l.2)=b at *
  generalize ls.length=n at *
  go_enter Tryz.func88,Tryz.ntmps88
  go_wp2_with (go_at_call 127;refine HC.out.mono ?_;rintro e w1 ⟨rfl,hb,hP⟩;have H1:=Aside0.mk (And.intro hb hP);clear hb hP)
  go_ret
  exact ⟨rfl,(But.of_below HB.out).trans H1.out.1,H1.out.2⟩
theorem indexB_calls (xs:List UInt8) (x:UInt8) (A:Option Addr) (cap:Nat) (w:World) (hc:∀ j (h:j < xs.length),∃ ad,A=some ad∧w.cell? (ad.add j)=some (.int .u8 (xs[j].toNat:Int))) (hln:xs.length≤1000) :
    Calls Tryz.prog 129 #[.slice A xs.length cap,.int .u8 (x.toNat:Int)] w fun e w'=>∃ k:Int,e=.returned (.int .i64 k)∧decide (k≥0)=xs.any (fun n=>n == x)∧w'=w:=by
  have HP:=Aside0.mk (And.intro hc hln)
  clear hc hln
  go_enter Tryz.func129,Tryz.ntmps129
  go_wp2
  go_loopw [8] (fun v8 wr=>∃ (i:Nat),v8=.int .i64 (i:Int)∧Aside0 (i≤xs.length)∧Aside0 ((xs.take i).any (fun n=>n == x)=false)∧wr=w) (fun v8 _=>xs.length - (intOf v8).toNat)
  case atStart=>exact ⟨0,rfl,⟨Nat.zero_le _⟩,⟨rfl⟩,rfl⟩
  case round =>
    obtain ⟨i,rfl,HI,HA,hwr⟩:=hrel
    subst wr
    obtain ⟨hc,hln⟩:=HP.out
    by_cases hlt:i < xs.length
    · have hlb:decide ((i:Int) < (xs.length:Int))=true:=decide_eq_true (by omega)
      obtain ⟨ad,rfl,hc1⟩:=hc i hlt
      have hsn:(xs.take (i+1)).any (fun n=>n == x)=(xs[i] == x):=by
        rw [List.take_succ_eq_append_getElem hlt,List.any_append,HA.out]
        simp
      have htr:(xs[i] == x)=true→xs.any (fun n=>n == x)=true:=fun h=>List.any_eq_true.2 ⟨xs[i],List.getElem_mem hlt,h⟩
      have heq:((x.toNat:Int) == (xs[i].toNat:Int))=(xs[i] == x):=by
        by_cases h:xs[i]=x
        · rw [h];simp
        · rw [beq_eq_false_iff_ne.2 h]
          refine beq_eq_false_iff_ne.2 (fun e=>h ?_)
          exact (UInt8.toNat_inj.1 (by omega)).symm
      have w1i:wrap64 ((i:Int)+1)=(i:Int)+1:=wrp i (by omega)
      generalize (xs[i] == x)=b at *
      generalize xs[i]=y at *
      have HH:=Aside0.mk (And.intro hsn htr)
      clear hsn htr hc hln
      cases b with
      | true =>
        go_wp2
        go_ret
        exact ⟨_,rfl,(decide_eq_true (by omega)).trans (HH.out.2 (by simp)).symm,rfl⟩
      | false =>
        go_wp2
        try rw [w1i]
        refine ⟨⟨i+1,by simp,⟨by omega⟩,⟨HH.out.1⟩,by first|rfl|trivial⟩,?_⟩
        simp only [intOf]
        omega
    · have hlb:decide ((i:Int) < (xs.length:Int))=false:=decide_eq_false (by omega)
      have hno:xs.any (fun n=>n == x)=false:=by have:=HA.out;rwa [List.take_of_length_le (by omega)] at this
      have HN:=Aside0.mk hno
      clear hc hln hno
      go_wp2
      go_ret
      exact ⟨-1,rfl,by rw [HN.out];rfl,rfl⟩
theorem containsB_calls (xs:List UInt8) (x:UInt8) (A:Option Addr) (cap:Nat) (w:World) (hc:∀ j (h:j < xs.length),∃ ad,A=some ad∧w.cell? (ad.add j)=some (.int .u8 (xs[j].toNat:Int))) (hln:xs.length≤1000) :
    Calls Tryz.prog 89 #[.slice A xs.length cap,.int .u8 (x.toNat:Int)] w fun e w'=>e=.returned (.bool (xs.any (fun n=>n == x)))∧w'=w:=by
  have HC:=Aside0.mk (indexB_calls xs x A cap w hc hln)
  clear hc hln
  generalize xs.any (fun n=>n == x)=r at *
  generalize xs.length=n at *
  go_enter Tryz.func89,Tryz.ntmps89
  go_wp2_with (go_at_call 129;refine HC.out.mono ?_;rintro e w1 ⟨k,rfl,hk,h1⟩;subst w1;have H1:=Aside0.mk hk;clear hk)
  go_ret
  rw [←H1.out]
  exact ⟨rfl,rfl⟩
theorem But.new {g h:Nat} {a b c:World} (h1:But g a b) (h2:But h b c) (hh:a.heap.size≤h):But g a c :=
  ⟨h2.os.trans h1.os,h2.tape.trans h1.tape,h2.output.trans h1.output,Nat.le_trans h1.size h2.size,fun k hk hg=>(h2.block k (Nat.lt_of_lt_of_le hk h1.size) (by omega)).trans (h1.block k hk hg)⟩
def c6:List UInt8:=[97,98,99,100,101,102]
def extO (ls:List (Tm × Tm)):Nat→List UInt8→Option (List UInt8)
  | 0,L=>if provT (rankP (B8 L)) ls then some L else none
  | n+1,L=>c6.findSome? fun c=>if L.any (fun x=>x == c) then none else extO ls n (L++[c])
theorem nodup_len:∀ (L M:List UInt8),L.Nodup→(∀ x,x∈L→x∈M)→L.length≤M.length
  | [],M,_,_=>Nat.zero_le _
  | x :: L,M,hn,h=>by
    rw [List.nodup_cons] at hn
    have hx:=h x (by simp)
    have:=nodup_len L (M.erase x) hn.2 (fun y hy=>(List.mem_erase_of_ne (fun e=>hn.1 (by rw [←e];exact hy))).2 (h y (by simp [hy])))
    rw [List.length_erase_of_mem hx] at this
    have:=List.length_pos_of_mem hx
    rw [List.length_cons]
    omega
theorem full6 {L:List UInt8} (h6:L.length=6) (hn:L.Nodup) (hc:∀ x,x∈L→x∈c6):∀ c,c∈c6→c∈L:=by
  intro c hcm
  by_cases h:c∈L
  · exact h
  · exfalso
    have:=nodup_len L (c6.erase c) hn (fun y hy=>(List.mem_erase_of_ne (fun e=>h (by rw [←e];exact hy))).2 (hc y hy))
    rw [List.length_erase_of_mem hcm,h6] at this
    simp [c6] at this
theorem putL_new {L:List (Int × Value)} {a:Int} {v:Value} (h:a∉L.map (·.1)):putL L a v=L++[(a,v)]:=by
  induction L with
  | nil=>rfl
  | cons q L ih =>
    rw [List.map_cons,List.mem_cons] at h
    rw [putL,if_neg (fun e=>h (.inl e.symm)),ih (fun e=>h (.inr e))]
    rfl
theorem bAt_list (L:List UInt8) (k:Nat) (h:k < L.length):bAt (B8 L) k=(L[k].toNat:Int):=by
  unfold bAt
  rw [dif_pos (by rw [B8_size];exact h)]
  rfl
theorem rkL_pairs {L:List UInt8} (hn:L.Nodup):∀ k,k≤L.length→(rkL (B8 L) k).map (·.1)=(L.take k).map (fun c=>(c.toNat:Int))
  | 0,_=>by simp [rkL]
  | k+1,h=>by
    have ih:=rkL_pairs hn k (by omega)
    have hk:k < L.length:=by omega
    rw [rkL,bAt_list L k hk,putL_new,List.map_append,ih,List.take_succ_eq_append_getElem hk,List.map_append]
    · rfl
    · rw [ih]
      intro hm
      obtain ⟨x,hx,he⟩:=List.mem_map.1 hm
      have hxe:x=L[k]:=UInt8.toNat_inj.1 (by omega)
      subst hxe
      obtain ⟨j,hj,he2⟩:=List.getElem_of_mem hx
      rw [List.length_take] at hj
      rw [List.getElem_take] at he2
      exact absurd ((List.getElem_inj hn).1 he2) (by omega)
theorem getL_some {L:List (Int × Value)} {a:Int} (h:a∈L.map (·.1)):(getL L a).isSome=true:=by
  obtain ⟨q,hq,rfl⟩:=List.mem_map.1 h
  unfold getL
  rw [Option.isSome_map,List.find?_isSome]
  exact ⟨q,hq,by simp⟩
theorem prec_perm {L:List UInt8} (h6:L.length=6) (hn:L.Nodup) (hc:∀ x,x∈L→x∈c6):precOk (B8 L)=true:=by
  have hk:=rkL_pairs hn L.length (Nat.le_refl _)
  rw [List.take_length] at hk
  unfold precOk
  rw [B8_size,decide_eq_true h6,Bool.true_and,decide_eq_true (by have:=congrArg List.length hk;simp at this;omega),Bool.true_and,List.all_eq_true]
  intro c hcm
  refine getL_some ?_
  rw [hk]
  have hx:∃ x:UInt8,x∈c6∧(x.toNat:Int)=c:=by
    simp only [List.mem_cons,List.not_mem_nil,or_false] at hcm
    rcases hcm with rfl|rfl|rfl|rfl|rfl|rfl
    · exact ⟨97,by decide,rfl⟩
    · exact ⟨98,by decide,rfl⟩
    · exact ⟨99,by decide,rfl⟩
    · exact ⟨100,by decide,rfl⟩
    · exact ⟨101,by decide,rfl⟩
    · exact ⟨102,by decide,rfl⟩
  obtain ⟨x,hx,rfl⟩:=hx
  exact List.mem_map.2 ⟨x,full6 h6 hn hc x hx,rfl⟩
theorem known_nil (r:Int→Int):Known r []:=fun a b v _ _ h=>by cases h
def ESt (w:World) (ls:List (Tm × Tm)) (bo bl be:Nat) (AL:Option Addr) (cL:Nat):Prop :=
  (∃ o,w.heap[bo]?=some (.cells #[.string o] 9 (0,0)))∧w.heap[bl]?=some (.cells #[.slice AL ls.length cL] 109 (0,0)) ∧
  w.heap[be]?=some (.cells #[.func (.func 86) #[] #[.pointer (some ⟨bo,0,none⟩),.pointer (some ⟨bl,0,none⟩),.pointer (some ⟨be,0,none⟩)]] 31 (0,0))∧HasW w (fun k=>k≠bo) ls AL
theorem ESt.ne {w:World} {ls:List (Tm × Tm)} {bo bl be:Nat} {AL:Option Addr} {cL:Nat} (h:ESt w ls bo bl be AL cL):bl≠bo∧be≠bo:=by
  obtain ⟨⟨o,h1⟩,h2,h3,h4⟩:=h
  constructor
  · intro e
    rw [e,h1] at h2
    injection h2 with h2
    injection h2 with _ h2
    exact absurd h2 (by decide)
  · intro e
    rw [e,h1] at h3
    injection h3 with h3
    injection h3 with _ h3
    exact absurd h3 (by decide)
theorem ESt.but {w w':World} {ls:List (Tm × Tm)} {bo bl be:Nat} {AL:Option Addr} {cL:Nat} (h:ESt w ls bo bl be AL cL) (hb:But bo w w') (ho:∃ o,w'.heap[bo]?=some (.cells #[.string o] 9 (0,0))):ESt w' ls bo bl be AL cL:=by
  have hn:=h.ne
  obtain ⟨h1,h2,h3,h4⟩:=h
  exact ⟨ho,(hb.block _ (gl_ h2) hn.1).trans h2,(hb.block _ (gl_ h3) hn.2).trans h3,h4.but hb⟩
def ExtOk (ls:List (Tm × Tm)) (n:Nat):Prop:=∀ (L:List UInt8) (w:World) (bo bl be:Nat) (AL:Option Addr) (cL:Nat),L.length+n=6→L.Nodup→(∀ x,x∈L→x∈c6)→ESt w ls bo bl be AL cL →
  Calls Tryz.prog 86 #[.string (B8 L),.pointer (some ⟨bo,0,none⟩),.pointer (some ⟨bl,0,none⟩),.pointer (some ⟨be,0,none⟩)] w fun e w'=>e=.returned (.bool (extO ls n L).isSome)∧But bo w w'∧∃ o,w'.heap[bo]?=some (.cells #[.string o] 9 (0,0))∧∀ q,extO ls n L=some q→o=B8 q
set_option maxRecDepth 100000 in
set_option maxHeartbeats 2000000 in
theorem ext_base (ls:List (Tm × Tm)) (hls:LawsGood ls) (hln:ls.length≤1000):ExtOk ls 0:=by
  intro L w bo bl be AL cL h6 hnd hc6 hS
  have hok:=prec_perm (by omega) hnd hc6
  have hnp:=newPrec_calls (B8 L) (by rw [B8_size];omega)
  have hsz:(B8 L).size=6:=by rw [B8_size];omega
  have hpv:=fun (b1 b2:Nat) (w':World) (hL:HasW w' (fun k=>k≠bo) ls AL) (hP:Prec w' (rankP (B8 L)) b1 b2)=>proves_calls (rankP (B8 L)) ls b1 b2 AL cL w' _ hL hls hln hP
  have hex:extO ls 0 L=if provT (rankP (B8 L)) ls then some L else none:=rfl
  rw [hex]
  unfold OutP at hnp
  rw [hok] at hnp
  dsimp only at hnp
  obtain ⟨p,hp⟩:∃ p,p=B8 L:=⟨_,rfl⟩
  rw [←hp] at hnp hsz hpv ⊢
  obtain ⟨b,hb⟩:∃ b,b=provT (rankP p) ls:=⟨_,rfl⟩
  rw [←hb] at hpv ⊢
  obtain ⟨R,hR⟩:∃ R,R=(if b=true then some L else none):=⟨_,rfl⟩
  rw [←hR]
  have HE:Aside0 (R.isSome=b∧∀ q,R=some q→p=B8 q):=⟨by rw [hR];cases b<;>rfl,fun q hq=>by
    rw [hR] at hq
    cases b with
    | true=>injection hq with hq;rw [hp,hq]
    | false=>cases hq⟩
  have HNP:=Aside0.mk hnp
  have HPV:=Aside0.mk hpv
  have hne:=hS.ne
  obtain ⟨⟨o,h1⟩,h2,h3,h4⟩:=hS
  have hz:=blk_frozen h1 0
  have hd:w.cell? ⟨bo,0,none⟩=some (.string o):=blk_cell h1 0
  have hbt:But bo w (w.setCell ⟨bo,0,none⟩ (.string p)):=But.set w 0 _
  have HW:Aside0 (But bo w (w.setCell ⟨bo,0,none⟩ (.string p))∧(w.setCell ⟨bo,0,none⟩ (.string p)).heap[bo]?=some (.cells #[.string p] 9 (0,0))∧(w.setCell ⟨bo,0,none⟩ (.string p)).heap[bl]?=some (.cells #[.slice AL ls.length cL] 109 (0,0))∧HasW (w.setCell ⟨bo,0,none⟩ (.string p)) (fun k=>k≠bo) ls AL) :=
    ⟨hbt,blk_setCell h1 _,(hbt.block _ (gl_ h2) hne.1).trans h2,h4.but hbt⟩
  clear hok hnp hpv hex hp hb hbt hR hne h1 h2 h3 h4 h6 hnd hc6
  go_enter Tryz.func86,Tryz.ntmps86
  go_wp2
  obtain ⟨w1,hw1⟩:∃ w1,w1=w.setCell ⟨bo,0,none⟩ (.string p):=⟨_,rfl⟩
  rw [←hw1] at HW ⊢
  obtain ⟨hbt,hbo,hbl,hL⟩:=HW.out
  clear hw1 hz hd HW
  have hy0:w1.drew.cell? ⟨bl,0,none⟩=some (.slice AL ls.length cL):=blk_cell (blk_drew hbl) 0
  refine start_ (n:=5) (S:=fun w'=>w'.cell? ⟨bl,0,none⟩=some (.slice AL ls.length cL)) (ds:=[3]) (bm 5 0) (by kernel_rfl) rfl rfl (hy0) (fun hHeld=>?_)
  refine pk_ 0 12 (bm 5 1) ?_
  refine take_ (i:=2) (N:=some 14) (v:=?_) (a':=?_) (bm 5 5) rfl rfl (by kernel_rfl) (fun _ _ _ h=>h) (Or.inl ⟨by rfl,?_⟩) hHeld ?_ ?_;rotate_left
  · intro w' s0
    go_simp
    with_reducible rfl
  rotate_left;exact tP_
  refine one_ (i:=1) (N:=some 13) (bm 5 7) rfl rfl (by kernel_rfl) (by decide) (fun K hK=>?_)
  refine goesD_ Tryz.func87 (by kernel_rfl) rfl #[.string p] (by rfl) rfl rfl (by simp only [List.map_toArray,List.map_cons,List.map_nil];rfl) ?_
  refine (HNP.out _).mono ?_
  rintro e w5 ⟨hb5,b1,b2,rfl,hne,hs1,hs2,hRk,hMp⟩
  refine .inl ⟨_,rfl,?_⟩
  have hb5w:Below w1.heap.size w1 w5:=⟨hb5.os,hb5.tape,hb5.output,hb5.size,hb5.block⟩
  have hP5:Prec w5 (rankP p) b1 b2:=⟨hRk,hne,[],hMp,known_nil _⟩
  have hc50:w5.cell? ⟨bl,0,none⟩=some (.slice AL ls.length cL):=blk_cell (blk_below hbl hb5w) 0
  refine hK.out _ _ (hc50) (fun hHeld=>?_)
  clear hK K
  refine norm_ (a':=?_) ?_ ?_;rotate_left;(show Act.put _ (some 13) _=_;exact tP_)
  refine last_ (i:=3) (N:=some 15) (bm 5 15) rfl rfl (by kernel_rfl) (by decide) (fun K hK=>?_)
  refine goesD_ Tryz.func88 (by kernel_rfl) rfl #[precV b1 b2,.slice AL ls.length cL] (by rfl) rfl rfl (by simp only [List.map_toArray,List.map_cons,List.map_nil];rfl) ?_
  refine (HPV.out b1 b2 w5 (hL.below hb5w) hP5).mono ?_
  rintro e w6 ⟨rfl,hb6,hP6⟩
  refine .inl ⟨_,rfl,?_⟩
  refine hK.out _ _ ?_
  clear hK K
  refine norm_ (a':=?_) ?_ ?_;rotate_left;(show Act.put _ (some 15) _=_;exact tP_)
  refine pk_ 4 5 (bm 5 31) ?_
  refine done_ (by kernel_rfl) ?_
  go_wp2
  go_ret
  rw [HE.out.1]
  refine ⟨rfl,hbt.trans ?_,p,?_,HE.out.2⟩
  · exact (But.of_below hb5w).new hb6 (Nat.le_trans (by simp) hs2)
  · exact (hb6.block _ (Nat.lt_of_lt_of_le (gl_ hbo) hb5w.size) (fun e=>by have:=(gl_ hbo);rw [e] at this;exact absurd (Nat.le_trans (by simp) hs2) (Nat.not_le_of_gt this))).trans ((hb5w.block _ (gl_ hbo)).trans hbo)
end Go.Proofs.YtaafeallcaiooaaGreat.Pr
