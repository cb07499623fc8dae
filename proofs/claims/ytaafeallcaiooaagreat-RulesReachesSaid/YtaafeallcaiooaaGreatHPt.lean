/- Reading a term's text gives the term back, and what is read is the text of what comes out. -/
import Derived.Test.YtaafeallcaiooaaGreatHLw
import Derived.Test.YtaafeallcaiooaaGreatHGt0
namespace Go.Proofs.YtaafeallcaiooaaGreat.Pr
open Go.RowKit Go.Proofs.Zw Go.Proofs.Zl Go.Proofs.Zm
set_option linter.unusedVariables false
set_option linter.unusedSimpArgs false
def B8 (l:List UInt8):ByteArray:=⟨l.toArray⟩
theorem B8_list (l:List UInt8):(B8 l).data.toList=l:=by simp [B8]
theorem B8_of (s:ByteArray):B8 s.data.toList=s:=by cases s;simp [B8]
theorem B8_size (l:List UInt8):(B8 l).size=l.length:=by simp [B8,ByteArray.size]
theorem hdB_nil:hdB (B8 [])=0:=rfl
theorem hdB_cons (c:UInt8) (l:List UInt8):hdB (B8 (c :: l))=(c.toNat:Int):=by
 have h0:0 < (B8 (c :: l)).size:=by rw [B8_size];simp
 unfold hdB
 rw [if_neg (by omega)]
 have e:bt (B8 (c :: l)) 0=(((B8 (c :: l))[0]'h0).toNat:Int):=by simp [bt,h0]
 rw [e]
 rfl
theorem tlB_cons (c:UInt8) (l:List UInt8):tlB (B8 (c :: l))=B8 l:=by
 unfold tlB
 apply ByteArray.ext
 simp [B8,ByteArray.size]
def txM:Nat→List Tm→List UInt8
 | _,[]=>[]
 | i,t :: l=>UInt8.ofNat (mark i).toNat :: (t.tx++txM (i+1) l)
theorem tx_app2 (s:Int) (l:List Tm) (h:l.length≤2):(Tm.app s l).tx=ch s :: (if l.length=0 then [] else txM 0 l++[41]):=by
 match l,h with
 | [],_=>rw [tx_app];rfl
 | [x],_=>rw [tx_app];simp [txM,mark]
 | [x,y],_=>rw [tx_app];simp [txM,mark]
theorem ch_toNat {c:Int} (h:0≤c∧c≤255):(((ch c).toNat:Nat):Int)=c:=by
 unfold ch
 simp
 omega
theorem ch_of (c:UInt8):ch (c.toNat:Int)=c:=by
 unfold ch
 simp
theorem mark_nat (i:Nat):(((UInt8.ofNat (mark i).toNat).toNat:Nat):Int)=mark i:=by
 unfold mark
 split<;>rfl
theorem mark_of {i:Nat} {c:UInt8} (h:(c.toNat:Int)=mark i):c=UInt8.ofNat (mark i).toNat:=by
 rw [←h]
 simp
theorem pL_back (q:Nat) (ih:∀ (t:Tm) (r:List UInt8) (n:Int),t.good→t.size≤q→n+t.size≤60→pT q (B8 (t.tx++r)) n=some (t,B8 r,n+t.size)) :
  ∀ (l:List Tm) (i:Nat) (r:List UInt8) (n:Int),Tm.goods l→Tm.sizes l≤q→n+Tm.sizes l≤60→pL (pT q) l.length i (B8 (txM i l++r)) n=some (l,B8 r,n+Tm.sizes l)
 | [],i,r,n,hg,hq,hn=>by
  rw [List.length_nil,pL,txM,Tm.sizes,List.nil_append,Int.add_zero]
 | t :: l,i,r,n,hg,hq,hn=>by
  rw [Tm.goods] at hg
  rw [Tm.sizes] at hq hn
  have h1:=Tm.sizes_nn l
  have h2:=Tm.size_pos t
  rw [List.length_cons,pL,txM,List.cons_append,hdB_cons,mark_nat,if_pos rfl,tlB_cons,List.append_assoc,ih t _ n hg.1 (by omega) (by omega),Option.bind_some]
  dsimp only
  rw [pL_back q ih l (i+1) r (n+t.size) hg.2 (by omega) (by omega),Tm.sizes]
  simp only [Option.map_some]
  rw [Int.add_assoc]
theorem pT_back:∀ (q:Nat) (t:Tm) (r:List UInt8) (n:Int),t.good→t.size≤q→n+t.size≤60→pT q (B8 (t.tx++r)) n=some (t,B8 r,n+t.size)
 | 0,t,r,n,hg,hq,hn=>by have:=Tm.size_pos t;omega
 | q+1,.var c,r,n,hg,hq,hn=>by
  rw [Tm.good] at hg
  rw [Tm.size] at hn ⊢
  rw [pT,if_neg (by omega),Tm.tx,List.cons_append,hdB_cons,ch_toNat (by omega),if_pos hg,tlB_cons]
  rfl
 | q+1,.app s l,r,n,hg,hq,hn=>by
  have hl2:=good_len hg
  rw [Tm.good] at hg
  rw [Tm.size] at hq hn ⊢
  have h1:=Tm.sizes_nn l
  rw [pT,if_neg (by omega),tx_app2 s l hl2,List.cons_append,hdB_cons,ch_toNat (by omega),if_neg (by omega),if_pos hg.1,tlB_cons]
  have hp:(nParts s).toNat=l.length:=by omega
  rw [hp]
  by_cases h0:l.length=0
  ·obtain rfl:l=[]:=List.length_eq_zero_iff.1 h0
   rw [if_pos List.length_nil]
   have h3:¬ nParts s > 0:=by have:=hg.2.1;simp at this;omega
   rw [List.length_nil,pL,Option.bind_some,if_neg h3,Tm.sizes]
   simp
  ·rw [if_neg h0,List.append_assoc,pL_back q (pT_back q) l 0 _ (n+1) hg.2.2 (by omega) (by omega),Option.bind_some]
   have h3:nParts s > 0:=by omega
   rw [if_pos h3]
   dsimp only
   rw [List.cons_append,List.nil_append,hdB_cons,if_pos (by decide),tlB_cons,Int.add_assoc]
theorem readT_back {t:Tm} (hg:t.good) (hs:t.size≤60):readT t.text=some t:=by
 unfold readT
 have h:=pT_back 61 t [] 0 hg (by omega) (by omega)
 rw [List.append_nil] at h
 have e:t.text=B8 t.tx:=rfl
 rw [e,h,Option.bind_some]
 rfl
theorem hd_cons {s:ByteArray} (h:hdB s≠0):s.data.toList=ch (hdB s) :: (tlB s).data.toList:=by
 rw [←B8_of s] at h ⊢
 cases hs:s.data.toList with
 | nil=>rw [hs,hdB_nil] at h;exact absurd rfl h
 | cons c l=>rw [hdB_cons,tlB_cons,ch_of,B8_list,B8_list]
theorem pL_text {f:ByteArray→Int→Option (Tm × ByteArray × Int)} (hf:∀ s n t s' n',f s n=some (t,s',n')→s.data.toList=t.tx++s'.data.toList):∀ m i s n l s' n',pL f m i s n=some (l,s',n')→l.length=m∧s.data.toList=txM i l++s'.data.toList
 | 0,i,s,n,l,s',n',h=>by
  rw [pL] at h
  injection h with h
  injection h with h1 h2
  injection h2 with h2 h3
  subst h1 h2
  exact ⟨rfl,rfl⟩
 | m+1,i,s,n,l,s',n',h=>by
  rw [pL] at h
  split at h
  ·rename_i hm
   cases hr:f (tlB s) n with
   | none=>rw [hr] at h;cases h
   | some r =>
    obtain ⟨t,s2,n2⟩:=r
    rw [hr,Option.bind_some] at h
    cases hr2:pL f m (i+1) s2 n2 with
    | none=>rw [hr2] at h;cases h
    | some r2 =>
     obtain ⟨l2,s3,n3⟩:=r2
     rw [hr2] at h
     injection h with h
     injection h with h1 h2
     injection h2 with h2 h3
     subst h1 h2
     have a:=hf _ _ _ _ _ hr
     have b:=pL_text hf m (i+1) s2 n2 l2 s3 n3 hr2
     have hc:=hd_cons (s:=s) (by rw [hm];unfold mark;split<;>decide)
     refine ⟨by rw [List.length_cons,b.1],?_⟩
     rw [hc,hm,a,b.2,txM]
     simp [ch]
  ·cases h
theorem pT_text:∀ q s n t s' n',pT q s n=some (t,s',n')→s.data.toList=t.tx++s'.data.toList
 | 0,s,n,t,s',n',h=>by cases h
 | q+1,s,n,t,s',n',h=>by
  rw [pT] at h
  split at h
  ·cases h
  ·split at h
   ·rename_i hv
    injection h with h
    injection h with h1 h2
    injection h2 with h2 h3
    subst h1 h2
    rw [hd_cons (s:=s) (by omega),Tm.tx]
    rfl
   ·split at h
    ·rename_i hv
     have hc:=hd_cons (s:=s) (by omega)
     cases hr:pL (pT q) (nParts (hdB s)).toNat 0 (tlB s) (n+1) with
     | none=>rw [hr] at h;cases h
     | some r =>
      obtain ⟨l,s2,n2⟩:=r
      have a:=pL_text (pT_text q) _ _ _ _ _ _ _ hr
      rw [hr,Option.bind_some] at h
      dsimp only at h
      have hl2:l.length≤2:=by have:=a.1;unfold nParts at this;omega
      split at h
      ·rename_i hp
       split at h
       ·rename_i h41
        injection h with h
        injection h with h1 h2
        injection h2 with h2 h3
        subst h1 h2
        have hc2:=hd_cons (s:=s2) (by omega)
        rw [hc,a.2,tx_app2 _ _ hl2,if_neg (by omega),hc2,h41]
        simp [ch]
       ·cases h
      ·rename_i hp
       injection h with h
       injection h with h1 h2
       injection h2 with h2 h3
       subst h1 h2
       have hl0:l=[]:=List.length_eq_zero_iff.1 (by omega)
       subst hl0
       rw [hc,a.2,tx_app2 _ _ hl2,if_pos List.length_nil]
       rfl
    ·cases h
theorem readT_text {s:ByteArray} {t:Tm} (h:readT s=some t):s=t.text:=by
 unfold readT at h
 cases hr:pT 61 s 0 with
 | none=>rw [hr] at h;cases h
 | some r =>
  obtain ⟨t',s',n'⟩:=r
  rw [hr,Option.bind_some] at h
  dsimp only at h
  split at h
  ·rename_i hz
   injection h with h
   subst h
   have a:=pT_text 61 s 0 _ _ _ hr
   have h0:s'.data.toList=[]:=by
    apply List.length_eq_zero_iff.1
    rw [Array.length_toList]
    exact hz
   rw [h0,List.append_nil] at a
   rw [←B8_of s,a]
   rfl
  ·cases h
theorem readT_iff {s:ByteArray} {t:Tm}:readT s=some t↔t.good∧t.size≤60∧s=t.text :=
 ⟨fun h=>⟨(readT_good h).1,(readT_good h).2,readT_text h⟩,fun h=>by rw [h.2.2];exact readT_back h.1 h.2.1⟩
end Go.Proofs.YtaafeallcaiooaaGreat.Pr
