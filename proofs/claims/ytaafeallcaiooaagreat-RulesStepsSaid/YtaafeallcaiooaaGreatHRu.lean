/- the reference's Rules says whether newLaws takes them; laws and few cut lists. -/
import Derived.Test.YtaafeallcaiooaaGreatPr0
import Derived.Test.YtaafeallcaiooaaGreatHOr
import Derived.Test.YtaafeallcaiooaaGreatPrA11
import Derived.Test.YtaafeallcaiooaaGreatHPn
import Derived.Test.YtaafeallcaiooaaGreatPrB1
import Derived.Test.YtaafeallcaiooaaGreatHOt
import Derived.Test.YtaafeallcaiooaaGreatPrA2
namespace Go.Proofs.YtaafeallcaiooaaGreat.Pr
open Go.RowKit Go.Proofs.Zw Go.Proofs.Zl Go.Proofs.Zm
set_option linter.unusedVariables false
set_option linter.unusedSimpArgs false
def Evt {α:Type} (g:Nat→Option α) (r:α):Prop:=∃ K,∀ k,K≤k→g k=some r
theorem Evt.bind {α β:Type} {g:Nat→Option α} {h:Nat→α→Option β} {a:α} {b:β} (hg:Evt g a) (hh:Evt (fun k=>h k a) b):Evt (fun k=>(g k).bind (h k)) b:=by
  obtain ⟨K,h1⟩:=hg
  obtain ⟨K',h2⟩:=hh
  refine ⟨max K K',fun k hk=>?_⟩
  show (g k).bind (h k)=some b
  rw [h1 k (by omega),Option.bind_some]
  exact h2 k (by omega)
theorem Evt.ex {α:Type} {g:Nat→Option α} {r:α} (h:Evt g r):∃ k,g k=some r:=by
  obtain ⟨K,h⟩:=h
  exact ⟨K,h K (Nat.le_refl _)⟩
theorem Evt.congr {α:Type} {g g':Nat→Option α} {r:α} (h:Evt g r) (e:∀ k,g' k=g k):Evt g' r:=by
  obtain ⟨K,h⟩:=h
  exact ⟨K,fun k hk=>(e k).trans (h k hk)⟩
theorem Evt.val {α:Type} {g:Nat→Option α} {r r':α} (h:Evt g r) (e:r=r'):Evt g r':=e ▸ h
theorem Evt.succ {α:Type} {g:Nat→Option α} {r:α} (h:Evt (fun k=>g (k+1)) r):Evt g r:=by
  obtain ⟨K,h⟩:=h
  refine ⟨K+1,fun k hk=>?_⟩
  obtain ⟨m,rfl⟩:∃ m,k=m+1:=⟨k - 1,by omega⟩
  exact h m (by omega)
theorem Evt.step {α:Type} {g g':Nat→Option α} {r:α} (e:∀ k,g (k+1)=g' k) (h:Evt g' r):Evt g r:=Evt.succ (h.congr e)
theorem Evt.now {α:Type} {g:Nat→Option α} {r:α} (e:∀ k,g (k+1)=some r):Evt g r:=Evt.succ ⟨0,fun k _=>e k⟩
theorem Evt.all {α:Type} {g:Nat→Option α} {r:α} (e:∀ k,g k=some r):Evt g r:=⟨0,fun k _=>e k⟩
theorem Evt.pos {α:Type} {c:Prop} [Decidable c] {g g':Nat→Option α} {r:α} (hc:c) (h:Evt g r):Evt (fun k=>if c then g k else g' k) r:=h.congr fun _=>if_pos hc
theorem Evt.neg {α:Type} {c:Prop} [Decidable c] {g g':Nat→Option α} {r:α} (hc:¬ c) (h:Evt g' r):Evt (fun k=>if c then g k else g' k) r:=h.congr fun _=>if_neg hc
theorem B8_app' (a b:List UInt8):B8 a++B8 b=B8 (a++b):=by
 apply ByteArray.ext
 simp [B8]
theorem text_size (t:Tm):t.text.size=t.tx.length:=by
 show (B8 t.tx).size=_
 exact B8_size _
theorem text_le {t:Tm} (h:t.size≤1000):t.text.size≤4000:=by
 have:=tx_le t
 rw [text_size]
 omega
theorem B8_one (c:UInt8):(⟨#[c]⟩:ByteArray)=B8 [c]:=rfl
theorem text1 (c:UInt8) (t:Tm):(⟨#[c]⟩:ByteArray)++⟨#[40]⟩++t.text++⟨#[41]⟩=(Tm.app (c.toNat:Int) [t]).text:=by
 show (⟨#[c]⟩:ByteArray)++⟨#[40]⟩++B8 t.tx++⟨#[41]⟩=B8 _
 rw [B8_one,B8_one,B8_one,B8_app',B8_app',B8_app',tx_app,ch_of]
 rfl
theorem text2 (c:UInt8) (t u:Tm):(⟨#[c]⟩:ByteArray)++⟨#[40]⟩++t.text++⟨#[44]⟩++u.text++⟨#[41]⟩=(Tm.app (c.toNat:Int) [t,u]).text:=by
 show (⟨#[c]⟩:ByteArray)++⟨#[40]⟩++B8 t.tx++⟨#[44]⟩++B8 u.tx++⟨#[41]⟩=B8 _
 rw [B8_one,B8_one,B8_one,B8_one,B8_app',B8_app',B8_app',B8_app',B8_app',tx_app,ch_of]
 rfl
theorem app1_good {c:Int} {t:Tm} (hc:c=99∨c=100) (h:t.good):(Tm.app c [t]).good:=by
 rw [Tm.good,Tm.goods,Tm.goods]
 rcases hc with rfl|rfl<;>exact ⟨by omega,by simp [nParts],h,trivial⟩
theorem app2_good {c:Int} {t u:Tm} (hc:c=101∨c=102) (h:t.good) (h2:u.good):(Tm.app c [t,u]).good:=by
 rw [Tm.good,Tm.goods,Tm.goods,Tm.goods]
 rcases hc with rfl|rfl<;>exact ⟨by omega,by simp [nParts],h,h2,trivial⟩
theorem size1 (c:Int) (t:Tm):(Tm.app c [t]).size=1+t.size:=by rw [Tm.size,Tm.sizes,Tm.sizes];omega
theorem size2 (c:Int) (t u:Tm):(Tm.app c [t,u]).size=1+t.size+u.size:=by rw [Tm.size,Tm.sizes,Tm.sizes,Tm.sizes];omega
def ltT (x:Int):Tm:=if x % 5=0 then .app 97 [] else if x % 5=1 then .app 98 [] else if x % 5=2 then .var 120 else if x % 5=3 then .var 121 else .var 122
theorem ltT_good (x:Int):(ltT x).good∧(ltT x).size=1:=by
 unfold ltT
 split
 ·exact ⟨by rw [Tm.good,Tm.goods];exact ⟨by omega,by decide,trivial⟩,by rw [Tm.size,Tm.sizes];rfl⟩
 ·split
  ·exact ⟨by rw [Tm.good,Tm.goods];exact ⟨by omega,by decide,trivial⟩,by rw [Tm.size,Tm.sizes];rfl⟩
  ·split
   ·exact ⟨by rw [Tm.good];omega,by rw [Tm.size]⟩
   ·split
    ·exact ⟨by rw [Tm.good];omega,by rw [Tm.size]⟩
    ·exact ⟨by rw [Tm.good];omega,by rw [Tm.size]⟩
theorem j0_l0 (s:ByteArray) (a1 a2:Int) (k:Nat):nl_grow.j0 (k+1) s a1 a2 0 true=some ((ltT 0).text,wrap64 (a1+1)):=by kernel_rfl
theorem j0_l1 (s:ByteArray) (a1 a2:Int) (k:Nat):nl_grow.j0 (k+1) s a1 a2 1 true=some ((ltT 1).text,wrap64 (a1+1)):=by kernel_rfl
theorem j0_l2 (s:ByteArray) (a1 a2:Int) (k:Nat):nl_grow.j0 (k+1) s a1 a2 2 true=some ((ltT 2).text,wrap64 (a1+1)):=by kernel_rfl
theorem j0_l3 (s:ByteArray) (a1 a2:Int) (k:Nat):nl_grow.j0 (k+1) s a1 a2 3 true=some ((ltT 3).text,wrap64 (a1+1)):=by kernel_rfl
theorem j0_l4 (s:ByteArray) (a1 a2:Int) (k:Nat):nl_grow.j0 (k+1) s a1 a2 4 true=some ((ltT 4).text,wrap64 (a1+1)):=by kernel_rfl
theorem j0_l5 (s:ByteArray) (a1 a2:Int) (k:Nat):nl_grow.j0 (k+1) s a1 a2 5 true=some ((ltT 5).text,wrap64 (a1+1)):=by kernel_rfl
theorem j0_l6 (s:ByteArray) (a1 a2:Int) (k:Nat):nl_grow.j0 (k+1) s a1 a2 6 true=some ((ltT 6).text,wrap64 (a1+1)):=by kernel_rfl
theorem j0_l7 (s:ByteArray) (a1 a2:Int) (k:Nat):nl_grow.j0 (k+1) s a1 a2 7 true=some ((ltT 7).text,wrap64 (a1+1)):=by kernel_rfl
theorem j0_l8 (s:ByteArray) (a1 a2:Int) (k:Nat):nl_grow.j0 (k+1) s a1 a2 8 true=some ((ltT 8).text,wrap64 (a1+1)):=by kernel_rfl
theorem j0_l9 (s:ByteArray) (a1 a2:Int) (k:Nat):nl_grow.j0 (k+1) s a1 a2 9 true=some ((ltT 9).text,wrap64 (a1+1)):=by kernel_rfl
theorem j0_l10 (s:ByteArray) (a1 a2:Int) (k:Nat):nl_grow.j0 (k+1) s a1 a2 10 true=some ((ltT 10).text,wrap64 (a1+1)):=by kernel_rfl
theorem j0_letter (s:ByteArray) (a1 a2 x:Int) (hx:0≤x∧x≤10) (k:Nat):nl_grow.j0 (k+1) s a1 a2 x true=some ((ltT x).text,wrap64 (a1+1)):=by
 have:x=0∨x=1∨x=2∨x=3∨x=4∨x=5∨x=6∨x=7∨x=8∨x=9∨x=10:=by omega
 rcases this with rfl|rfl|rfl|rfl|rfl|rfl|rfl|rfl|rfl|rfl|rfl
 ·exact j0_l0 s a1 a2 k
 ·exact j0_l1 s a1 a2 k
 ·exact j0_l2 s a1 a2 k
 ·exact j0_l3 s a1 a2 k
 ·exact j0_l4 s a1 a2 k
 ·exact j0_l5 s a1 a2 k
 ·exact j0_l6 s a1 a2 k
 ·exact j0_l7 s a1 a2 k
 ·exact j0_l8 s a1 a2 k
 ·exact j0_l9 s a1 a2 k
 ·exact j0_l10 s a1 a2 k
def headB (x:Int):UInt8:=if x≤6 then 99 else if x=7 then 100 else if x≤9 then 101 else 102
theorem j0_h5 (s:ByteArray) (a1 a2:Int) (k:Nat):nl_grow.j0 (k+1) s a1 a2 5 false=if (5:Int) < 8 then nl_grow.j1 k s a1 a2 5 ⟨#[headB 5]⟩ true else nl_grow.j1 k s a1 a2 5 ⟨#[headB 5]⟩ (decide (a2 < 3)):=by kernel_rfl
theorem j0_h6 (s:ByteArray) (a1 a2:Int) (k:Nat):nl_grow.j0 (k+1) s a1 a2 6 false=if (6:Int) < 8 then nl_grow.j1 k s a1 a2 6 ⟨#[headB 6]⟩ true else nl_grow.j1 k s a1 a2 6 ⟨#[headB 6]⟩ (decide (a2 < 3)):=by kernel_rfl
theorem j0_h7 (s:ByteArray) (a1 a2:Int) (k:Nat):nl_grow.j0 (k+1) s a1 a2 7 false=if (7:Int) < 8 then nl_grow.j1 k s a1 a2 7 ⟨#[headB 7]⟩ true else nl_grow.j1 k s a1 a2 7 ⟨#[headB 7]⟩ (decide (a2 < 3)):=by kernel_rfl
theorem j0_h8 (s:ByteArray) (a1 a2:Int) (k:Nat):nl_grow.j0 (k+1) s a1 a2 8 false=if (8:Int) < 8 then nl_grow.j1 k s a1 a2 8 ⟨#[headB 8]⟩ true else nl_grow.j1 k s a1 a2 8 ⟨#[headB 8]⟩ (decide (a2 < 3)):=by kernel_rfl
theorem j0_h9 (s:ByteArray) (a1 a2:Int) (k:Nat):nl_grow.j0 (k+1) s a1 a2 9 false=if (9:Int) < 8 then nl_grow.j1 k s a1 a2 9 ⟨#[headB 9]⟩ true else nl_grow.j1 k s a1 a2 9 ⟨#[headB 9]⟩ (decide (a2 < 3)):=by kernel_rfl
theorem j0_h10 (s:ByteArray) (a1 a2:Int) (k:Nat):nl_grow.j0 (k+1) s a1 a2 10 false=if (10:Int) < 8 then nl_grow.j1 k s a1 a2 10 ⟨#[headB 10]⟩ true else nl_grow.j1 k s a1 a2 10 ⟨#[headB 10]⟩ (decide (a2 < 3)):=by kernel_rfl
theorem j0_head (s:ByteArray) (a1 a2 x:Int) (hx:5≤x∧x≤10) (k:Nat):nl_grow.j0 (k+1) s a1 a2 x false=if x < 8 then nl_grow.j1 k s a1 a2 x ⟨#[headB x]⟩ true else nl_grow.j1 k s a1 a2 x ⟨#[headB x]⟩ (decide (a2 < 3)):=by
 have:x=5∨x=6∨x=7∨x=8∨x=9∨x=10:=by omega
 rcases this with rfl|rfl|rfl|rfl|rfl|rfl
 ·exact j0_h5 s a1 a2 k
 ·exact j0_h6 s a1 a2 k
 ·exact j0_h7 s a1 a2 k
 ·exact j0_h8 s a1 a2 k
 ·exact j0_h9 s a1 a2 k
 ·exact j0_h10 s a1 a2 k
theorem j1_one {s:ByteArray} {a1 a2 x a':Int} {h:UInt8} {t:Tm} (hE:Evt (fun k=>nl_grow.f k s (wrap64 (a1+1)) (wrap64 (a2 - 1))) (t.text,a')) (ht:t.size≤1000):Evt (fun k=>nl_grow.j1 k s a1 a2 x ⟨#[h]⟩ true) ((Tm.app (if x≥8 then 100 else (h.toNat:Int)) [t]).text,a'):=by
 have hsz:=text_le ht
 have e1:∀ c:UInt8,(⟨#[c]⟩:ByteArray).size=1:=fun _=>rfl
 refine Evt.step (g':=fun k=>(nl_grow.f k s (wrap64 (a1+1)) (wrap64 (a2 - 1))).bind fun bt307=>_) (fun k=>by rw [nl_grow.j1,if_pos rfl]) (Evt.bind hE (Evt.all fun k=>?_))
 dsimp only
 by_cases hx:x≥8
 ·rw [if_pos hx,if_pos hx,if_pos (by decide),if_pos (by omega),if_pos (by rw [ByteArray.size_append,ByteArray.size_append,e1,e1];omega)]
  rw [text1]
  rfl
 ·rw [if_neg hx,if_neg hx,if_pos (by rw [e1];decide),if_pos (by rw [ByteArray.size_append,e1,e1];omega),if_pos (by rw [ByteArray.size_append,ByteArray.size_append,e1,e1];omega)]
  rw [text1]
theorem j1_two {s:ByteArray} {a1 a2 x a' a'':Int} {h:UInt8} {t u:Tm} (hE:Evt (fun k=>nl_grow.f k s (wrap64 (a1+1)) (wrap64 (Int.tdiv (wrap64 (a2 - 1)) 2))) (t.text,a')) (hE2:Evt (fun k=>nl_grow.f k s a' (wrap64 ((wrap64 (a2 - 1)) - (wrap64 (Int.tdiv (wrap64 (a2 - 1)) 2))))) (u.text,a'')) (ht:t.size≤1000) (hu:u.size≤1000):Evt (fun k=>nl_grow.j1 k s a1 a2 x ⟨#[h]⟩ false) ((Tm.app (h.toNat:Int) [t,u]).text,a''):=by
 have hsz:=text_le ht
 have hsu:=text_le hu
 have e1:∀ c:UInt8,(⟨#[c]⟩:ByteArray).size=1:=fun _=>rfl
 refine Evt.step (g':=fun k=>(nl_grow.f k s (wrap64 (a1+1)) (wrap64 (Int.tdiv (wrap64 (a2 - 1)) 2))).bind fun bt309=>((nl_grow.f k s bt309.2 (wrap64 ((wrap64 (a2 - 1)) - (wrap64 (Int.tdiv (wrap64 (a2 - 1)) 2))))).bind fun bt311=>_)) (fun k=>by rw [nl_grow.j1,if_neg (by simp)]) (Evt.bind hE (Evt.bind hE2 (Evt.all fun k=>?_)))
 dsimp only
 simp only [ByteArray.size_append,e1]
 rw [if_pos (by decide),if_pos (by omega),if_pos (by omega),if_pos (by omega),if_pos (by omega),text2]
theorem bt_range (s:ByteArray) (i:Int):0≤bt s i∧bt s i≤255:=by
 unfold bt
 split
 ·have:=(s[i.toNat]'(by assumption)).toNat_lt
  omega
 ·omega
theorem growE (s:ByteArray) (hs:s.size≤9223372036854775807):∀ (n:Nat) (a1 a2:Int),0≤a1→a1≤9223372036854775807→1≤a2→a2≤n→n≤1000 →
  ∃ (t:Tm) (a':Int),Evt (fun k=>nl_grow.f k s a1 a2) (t.text,a')∧t.good∧t.size≤a2∧0≤a'∧a'≤9223372036854775807
 | 0,a1,a2,_,_,h3,h4,_=>by omega
 | n+1,a1,a2,h1,h2,h3,h4,hn=>by
  by_cases he:a1≥(s.size:Int)
  ·exact ⟨.app 97 [],a1,Evt.now fun k=>by rw [nl_grow.f,if_pos he];rfl,by rw [Tm.good,Tm.goods];exact ⟨by omega,by decide,trivial⟩,by rw [Tm.size,Tm.sizes];omega,h1,h2⟩
  ·obtain ⟨x,hx⟩:∃ x,x=Int.tmod (wrap64 (bt s a1)) 11:=⟨_,rfl⟩
   have hb:=bt_range s a1
   have hxr:0≤x∧x≤10:=by
    rw [hx,wr (by omega) (by omega),Int.tmod_eq_emod_of_nonneg hb.1]
    omega
   have hw1:wrap64 (a1+1)=a1+1:=wr (by omega) (by omega)
   have hw2:wrap64 (a2 - 1)=a2 - 1:=wr (by omega) (by omega)
   have hf:∀ k,nl_grow.f (k+1) s a1 a2=if a2 < 2 then nl_grow.j0 k s a1 a2 x true else nl_grow.j0 k s a1 a2 x (decide (x < 5)):=fun k=>by
    rw [nl_grow.f,if_neg he,if_pos h1,if_pos (by omega),←hx]
   have hlet:(a2 < 2∨x < 5)→Evt (fun k=>nl_grow.f k s a1 a2) ((ltT x).text,a1+1):=fun hc=>by
    refine Evt.step (g':=fun k=>nl_grow.j0 k s a1 a2 x true) (fun k=>?_) (Evt.now fun k=>?_)
    ·rw [hf]
     by_cases h:a2 < 2
     ·rw [if_pos h]
     ·rw [if_neg h,decide_eq_true (hc.resolve_left h)]
    ·rw [j0_letter s a1 a2 x hxr,hw1]
   by_cases hc:a2 < 2∨x < 5
   ·exact ⟨ltT x,a1+1,hlet hc,(ltT_good x).1,by rw [(ltT_good x).2];omega,by omega,by omega⟩
   ·have hc2:¬ a2 < 2∧¬ x < 5:=⟨fun h=>hc (.inl h),fun h=>hc (.inr h)⟩
    have hstep:∀ {b:Bool} {r:ByteArray × Int},(x < 8→b=true)→(¬ x < 8→b=decide (a2 < 3))→Evt (fun k=>nl_grow.j1 k s a1 a2 x ⟨#[headB x]⟩ b) r→Evt (fun k=>nl_grow.f k s a1 a2) r:=fun {b r} hb1 hb2 hE=>by
     refine Evt.step (g':=fun k=>nl_grow.j0 k s a1 a2 x false) (fun k=>?_) (Evt.step (g':=fun k=>nl_grow.j1 k s a1 a2 x ⟨#[headB x]⟩ b) (fun k=>?_) hE)
     ·rw [hf,if_neg hc2.1,decide_eq_false hc2.2]
     ·rw [j0_head s a1 a2 x (by omega)]
      by_cases h8:x < 8
      ·rw [if_pos h8,hb1 h8]
      ·rw [if_neg h8,hb2 h8]
    by_cases ho:x < 8∨a2 < 3
    ·obtain ⟨t,a',hE,hg,hsz,h5,h6⟩:=growE s hs n (a1+1) (a2 - 1) (by omega) (by omega) (by omega) (by omega) (by omega)
     have hE':Evt (fun k=>nl_grow.f k s (wrap64 (a1+1)) (wrap64 (a2 - 1))) (t.text,a'):=by rw [hw1,hw2];exact hE
     refine ⟨_,a',hstep (b:=true) (fun _=>rfl) (fun h=>(decide_eq_true (ho.resolve_left h)).symm) (j1_one (x:=x) (h:=headB x) hE' (by omega)),app1_good ?_ hg,by rw [size1];omega,h5,h6⟩
     have:x=5∨x=6∨x=7∨x=8∨x=9∨x=10:=by omega
     clear hx hf hlet hstep
     rcases this with rfl|rfl|rfl|rfl|rfl|rfl<;>decide
    ·have ho2:¬ x < 8∧¬ a2 < 3:=⟨fun h=>ho (.inl h),fun h=>ho (.inr h)⟩
     have hdv:Int.tdiv (a2 - 1) 2=(a2 - 1) / 2:=Int.tdiv_eq_ediv_of_nonneg (by omega)
     obtain ⟨t,a',hE,hg,hsz,h5,h6⟩:=growE s hs n (a1+1) ((a2 - 1) / 2) (by omega) (by omega) (by omega) (by omega) (by omega)
     obtain ⟨u,a'',hE2,hg2,hsz2,h7,h8⟩:=growE s hs n a' (a2 - 1 - (a2 - 1) / 2) h5 h6 (by omega) (by omega) (by omega)
     have hw3:wrap64 (Int.tdiv (wrap64 (a2 - 1)) 2)=(a2 - 1) / 2:=by rw [hw2,hdv];exact wr (by omega) (by omega)
     have hw4:wrap64 ((wrap64 (a2 - 1)) - (wrap64 (Int.tdiv (wrap64 (a2 - 1)) 2)))=a2 - 1 - (a2 - 1) / 2:=by rw [hw3,hw2];exact wr (by omega) (by omega)
     have hE':Evt (fun k=>nl_grow.f k s (wrap64 (a1+1)) (wrap64 (Int.tdiv (wrap64 (a2 - 1)) 2))) (t.text,a'):=by rw [hw1,hw3];exact hE
     have hE2':Evt (fun k=>nl_grow.f k s a' (wrap64 ((wrap64 (a2 - 1)) - (wrap64 (Int.tdiv (wrap64 (a2 - 1)) 2))))) (u.text,a''):=by rw [hw4];exact hE2
     refine ⟨_,a'',hstep (b:=false) (fun h=>absurd h ho2.1) (fun _=>(decide_eq_false ho2.2).symm) (j1_two (x:=x) (h:=headB x) hE' hE2' (by omega) (by omega)),app2_good ?_ hg hg2,by rw [size2];omega,h7,h8⟩
     have:x=8∨x=9∨x=10:=by omega
     clear hx hf hlet hstep
     rcases this with rfl|rfl|rfl<;>decide
theorem termE (s:ByteArray) (hs:s.size≤9223372036854775807) (room:Int) (h1:1≤room) (h2:room≤1000):∃ t:Tm,Evt (fun k=>nl_term.f k s room) t.text∧t.good∧t.size≤room:=by
 obtain ⟨t,a',hE,hg,hsz,_,_⟩:=growE s hs 1000 0 room (by omega) (by omega) h1 (by omega) (by omega)
 exact ⟨t,Evt.bind hE (Evt.all fun _=>rfl),hg,hsz⟩
def isVarI (c:Int):Bool:=decide (c≥120) && decide (c≤122)
theorem isvar_calls (c:Int) (w:World):Calls Tryz.prog 74 #[.int .u8 c] w fun e w'=>e=.returned (.bool (isVarI c))∧w'=w:=by
  unfold isVarI
  by_cases h1:c≥120
  · by_cases h2:c≤122
    · have d1:decide (c≥120)=true:=decide_eq_true h1
      have d2:decide (c≤122)=true:=decide_eq_true h2
      rw [d1,d2]
      clear h1 h2
      go_enter Tryz.func74,Tryz.ntmps74
      go_wp2
      go_ret
      exact ⟨rfl,rfl⟩
    · have d1:decide (c≥120)=true:=decide_eq_true h1
      have d2:decide (c≤122)=false:=decide_eq_false h2
      rw [d1,d2]
      clear h1 h2
      go_enter Tryz.func74,Tryz.ntmps74
      go_wp2
      go_ret
      exact ⟨rfl,rfl⟩
  · have d1:decide (c≥120)=false:=decide_eq_false h1
    rw [d1]
    clear h1
    go_enter Tryz.func74,Tryz.ntmps74
    go_wp2
    go_ret
    exact ⟨rfl,rfl⟩
def applyC (s0 s1 s2:List UInt8) (c:UInt8):List UInt8:=if c=120 then s0 else if c=121 then s1 else if c=122 then s2 else [c]
def applyL (s0 s1 s2 l:List UInt8):List UInt8:=l.flatMap (applyC s0 s1 s2)
theorem applyL_snoc (s0 s1 s2 l:List UInt8) (i:Nat) (h:i < l.length):applyL s0 s1 s2 (l.take (i+1))=applyL s0 s1 s2 (l.take i)++applyC s0 s1 s2 l[i]:=by
  unfold applyL
  rw [List.take_succ_eq_append_getElem h,List.flatMap_append]
  simp
theorem B8_app (a b:List UInt8):B8 a++B8 b=B8 (a++b):=by
  apply ByteArray.ext
  simp [B8]
theorem list_get (s:ByteArray) (i:Nat) (h:i < s.size):s.data.toList[i]'(by simpa using h)=s[i]:=by
  simp
  rfl
theorem slice1 (s:ByteArray) (i:Nat) (h:i < s.size) (w:World):(Instr.sliceAt 9 (.string s) (some (.int .i64 (i:Int))) (some (.int .i64 ((i:Int)+1))) none).run Tryz.prog w=.ok (.string ⟨#[s[i]]⟩) w:=by
  have h1:=run_slice_string (P:=Tryz.prog) w 9 s .i64 .i64 (i:Int) ((i:Int)+1) Tryz.underlying9 (by omega) (by omega) (by omega)
  have h2:s.extract (i:Int).toNat ((i:Int)+1).toNat=⟨#[s[i]]⟩:=by
    apply ByteArray.ext
    apply Array.ext'
    have e1:((i:Int)+1).toNat=i+1:=by omega
    rw [e1,Int.toNat_natCast,ByteArray.data_extract,Array.toList_extract]
    have h3:i < s.data.toList.length:=by simpa using h
    have h4:(s.data.toList.drop i).take (i+1 - i)=[s[i]]:=by
      rw [List.drop_eq_getElem_cons h3,show i+1 - i=1 by omega,list_get s i h]
      rfl
    first|exact h4|(rw [List.extract_eq_take_drop];exact h4)|(rw [List.extract_eq_drop_take];exact h4)|simpa using h4
  rw [h2] at h1
  simp [go_sem,Instr.sliceAt,run_underlying Tryz.underlying9,Sem.run_bind,h1]
set_option maxRecDepth 100000 in
set_option maxHeartbeats 2000000 in
theorem apply_calls (s s0 s1 s2:ByteArray) (hs:s.size≤1000000) (h0:s0.size≤1000000) (h1:s1.size≤1000000) (h2:s2.size≤1000000) (w:World) :
    Calls Tryz.prog 46 #[.string s,.agg #[.string s0,.string s1,.string s2]] w fun e w'=>e=.returned (.string (B8 (applyL s0.data.toList s1.data.toList s2.data.toList s.data.toList)))∧Below w.heap.size w w':=by
  have HP:=Aside0.mk (And.intro hs (And.intro h0 (And.intro h1 h2)))
  clear hs h0 h1 h2
  go_enter Tryz.func46,Tryz.ntmps46
  go_wp2
  go_loopw [5,6] (fun v5 v6 wr=>∃ (i:Nat) (acc:ByteArray),v5=.string acc∧v6=.int .i64 (i:Int)∧Aside0 (i≤s.size)∧Aside0 (acc=B8 (applyL s0.data.toList s1.data.toList s2.data.toList (s.data.toList.take i))∧acc.size≤i * 1000000)∧wr=w.alloc (.cells #[.string s0,.string s1,.string s2] 61)) (fun _ v6 _=>s.size - (intOf v6).toNat)
  case atStart=>exact ⟨0,⟨#[]⟩,rfl,rfl,⟨Nat.zero_le _⟩,⟨rfl,Nat.le_refl _⟩,rfl⟩
  case round =>
    obtain ⟨i,acc,rfl,rfl,HI,HA,rfl⟩:=hrel
    obtain ⟨hs,h0,h1,h2⟩:=HP.out
    have hx0:(w.alloc (.cells #[.string s0,.string s1,.string s2] 61)).cell? ⟨w.heap.size,0,none⟩=some (.string s0):=blk_cell (blk_new w _) 0
    have hx1:(w.alloc (.cells #[.string s0,.string s1,.string s2] 61)).cell? ⟨w.heap.size,1,none⟩=some (.string s1):=blk_cell (blk_new w _) 1
    have hx2:(w.alloc (.cells #[.string s0,.string s1,.string s2] 61)).cell? ⟨w.heap.size,2,none⟩=some (.string s2):=blk_cell (blk_new w _) 2
    by_cases hlt:i < s.size
    · have hlb:decide ((i:Int) < (s.size:Int))=true:=decide_eq_true (by omega)
      have w1i:wrap64 ((i:Int)+1)=(i:Int)+1:=wrS (by omega) (by omega)
      have hll:i < s.data.toList.length:=by simpa using hlt
      have hsn:=applyL_snoc s0.data.toList s1.data.toList s2.data.toList s.data.toList i hll
      rw [list_get s i hlt] at hsn
      have hsl:=slice1 s i hlt
      have hbt:∀ h,(((s[i]'h).toNat:Nat):Int)=((s[i]'hlt).toNat:Int):=fun h=>rfl
      obtain ⟨c,hc⟩:∃ c,c=s[i]'hlt:=⟨_,rfl⟩
      rw [←hc] at hsn hsl hbt
      have hcall:=isvar_calls (c.toNat:Int) (w.alloc (.cells #[.string s0,.string s1,.string s2] 61))
      have hb0:(9223372036854775807 < acc.size+s0.size)=False:=eq_false (by have:=HA.out.2;omega)
      have hb1:(9223372036854775807 < acc.size+s1.size)=False:=eq_false (by have:=HA.out.2;omega)
      have hb2:(9223372036854775807 < acc.size+s2.size)=False:=eq_false (by have:=HA.out.2;omega)
      have hb3:(9223372036854775807 < acc.size+1)=False:=eq_false (by have:=HA.out.2;omega)
      by_cases c0:c=120
      · subst c0
        have hiv:isVarI (((120:UInt8).toNat:Nat):Int)=true:=rfl
        rw [hiv] at hcall
        have HC:=Aside0.mk hcall
        have HN:Aside0 (acc++s0=B8 (applyL s0.data.toList s1.data.toList s2.data.toList (s.data.toList.take (i+1)))∧(acc++s0).size≤(i+1) * 1000000):=⟨by rw [hsn,←B8_app,←HA.out.1];exact congrArg (acc++·) (B8_of _).symm,by rw [ByteArray.size_append];have:=HA.out.2;omega⟩
        clear hcall hsn hc hs h0 h1 h2 hll
        go_wp2_with (go_at_call 74;refine HC.out.mono ?_;rintro e w1 ⟨rfl,h1⟩;subst w1)
        refine ⟨⟨i+1,acc++s0,rfl,by rw [w1i];rfl,⟨hlt⟩,HN,by first|rfl|trivial⟩,?_⟩
        rw [w1i]
        simp only [intOf]
        clear w1i
        omega
      by_cases c1:c=121
      · subst c1
        have hiv:isVarI (((121:UInt8).toNat:Nat):Int)=true:=rfl
        rw [hiv] at hcall
        have HC:=Aside0.mk hcall
        have HN:Aside0 (acc++s1=B8 (applyL s0.data.toList s1.data.toList s2.data.toList (s.data.toList.take (i+1)))∧(acc++s1).size≤(i+1) * 1000000):=⟨by rw [hsn,←B8_app,←HA.out.1];exact congrArg (acc++·) (B8_of _).symm,by rw [ByteArray.size_append];have:=HA.out.2;omega⟩
        clear hcall hsn hc hs h0 h1 h2 hll
        go_wp2_with (go_at_call 74;refine HC.out.mono ?_;rintro e w1 ⟨rfl,h1⟩;subst w1)
        refine ⟨⟨i+1,acc++s1,rfl,by rw [w1i];rfl,⟨hlt⟩,HN,by first|rfl|trivial⟩,?_⟩
        rw [w1i]
        simp only [intOf]
        clear w1i
        omega
      by_cases c2:c=122
      · subst c2
        have hiv:isVarI (((122:UInt8).toNat:Nat):Int)=true:=rfl
        rw [hiv] at hcall
        have HC:=Aside0.mk hcall
        have HN:Aside0 (acc++s2=B8 (applyL s0.data.toList s1.data.toList s2.data.toList (s.data.toList.take (i+1)))∧(acc++s2).size≤(i+1) * 1000000):=⟨by rw [hsn,←B8_app,←HA.out.1];exact congrArg (acc++·) (B8_of _).symm,by rw [ByteArray.size_append];have:=HA.out.2;omega⟩
        clear hcall hsn hc hs h0 h1 h2 hll
        go_wp2_with (go_at_call 74;refine HC.out.mono ?_;rintro e w1 ⟨rfl,h1⟩;subst w1)
        refine ⟨⟨i+1,acc++s2,rfl,by rw [w1i];rfl,⟨hlt⟩,HN,by first|rfl|trivial⟩,?_⟩
        rw [w1i]
        simp only [intOf]
        clear w1i
        omega
      have hiv:isVarI ((c.toNat:Nat):Int)=false:=by
        unfold isVarI
        by_cases h:((c.toNat:Nat):Int)≥120∧((c.toNat:Nat):Int)≤122
        · exfalso
          have h3:c.toNat=120∨c.toNat=121∨c.toNat=122:=by omega
          rcases h3 with h3|h3|h3
          · exact c0 (UInt8.toNat_inj.1 h3)
          · exact c1 (UInt8.toNat_inj.1 h3)
          · exact c2 (UInt8.toNat_inj.1 h3)
        · by_cases h4:((c.toNat:Nat):Int)≥120
          · rw [decide_eq_true h4,decide_eq_false (fun h5=>h ⟨h4,h5⟩)];rfl
          · rw [decide_eq_false h4];rfl
      rw [hiv] at hcall
      have HC:=Aside0.mk hcall
      have hac:applyC s0.data.toList s1.data.toList s2.data.toList c=[c]:=by unfold applyC;rw [if_neg c0,if_neg c1,if_neg c2]
      have HN:Aside0 (acc++(⟨#[c]⟩:ByteArray)=B8 (applyL s0.data.toList s1.data.toList s2.data.toList (s.data.toList.take (i+1)))∧(acc++(⟨#[c]⟩:ByteArray)).size≤(i+1) * 1000000):=⟨by rw [hsn,←B8_app,←HA.out.1,hac];rfl,by rw [ByteArray.size_append];have:=HA.out.2;have e:(⟨#[c]⟩:ByteArray).size=1:=rfl;omega⟩
      clear hcall hsn hc hs h0 h1 h2 hll c0 c1 c2 hac
      go_wp2_with (go_at_call 74;refine HC.out.mono ?_;rintro e w1 ⟨rfl,h1⟩;subst w1)
      refine ⟨⟨i+1,acc++(⟨#[c]⟩:ByteArray),rfl,by rw [w1i];rfl,⟨hlt⟩,HN,by first|rfl|trivial⟩,?_⟩
      rw [w1i]
      simp only [intOf]
      clear w1i
      omega
    · have hlb:decide ((i:Int) < (s.size:Int))=false:=decide_eq_false (by omega)
      have hi:i=s.size:=by have:=HI.out;omega
      have hfin:acc=B8 (applyL s0.data.toList s1.data.toList s2.data.toList s.data.toList):=by rw [HA.out.1,List.take_of_length_le (by simp [hi])]
      clear hs h0 h1 h2
      go_wp2
      go_ret
      exact ⟨congrArg (fun a=>Ending.returned (Value.string a)) hfin,below_alloc (Below.refl _ _) _⟩
def nr_Apply.f (a0 x0 x1 x2:ByteArray):Option ByteArray :=
  if a0.size≤1000000∧x0.size≤1000000∧x1.size≤1000000∧x2.size≤1000000 then some (B8 (applyL x0.data.toList x1.data.toList x2.data.toList a0.data.toList)) else none
theorem nr_Apply.calls (a0 x0 x1 x2:ByteArray) (r:ByteArray) (w:World) (h:nr_Apply.f a0 x0 x1 x2=some r) :
    Calls Tryz.prog 46 #[.string a0,.agg #[.string x0,.string x1,.string x2]] w fun e w'=>e=.returned (.string r)∧Below w.heap.size w w':=by
  unfold nr_Apply.f at h
  split at h
  · rename_i hs
    injection h with h
    subst h
    exact apply_calls a0 x0 x1 x2 hs.1 hs.2.1 hs.2.2.1 hs.2.2.2 w
  · cases h
theorem occ_app (v s:Int) (l:List Tm):occT v (.app s l)=l.any (occT v):=by
  unfold occT
  rw [Tm.subs,List.any_cons]
  have:isVar v (.app s l)=false:=by rfl
  rw [this,Bool.false_or]
  clear this
  induction l with
  | nil=>rfl
  | cons t l ih=>rw [Tm.subsL,List.any_append,List.any_cons,ih]
theorem occ_var (v c:Int):occT v (.var c)=decide (v=c):=by
  unfold occT
  rw [Tm.subs]
  by_cases h:v=c
  · subst h;simp [isVar]
  · simp [isVar,h,show ¬ c=v from fun e=>h e.symm]
theorem sub_app (σ:Sub) (s:Int) (l:List Tm):(Tm.app s l).sub σ=.app s (l.map (Tm.sub σ)):=by rw [Tm.sub,subL_map]
theorem t1:nextsT [⟨⟨#[101,40,120,44,121,41]⟩,⟨#[101,40,121,44,120,41]⟩⟩] ⟨#[101,40,97,44,98,41]⟩=(0,[⟨#[101,40,98,44,97,41]⟩]):=by kernel_rfl
theorem t2:(valT [[0],[1],[1,1],[0,1],[0,1,1],[0,1,2]] ⟨#[102,40,99,40,98,41,44,120,41]⟩).1=0:=by kernel_rfl
theorem t3:orientT [⟨⟨#[99,40,100,40,120,41,41]⟩,⟨#[100,40,99,40,120,41,41]⟩⟩]=(0,⟨#[97,98,99,100,101,102]⟩):=by kernel_rfl
theorem awake_true:nl_awake.f 20=some true:=by kernel_rfl
open Go.Maps
def sub3 (x y z:Tm):Sub:=fun v=>if v=120 then some x else if v=121 then some y else if v=122 then some z else none
theorem applyL_app (s0 s1 s2 a b:List UInt8):applyL s0 s1 s2 (a++b)=applyL s0 s1 s2 a++applyL s0 s1 s2 b:=by unfold applyL;rw [List.flatMap_append]
theorem applyL_cons (s0 s1 s2:List UInt8) (c:UInt8) (b:List UInt8):applyL s0 s1 s2 (c :: b)=applyC s0 s1 s2 c++applyL s0 s1 s2 b:=by unfold applyL;rw [List.flatMap_cons]
theorem applyC_no (s0 s1 s2:List UInt8) {c:UInt8} (h:c.toNat < 120∨122 < c.toNat):applyC s0 s1 s2 c=[c]:=by
  unfold applyC
  rw [if_neg (fun e=>by subst e;revert h;decide),if_neg (fun e=>by subst e;revert h;decide),if_neg (fun e=>by subst e;revert h;decide)]
theorem ch_nat {c:Int} (h:0≤c∧c≤255):(ch c).toNat=c.toNat:=by have:=ch_toNat h;omega
theorem applyM (s0 s1 s2:List UInt8) (f:Tm→Tm):∀ (l:List Tm) (i:Nat),(∀ t,t∈l→applyL s0 s1 s2 t.tx=(f t).tx)→applyL s0 s1 s2 (txM i l)=txM i (l.map f)
  | [],i,_=>rfl
  | t :: l,i,h=>by
    rw [txM,List.map_cons,txM,applyL_cons,applyL_app,h t (by simp),applyM s0 s1 s2 f l (i+1) (fun u hu=>h u (by simp [hu])),applyC_no s0 s1 s2 (by
      have:=mark_nat i
      unfold mark at this ⊢
      split
      · left;decide
      · left;decide)]
    rfl
theorem apply_tx (x y z:Tm):∀ t:Tm,t.good→applyL x.tx y.tx z.tx t.tx=(t.sub (sub3 x y z)).tx:=by
  refine Tm.ind (fun c hg=>?_) (fun s l ih hg=>?_)
  · rw [Tm.good] at hg
    rw [Tm.tx,applyL_cons,Tm.sub]
    have:c=120∨c=121∨c=122:=by omega
    rcases this with rfl|rfl|rfl
    · show applyC x.tx y.tx z.tx 120++[]=_
      rw [List.append_nil];rfl
    · show applyC x.tx y.tx z.tx 121++[]=_
      rw [List.append_nil];rfl
    · show applyC x.tx y.tx z.tx 122++[]=_
      rw [List.append_nil];rfl
  · have hl2:=good_len hg
    rw [Tm.good] at hg
    have hc:applyC x.tx y.tx z.tx (ch s)=[ch s]:=applyC_no _ _ _ (by left;rw [ch_nat (by omega)];omega)
    rw [sub_app,tx_app2 s l hl2,tx_app2 s _ (by rw [List.length_map];exact hl2),List.length_map,applyL_cons,hc]
    by_cases h0:l.length=0
    · rw [if_pos h0,if_pos h0];rfl
    · rw [if_neg h0,if_neg h0,applyL_app,applyM _ _ _ (Tm.sub (sub3 x y z)) l 0 (fun t ht=>ih t ht (goods_mem hg.2.2 ht))]
      rfl
theorem apply_eval {t x y z:Tm} (hg:t.good) (ht:t.size≤1000) (hx:x.size≤1000) (hy:y.size≤1000) (hz:z.size≤1000):nr_Apply.f t.text x.text y.text z.text=some (t.sub (sub3 x y z)).text:=by
  have h1:=text_le ht
  have h2:=text_le hx
  have h3:=text_le hy
  have h4:=text_le hz
  unfold nr_Apply.f
  rw [if_pos ⟨by omega,by omega,by omega,by omega⟩]
  congr 1
  show B8 (applyL (B8 x.tx).data.toList (B8 y.tx).data.toList (B8 z.tx).data.toList (B8 t.tx).data.toList)=_
  rw [B8_list,B8_list,B8_list,B8_list,apply_tx x y z t hg]
  rfl
def aT:Tm:=.app 97 []
theorem aT_good:aT.good:=by unfold aT;rw [Tm.good,Tm.goods];exact ⟨by omega,by simp [nParts],trivial⟩
theorem aT_size:aT.size=1:=by unfold aT;rw [Tm.size,Tm.sizes];rfl
theorem sub3_good {x y z:Tm} (hx:x.good) (hy:y.good) (hz:z.good):∀ c u,sub3 x y z c=some u→u.good:=by
  intro c u h
  unfold sub3 at h
  split at h
  · injection h with h;subst h;exact hx
  · split at h
    · injection h with h;subst h;exact hy
    · split at h
      · injection h with h;subst h;exact hz
      · cases h
theorem sub3_le {x y z:Tm} {M:Int} (hx:x.size≤M) (hy:y.size≤M) (hz:z.size≤M):SubLe M (sub3 x y z):=by
  intro c u h
  unfold sub3 at h
  split at h
  · injection h with h;subst h;exact hx
  · split at h
    · injection h with h;subst h;exact hy
    · split at h
      · injection h with h;subst h;exact hz
      · cases h
theorem aT_occ (v:Int):occT v aT=false:=by unfold aT;rw [occ_app];rfl
theorem text1' (c:UInt8) (t:Tm):(⟨#[c,40]⟩:ByteArray)++t.text++⟨#[41]⟩=(Tm.app (c.toNat:Int) [t]).text:=by
  rw [←text1]
  rfl
theorem awake_mono:∀ n,nl_awake.f (20+n)=some true
  | 0=>awake_true
  | n+1=>nl_awake.mono (20+n) true (awake_mono n)
theorem awakeE:Evt (fun k=>nl_awake.f k) true:=⟨20,fun k hk=>by
  have:=awake_mono (k - 20)
  rwa [show 20+(k - 20)=k by omega] at this⟩
attribute [local go_sem] max2_int min2_int max_two min_two max_three min_three max_four min_four
set_option linter.unusedVariables false
set_option linter.unusedSimpArgs false
end Go.Proofs.YtaafeallcaiooaaGreat.Pr
namespace Go.Proofs.YtaafeallcaiooaaGreat.Pr
open Go.RowKit Go.Proofs.Zw Go.Proofs.Zl Go.Proofs.Zm
set_option linter.unusedVariables false
set_option linter.unusedSimpArgs false
theorem at_cons {s:ByteArray} {i:Nat} {c:UInt8} {r:List UInt8} (h:s.data.toList.drop i=c :: r):i < s.size∧bt s (i:Int)=(c.toNat:Int)∧s.data.toList.drop (i+1)=r:=by
  have hl:i < s.data.toList.length:=by
    rcases Nat.lt_or_ge i s.data.toList.length with h1|h1
    · exact h1
    · rw [List.drop_eq_nil_of_le h1] at h;cases h
  have hi:i < s.size:=by simpa using hl
  rw [List.drop_eq_getElem_cons hl] at h
  injection h with h1 h2
  refine ⟨hi,?_,h2⟩
  have e:bt s (i:Int)=((s[i]'hi).toNat:Int):=by simp [bt,hi]
  rw [e,←h1]
  simp
  rfl
attribute [local go_sem] max2_int min2_int max_two min_two max_three min_three max_four min_four
set_option linter.unusedVariables false
set_option linter.unusedSimpArgs false
end Go.Proofs.YtaafeallcaiooaaGreat.Pr
namespace Go.Proofs.YtaafeallcaiooaaGreat.Pr
open Go.RowKit Go.Proofs.Zw Go.Proofs.Zl Go.Proofs.Zm
attribute [local go_sem] max2_int min2_int max_two min_two max_three min_three max_four min_four
set_option linter.unusedVariables false
set_option linter.unusedSimpArgs false
end Go.Proofs.YtaafeallcaiooaaGreat.Pr
namespace Go.Proofs.YtaafeallcaiooaaGreat.Pr
open Go.RowKit Go.Proofs.Zw Go.Proofs.Zl Go.Proofs.Zm
set_option linter.unusedVariables false
set_option linter.unusedSimpArgs false
theorem awakeF:Evt (fun k=>(nl_awake.f k).bind fun t=>some t) true:=Evt.bind awakeE (Evt.all fun _=>rfl)
def hasB (c:Int) (l:List UInt8):Bool:=l.any (fun b=>decide ((b.toNat:Int)=c))
theorem hasB_app (c:Int) (a b:List UInt8):hasB c (a++b)=(hasB c a || hasB c b):=List.any_append
theorem hasB_cons (c:Int) (a:UInt8) (b:List UInt8):hasB c (a :: b)=(decide ((a.toNat:Int)=c) || hasB c b):=List.any_cons
theorem occ_tx (c:Int) (hc:120≤c∧c≤122):∀ t:Tm,t.good→hasB c t.tx=occT c t:=by
  have hM:∀ (l:List Tm) (i:Nat),(∀ x,x∈l→hasB c x.tx=occT c x)→hasB c (txM i l)=l.any (occT c):=by
    intro l
    induction l with
    | nil=>intro i _;rfl
    | cons x l ih =>
      intro i h
      have hm:decide ((((UInt8.ofNat (mark i).toNat).toNat:Nat):Int)=c)=false:=by
        rw [mark_nat]
        unfold mark
        split<;>exact decide_eq_false (by omega)
      rw [txM,hasB_cons,hm,Bool.false_or,hasB_app,h x (by simp),ih (i+1) (fun y hy=>h y (by simp [hy])),List.any_cons]
  refine Tm.ind (fun d hg=>?_) (fun s l ih hg=>?_)
  · rw [Tm.good] at hg
    have hd:=ch_toNat (c:=d) (by omega)
    rw [Tm.tx,hasB_cons,hd,occ_var,show hasB c []=false from rfl,Bool.or_false]
    by_cases h:d=c
    · rw [decide_eq_true h,decide_eq_true h.symm]
    · rw [decide_eq_false h,decide_eq_false (fun e=>h e.symm)]
  · have hl2:=good_len hg
    rw [Tm.good] at hg
    have hs:=ch_toNat (c:=s) (by omega)
    rw [tx_app2 s l hl2,hasB_cons,hs,decide_eq_false (by omega),Bool.false_or,occ_app]
    by_cases h0:l.length=0
    · rw [if_pos h0,List.length_eq_zero_iff.1 h0];rfl
    · rw [if_neg h0,hasB_app,hM l 0 (fun x hx=>ih x hx (goods_mem hg.2.2 hx)),hasB_cons,decide_eq_false (show ¬ ((41:UInt8).toNat:Int)=c by have:((41:UInt8).toNat:Int)=41:=rfl;omega)]
      show (_ || (false || false))=_
      rw [Bool.or_false,Bool.or_false]
def isVarB (c:Int):Bool:=decide (120≤c) && decide (c≤122)
theorem isVarB_iff {c:Int}:isVarB c=true↔c=120∨c=121∨c=122:=by
  unfold isVarB
  rw [Bool.and_eq_true,decide_eq_true_eq,decide_eq_true_eq]
  omega
theorem text_data (t:Tm):t.text.data.toList=t.tx:=B8_list _
theorem tx_first (U:Tm) (h:U.good):∃ (d:UInt8) (l:List UInt8),U.tx=d :: l∧(d.toNat:Int)=(match U with|.var c=>c|.app s _=>s):=by
  cases U with
  | var c =>
    rw [Tm.good] at h
    exact ⟨ch c,[],by rw [Tm.tx],ch_toNat (by omega)⟩
  | app s l =>
    have hl2:=good_len h
    rw [Tm.good] at h
    exact ⟨ch s,_,tx_app2 s l hl2,ch_toNat (by omega)⟩
theorem head_var {T:Tm} (h:T.good):0 < T.text.size∧isVarB (bt T.text 0)=isV T:=by
  obtain ⟨d,l,h1,h2⟩:=tx_first T h
  have h3:T.text.data.toList.drop 0=d :: l:=by rw [List.drop_zero,text_data,h1]
  obtain ⟨h4,h5,_⟩:=at_cons h3
  refine ⟨h4,?_⟩
  have h5':bt T.text 0=(d.toNat:Int):=h5
  rw [h5',h2]
  cases T with
  | var c=>rw [Tm.good] at h;show isVarB c=true;exact isVarB_iff.2 (by omega)
  | app s l=>rw [Tm.good] at h;show isVarB s=false;rw [←Bool.not_eq_true,isVarB_iff];omega
def okL (rs:List S94):Prop:=rs.length≤7∧∀ x,x∈rs→x.f0.size≤80∧x.f1.size≤80
theorem rdOf_at (xs:List ByteArray) (i:Nat) (h:i < xs.length):rdOf ByteArray.empty xs (i:Int)=xs[i]:=by
  unfold rdOf
  rw [Int.toNat_natCast,List.getD_eq_getElem?_getD,List.getElem?_eq_getElem h]
  rfl
end Go.Proofs.YtaafeallcaiooaaGreat.Pr
