/- the reference's Match. -/
import Derived.Test.YtaafeallcaiooaaGreatHOt
import Derived.Test.YtaafeallcaiooaaGreatHAp
import Derived.Test.YtaafeallcaiooaaGreatPrA3
namespace Go.Proofs.YtaafeallcaiooaaGreat.Pr
open Go.RowKit Go.Maps Go.Proofs.Zw Go.Proofs.Zl Go.Proofs.Zm
set_option linter.unusedVariables false
set_option linter.unusedSimpArgs false
def sx (σ:Sub) (c:Int):ByteArray:=match σ c with
  | none=>⟨#[]⟩
  | some u=>u.text
def cells61 (x y z:ByteArray):Obj:=.cells #[.string x,.string y,.string z] 61 (0,0)
theorem set61_0 {w:World} {g:Nat} {x y z:ByteArray} (h:w.heap[g]?=some (cells61 x y z)) (v:ByteArray):(w.setCell ⟨g,0,none⟩ (.string v)).heap[g]?=some (cells61 v y z):=by
  unfold cells61 at *
  simp [World.setCell,Array.getElem?_modify,h]
theorem set61_1 {w:World} {g:Nat} {x y z:ByteArray} (h:w.heap[g]?=some (cells61 x y z)) (v:ByteArray):(w.setCell ⟨g,1,none⟩ (.string v)).heap[g]?=some (cells61 x v z):=by
  unfold cells61 at *
  simp [World.setCell,Array.getElem?_modify,h]
theorem set61_2 {w:World} {g:Nat} {x y z:ByteArray} (h:w.heap[g]?=some (cells61 x y z)) (v:ByteArray):(w.setCell ⟨g,2,none⟩ (.string v)).heap[g]?=some (cells61 x y v):=by
  unfold cells61 at *
  simp [World.setCell,Array.getElem?_modify,h]
theorem set61 {w:World} {g:Nat} {x y z:ByteArray} (h:w.heap[g]?=some (cells61 x y z)) (a b c:ByteArray):(((w.setCell ⟨g,0,none⟩ (.string a)).setCell ⟨g,1,none⟩ (.string b)).setCell ⟨g,2,none⟩ (.string c)).heap[g]?=some (cells61 a b c):=set61_2 (set61_1 (set61_0 h a) b) c
section
end
noncomputable def endC (s:ByteArray) (i:Int):Option Int:=by
 classical
 exact if h:∃ r k,nr_End.f k s i=some r then some (Classical.choose h) else none
theorem endC_some {s:ByteArray} {i r:Int} (h:endC s i=some r):∃ k,nr_End.f k s i=some r:=by
 classical
 unfold endC at h
 split at h
 ·rename_i hh
  injection h with h
  subst h
  exact Classical.choose_spec hh
 ·cases h
theorem endC_calls {s:ByteArray} {i r:Int} (h:endC s i=some r) (w:World):Calls Tryz.prog 72 #[.string s,.int .i64 i] w fun e w'=>e=.returned (.int .i64 r)∧Below w.heap.size w w':=by
 obtain ⟨k,hk⟩:=endC_some h
 refine (nr_End.calls k s i r w hk).mono ?_
 rintro e w' ⟨rfl,nd,rfl⟩
 exact ⟨rfl,pw_below_drewN (Below.refl _ _) nd⟩
noncomputable def ms (t:ByteArray):List UInt8→Nat→ByteArray→ByteArray→ByteArray→Option (Option (ByteArray × ByteArray × ByteArray × Nat))
 | [],at_,x,y,z=>some (some (x,y,z,at_))
 | c :: r,at_,x,y,z =>
  if at_≥t.size then some none
  else if isVarI (c.toNat:Int)=false then (if (c.toNat:Int)=bAt t at_ then ms t r (at_+1) x y z else some none)
  else match endC t (at_:Int) with
   | none=>none
   | some e =>
    if e < 0 then some none
    else if at_≤e.toNat∧e.toNat≤t.size then
     if c=120 then (if x.size=0∨x=t.extract at_ e.toNat then ms t r e.toNat (t.extract at_ e.toNat) y z else some none)
     else if c=121 then (if y.size=0∨y=t.extract at_ e.toNat then ms t r e.toNat x (t.extract at_ e.toNat) z else some none)
     else (if z.size=0∨z=t.extract at_ e.toNat then ms t r e.toNat x y (t.extract at_ e.toNat) else some none)
    else none
def finM (t:ByteArray):Option (ByteArray × ByteArray × ByteArray × Nat)→ByteArray × ByteArray × ByteArray × Bool
 | none=>(⟨#[]⟩,⟨#[]⟩,⟨#[]⟩,false)
 | some (x,y,z,at_)=>if at_=t.size then (x,y,z,true) else (⟨#[]⟩,⟨#[]⟩,⟨#[]⟩,false)
theorem fin_no {t r0 r1 r2:ByteArray} {r3:Bool} (h:(some none:Option (Option (ByteArray × ByteArray × ByteArray × Nat))).map (finM t)=some (r0,r1,r2,r3)):r0=⟨#[]⟩∧r1=⟨#[]⟩∧r2=⟨#[]⟩∧r3=false:=by
 injection h with h
 unfold finM at h
 injection h with h1 h
 injection h with h2 h
 injection h with h3 h4
 exact ⟨h1.symm,h2.symm,h3.symm,h4.symm⟩
theorem set_blk_ne {w:World} {g k j:Nat} {v:Value} (h:k≠g):(w.setCell ⟨g,j,none⟩ v).heap[k]?=w.heap[k]?:=by
 have hb:=But.set (g:=g) w j v
 by_cases hk:k < w.heap.size
 ·exact hb.block k hk h
 ·have h1:w.heap[k]?=none:=Array.getElem?_eq_none (by omega)
  have h2:(w.setCell ⟨g,j,none⟩ v).heap[k]?=none:=Array.getElem?_eq_none (by simp [World.setCell];omega)
  rw [h1,h2]
theorem wr4' (k:Nat) (h:k < 1000001):wrap64 ((k:Int)+1)=(k:Int)+1:=wrS (by omega) (by omega)
set_option maxRecDepth 100000 in
set_option maxHeartbeats 4000000 in
theorem refMatch_calls (p t:ByteArray) (hp:p.size≤1000000) (ht:t.size≤1000000) (r0 r1 r2:ByteArray) (r3:Bool) (h:(ms t p.data.toList 0 ⟨#[]⟩ ⟨#[]⟩ ⟨#[]⟩).map (finM t)=some (r0,r1,r2,r3)) (w:World) :
  Calls Tryz.prog 48 #[.string p,.string t] w fun e w'=>e=.returned (.tuple #[.agg #[.string r0,.string r1,.string r2],.bool r3])∧Below w.heap.size w w':=by
 have HP:=Aside0.mk (And.intro hp ht)
 have HH:=Aside0.mk h
 clear hp ht h
 go_enter Tryz.func48,Tryz.ntmps48
 go_wp2
 go_loopw [7,8] (fun v7 v8 wr=>∃ (i at_:Nat) (x y z:ByteArray),v7=.int .i64 (at_:Int)∧v8=.int .i64 (i:Int)∧Aside0 (i≤p.size)∧Aside0 (at_≤t.size)∧Aside0 ((ms t (p.data.toList.drop i) at_ x y z).map (finM t)=some (r0,r1,r2,r3))∧Aside0 (Below w.heap.size w wr∧wr.heap[w.heap.size]?=some (cells61 ⟨#[]⟩ ⟨#[]⟩ ⟨#[]⟩)∧wr.heap[w.heap.size+1]?=some (cells61 x y z))) (fun _ v8 _=>p.size - (intOf v8).toNat)
 case atStart=>exact ⟨0,0,⟨#[]⟩,⟨#[]⟩,⟨#[]⟩,rfl,rfl,⟨Nat.zero_le _⟩,⟨Nat.zero_le _⟩,⟨by rw [List.drop_zero];exact HH.out⟩,⟨below_alloc (below_alloc (Below.refl _ _) _) _,blk_alloc (blk_new w _) _,blk_new1' w _ _⟩⟩
 case round =>
  obtain ⟨i,at_,x,y,z,rfl,rfl,HI,HAT,HR,HS⟩:=hrel
  obtain ⟨hp,ht⟩:=HP.out
  have hz0:=blk_frozen HS.out.2.1 0
  have hz1:=blk_frozen HS.out.2.1 1
  have hz2:=blk_frozen HS.out.2.1 2
  have hd0:wr.cell? ⟨w.heap.size,0,none⟩=some (.string ⟨#[]⟩):=blk_cell HS.out.2.1 0
  have hd1:wr.cell? ⟨w.heap.size,1,none⟩=some (.string ⟨#[]⟩):=blk_cell HS.out.2.1 1
  have hd2:wr.cell? ⟨w.heap.size,2,none⟩=some (.string ⟨#[]⟩):=blk_cell HS.out.2.1 2
  by_cases hlt:i < p.size
  ·have hlb:decide ((i:Int) < (p.size:Int))=true:=decide_eq_true (by omega)
   have hw1:=wr4' i (by omega)
   have hll:i < p.data.toList.length:=by simpa using hlt
   have hdr:p.data.toList.drop i=p[i] :: p.data.toList.drop (i+1):=by rw [List.drop_eq_getElem_cons hll,list_get p i hlt]
   have hR:=HR.out
   rw [hdr,ms] at hR
   have hbt:∀ h,(((p[i]'h).toNat:Nat):Int)=((p[i]'hlt).toNat:Int):=fun h=>rfl
   obtain ⟨c,hc⟩:∃ c,c=p[i]'hlt:=⟨_,rfl⟩
   rw [←hc] at hR hbt
   clear hdr hc hll HR
   by_cases hge:at_≥t.size
   ·have hgb:decide ((at_:Int)≥(t.size:Int))=true:=decide_eq_true (by omega)
    rw [if_pos hge] at hR
    have HR:=Aside0.mk hR
    clear hR hp ht hbt hw1
    obtain ⟨rfl,rfl,rfl,rfl⟩:=fin_no (HR.out)
    clear HR
    go_wp2
    have hlast:=set61 HS.out.2.1 ⟨#[]⟩ ⟨#[]⟩ ⟨#[]⟩
    unfold cells61 at hlast
    refine bodyPost_ret (results_ct (P:=Tryz.prog) rfl _ _ w.heap.size 61 #[.string ⟨#[]⟩,.string ⟨#[]⟩,.string ⟨#[]⟩] (0,0) _ rfl hlast Tryz.underlying61 rfl (by kernel_rfl)) rfl ?_
    exact ⟨by first|rfl|trivial,below_set (below_set (below_set HS.out.1 (Nat.le_refl _)) (Nat.le_refl _)) (Nat.le_refl _)⟩
   ·have hgb:decide ((at_:Int)≥(t.size:Int))=false:=decide_eq_false (by omega)
    rw [if_neg hge] at hR
    have hla:at_ < t.size:=by omega
    have hba:∀ h,(((t[at_]'h).toNat:Nat):Int)=bAt t at_:=fun h=>by unfold bAt;rw [dif_pos h]
    have hwa:=wr4' at_ (by omega)
    have hcv:=isvar_calls (c.toNat:Int) wr
    by_cases hv:isVarI (c.toNat:Int)=false
    ·rw [if_pos hv] at hR
     rw [hv] at hcv
     have HCV:=Aside0.mk hcv
     clear hcv hp ht
     by_cases hcd:(c.toNat:Int)=bAt t at_
     ·rw [if_pos hcd] at hR
      have HR:=Aside0.mk hR
      have hqq:((c.toNat:Int) != bAt t at_)=false:=by rw [hcd];simp
      clear hR hge hv hcd
      go_wp2_with (go_at_call 74;refine HCV.out.mono ?_;rintro e w1 ⟨rfl,h1⟩;subst w1)
      refine start_ (n:=7) (S:=fun w'=>True) (ds:=[]) (bm 7 0) (by kernel_rfl) rfl rfl trivial (fun hHeld=>?_)
      refine pk_ 0 27 (bm 7 1) ?_
      refine pk_ 1 28 (bm 7 3) ?_
      refine pk_ 3 30 (bm 7 11) ?_
      refine pk_ 4 31 (bm 7 27) ?_
      refine take_ (i:=2) (N:=some 29) (v:=?_) (a':=?_) (bm 7 31) rfl rfl (by kernel_rfl) (fun _ _ _ h=>h) (Or.inl ⟨by rfl,?_⟩) hHeld ?_ ?_;rotate_left
      ·intro w' _
       go_simp
       with_reducible rfl
      rotate_left;exact tP_
      refine take_ (i:=5) (N:=some 32) (v:=?_) (a':=?_) (bm 7 63) rfl rfl (by kernel_rfl) (fun _ _ _ h=>h) (Or.inl ⟨by rfl,?_⟩) hHeld ?_ ?_;rotate_left
      ·intro w' _
       go_simp
       with_reducible rfl
      rotate_left;exact tP_
      refine pk_ 6 33 (bm 7 127) ?_
      refine done_ (by kernel_rfl) ?_
      go_wp2
      refine ⟨⟨i+1,at_+1,x,y,z,by first|rfl|(rw [hwa];rfl),by first|rfl|(rw [hw1];rfl),⟨hlt⟩,⟨hla⟩,HR,⟨pw_below_drewN HS.out.1 1,blk_drew HS.out.2.1,blk_drew HS.out.2.2⟩⟩,?_⟩
      try rw [hw1]
      simp only [intOf]
      clear hw1 hwa
      omega
     ·rw [if_neg hcd] at hR
      have hqq:((c.toNat:Int) != bAt t at_)=true:=bne_iff_ne.2 hcd
      obtain ⟨rfl,rfl,rfl,rfl⟩:=fin_no hR
      clear hR hge hv hcd
      go_wp2_with (go_at_call 74;refine HCV.out.mono ?_;rintro e w1 ⟨rfl,h1⟩;subst w1)
      refine start_ (n:=7) (S:=fun w'=>True) (ds:=[]) (bm 7 0) (by kernel_rfl) rfl rfl trivial (fun hHeld=>?_)
      refine pk_ 0 27 (bm 7 1) ?_
      refine pk_ 1 28 (bm 7 3) ?_
      refine pk_ 3 30 (bm 7 11) ?_
      refine pk_ 4 31 (bm 7 27) ?_
      refine take_ (i:=2) (N:=some 29) (v:=?_) (a':=?_) (bm 7 31) rfl rfl (by kernel_rfl) (fun _ _ _ h=>h) (Or.inl ⟨by rfl,?_⟩) hHeld ?_ ?_;rotate_left
      ·intro w' _
       go_simp
       with_reducible rfl
      rotate_left;exact tP_
      refine take_ (i:=5) (N:=some 32) (v:=?_) (a':=?_) (bm 7 63) rfl rfl (by kernel_rfl) (fun _ _ _ h=>h) (Or.inl ⟨by rfl,?_⟩) hHeld ?_ ?_;rotate_left
      ·intro w' _
       go_simp
       with_reducible rfl
      rotate_left;exact tP_
      refine pk_ 6 33 (bm 7 127) ?_
      refine done_ (by kernel_rfl) ?_
      have HS2:=Aside0.mk (And.intro (pw_below_drewN HS.out.1 1) (And.intro (blk_drew HS.out.2.1) (blk_drew HS.out.2.2)))
      have hzq0:=blk_frozen HS2.out.2.1 0
      have hzq1:=blk_frozen HS2.out.2.1 1
      have hzq2:=blk_frozen HS2.out.2.1 2
      have hdq0:wr.drew.cell? ⟨w.heap.size,0,none⟩=some (.string ⟨#[]⟩):=blk_cell HS2.out.2.1 0
      have hdq1:wr.drew.cell? ⟨w.heap.size,1,none⟩=some (.string ⟨#[]⟩):=blk_cell HS2.out.2.1 1
      have hdq2:wr.drew.cell? ⟨w.heap.size,2,none⟩=some (.string ⟨#[]⟩):=blk_cell HS2.out.2.1 2
      go_wp2
      have hlast:=set61 HS2.out.2.1 ⟨#[]⟩ ⟨#[]⟩ ⟨#[]⟩
      unfold cells61 at hlast
      refine bodyPost_ret (results_ct (P:=Tryz.prog) rfl _ _ w.heap.size 61 #[.string ⟨#[]⟩,.string ⟨#[]⟩,.string ⟨#[]⟩] (0,0) _ rfl hlast Tryz.underlying61 rfl (by kernel_rfl)) rfl ?_
      exact ⟨by first|rfl|trivial,below_set (below_set (below_set HS2.out.1 (Nat.le_refl _)) (Nat.le_refl _)) (Nat.le_refl _)⟩
    ·rw [if_neg hv] at hR
     have hck:c=120∨c=121∨c=122:=by
      unfold isVarI at hv
      have h3:c.toNat=120∨c.toNat=121∨c.toNat=122:=by
       by_cases a1:(c.toNat:Int)≥120
       ·by_cases a2:(c.toNat:Int)≤122
        ·omega
        ·exact absurd (by rw [decide_eq_false a2,Bool.and_false]) hv
       ·exact absurd (by rw [decide_eq_false a1,Bool.false_and]) hv
      rcases h3 with h3|h3|h3
      ·exact .inl (UInt8.toNat_inj.1 h3)
      ·exact .inr (.inl (UInt8.toNat_inj.1 h3))
      ·exact .inr (.inr (UInt8.toNat_inj.1 h3))
     cases hE:endC t (at_:Int) with
     | none=>rw [hE] at hR;cases hR
     | some e =>
      rw [hE] at hR
      dsimp only at hR
      have HEC:=Aside0.mk (endC_calls hE wr)
      by_cases he:e < 0
      ·rw [if_pos he] at hR
       have hel:decide (e < 0)=true:=decide_eq_true he
       obtain ⟨rfl,rfl,rfl,rfl⟩:=fin_no hR
       have hu:isVarI (c.toNat:Int)=true:=by cases hq:isVarI (c.toNat:Int) with|true=>rfl|false=>exact absurd hq hv
       rw [hu] at hcv
       have HCV:=Aside0.mk hcv
       clear hcv hu hR hge hv hck hE hp ht hz0 hz1 hz2 hd0 hd1 hd2
       go_wp2_with (first
        | (go_at_call 74;refine HCV.out.mono ?_;rintro e w1 ⟨rfl,h1⟩;subst w1)
        | (go_at_call 72;refine HEC.out.mono ?_;rintro e w2 ⟨rfl,hb⟩;have H2:=Aside0.mk (And.intro (below_step HS.out.1 hb) (And.intro (blk_below HS.out.2.1 hb) (blk_below HS.out.2.2 hb)));have hz0:=blk_frozen H2.out.2.1 0;have hz1:=blk_frozen H2.out.2.1 1;have hz2:=blk_frozen H2.out.2.1 2;have hd0:w2.cell? ⟨w.heap.size,0,none⟩=some (.string ⟨#[]⟩):=blk_cell H2.out.2.1 0;have hd1:w2.cell? ⟨w.heap.size,1,none⟩=some (.string ⟨#[]⟩):=blk_cell H2.out.2.1 1;have hd2:w2.cell? ⟨w.heap.size,2,none⟩=some (.string ⟨#[]⟩):=blk_cell H2.out.2.1 2;clear hb))
       have hlast:=set61 H2.out.2.1 ⟨#[]⟩ ⟨#[]⟩ ⟨#[]⟩
       unfold cells61 at hlast
       refine bodyPost_ret (results_ct (P:=Tryz.prog) rfl _ _ w.heap.size 61 #[.string ⟨#[]⟩,.string ⟨#[]⟩,.string ⟨#[]⟩] (0,0) _ rfl hlast Tryz.underlying61 rfl (by kernel_rfl)) rfl ?_
       exact ⟨by first|rfl|trivial,below_set (below_set (below_set H2.out.1 (Nat.le_refl _)) (Nat.le_refl _)) (Nat.le_refl _)⟩
      ·rw [if_neg he] at hR
       have hel:decide (e < 0)=false:=decide_eq_false he
       obtain ⟨en,rfl⟩:∃ en:Nat,e=(en:Int):=⟨e.toNat,by omega⟩
       rw [Int.toNat_natCast] at hR
       by_cases hae:at_≤en∧en≤t.size
       ·rw [if_pos hae] at hR
        obtain ⟨hae1,hen⟩:=hae
        have hi1:((at_:Nat):Int)≤(en:Int):=by omega
        have hi2:((en:Nat):Int)≤(t.size:Int):=by omega
        have HR0:Aside0 (c=120→(x.size=0∨x=t.extract at_ en)→(ms t (p.data.toList.drop (i+1)) en (t.extract at_ en) y z).map (finM t)=some (r0,r1,r2,r3)):=⟨fun h1 h2=>by rw [if_pos h1,if_pos h2] at hR;exact hR⟩
        have HRn0:Aside0 (c=120→¬ x.size=0→¬ x=t.extract at_ en→r0=⟨#[]⟩∧r1=⟨#[]⟩∧r2=⟨#[]⟩∧r3=false):=⟨fun h1 h2 h3=>by rw [if_pos h1,if_neg (fun h=>h.elim h2 h3)] at hR;exact fin_no hR⟩
        have HR1:Aside0 (c=121→(y.size=0∨y=t.extract at_ en)→(ms t (p.data.toList.drop (i+1)) en x (t.extract at_ en) z).map (finM t)=some (r0,r1,r2,r3)):=⟨fun h1 h2=>by rw [if_neg (by rw [h1];decide),if_pos h1,if_pos h2] at hR;exact hR⟩
        have HRn1:Aside0 (c=121→¬ y.size=0→¬ y=t.extract at_ en→r0=⟨#[]⟩∧r1=⟨#[]⟩∧r2=⟨#[]⟩∧r3=false):=⟨fun h1 h2 h3=>by rw [if_neg (by rw [h1];decide),if_pos h1,if_neg (fun h=>h.elim h2 h3)] at hR;exact fin_no hR⟩
        have HR2:Aside0 (c=122→(z.size=0∨z=t.extract at_ en)→(ms t (p.data.toList.drop (i+1)) en x y (t.extract at_ en)).map (finM t)=some (r0,r1,r2,r3)):=⟨fun h1 h2=>by rw [if_neg (by rw [h1];decide),if_neg (by rw [h1];decide),if_pos h2] at hR;exact hR⟩
        have HRn2:Aside0 (c=122→¬ z.size=0→¬ z=t.extract at_ en→r0=⟨#[]⟩∧r1=⟨#[]⟩∧r2=⟨#[]⟩∧r3=false):=⟨fun h1 h2 h3=>by rw [if_neg (by rw [h1];decide),if_neg (by rw [h1];decide),if_neg (fun h=>h.elim h2 h3)] at hR;exact fin_no hR⟩
        clear hR hge hv hE hp ht hz0 hz1 hz2 hd0 hd1 hd2 hba hwa he
        rcases hck with hck|hck|hck
        ·obtain rfl:c=120:=hck
         have hu:isVarI (((120:UInt8).toNat:Nat):Int)=true:=rfl
         rw [hu] at hcv
         have HCV:=Aside0.mk hcv
         clear hcv hu
         by_cases hx0:x.size=0
         ·obtain rfl:x=⟨#[]⟩:=ByteArray.ext (Array.eq_empty_of_size_eq_zero hx0)
          have HN:=Aside0.mk (HR0.out rfl (.inl rfl))
          clear hx0 HR0
          go_wp2_with (first
          | (go_at_call 74;refine HCV.out.mono ?_;rintro e w1 ⟨rfl,h1⟩;subst w1)
          | (go_at_call 72;refine HEC.out.mono ?_;rintro e w2 ⟨rfl,hb⟩;have H2:=Aside0.mk (And.intro (below_step HS.out.1 hb) (And.intro (blk_below HS.out.2.1 hb) (blk_below HS.out.2.2 hb)));clear hb))
          have hy0:w2.drew.cell? ⟨w.heap.size+1,0,none⟩=some (.string ⟨#[]⟩):=blk_cell (blk_drew H2.out.2.2) 0
          refine start_ (n:=14) (S:=fun w'=>w'.cell? ⟨w.heap.size+1,0,none⟩=some (.string ⟨#[]⟩)) (ds:=[]) (bm 14 0) (by kernel_rfl) rfl rfl (hy0) (fun hHeld=>?_)
          refine pk_ 0 48 (bm 14 1) ?_
          refine pk_ 1 49 (bm 14 3) ?_
          refine take_ (i:=2) (N:=some 50) (v:=?_) (a':=?_) (bm 14 7) rfl rfl (by kernel_rfl) (fun _ _ _ h=>h) (Or.inl ⟨by rfl,?_⟩) hHeld ?_ ?_;rotate_left
          ·intro w' s0
           go_simp
           with_reducible rfl
          rotate_left;exact tP_
          refine pk_ 3 51 (bm 14 15) ?_
          refine pk_ 4 52 (bm 14 31) ?_
          refine pure_ (i:=5) (N:=some 53) (v:=undef) (a':=?_) (bm 14 63) rfl rfl (by kernel_rfl) (fun _ _ _ h=>h) (Or.inr ⟨by rfl,rfl⟩) ?_ ?_;rotate_left;exact tP_
          refine pure_ (i:=6) (N:=some 54) (v:=undef) (a':=?_) (bm 14 127) rfl rfl (by kernel_rfl) (fun _ _ _ h=>h) (Or.inr ⟨by rfl,rfl⟩) ?_ ?_;rotate_left;exact tP_
          refine pure_ (i:=7) (N:=some 55) (v:=undef) (a':=?_) (bm 14 255) rfl rfl (by kernel_rfl) (fun _ _ _ h=>h) (Or.inr ⟨by rfl,rfl⟩) ?_ ?_;rotate_left;exact tP_
          refine pure_ (i:=8) (N:=some 56) (v:=undef) (a':=?_) (bm 14 511) rfl rfl (by kernel_rfl) (fun _ _ _ h=>h) (Or.inr ⟨by rfl,rfl⟩) ?_ ?_;rotate_left;exact tP_
          refine pure_ (i:=9) (N:=some 57) (v:=undef) (a':=?_) (bm 14 1023) rfl rfl (by kernel_rfl) (fun _ _ _ h=>h) (Or.inr ⟨by rfl,rfl⟩) ?_ ?_;rotate_left;exact tP_
          refine pure_ (i:=10) (N:=some 58) (v:=undef) (a':=?_) (bm 14 2047) rfl rfl (by kernel_rfl) (fun _ _ _ h=>h) (Or.inr ⟨by rfl,rfl⟩) ?_ ?_;rotate_left;exact tP_
          refine pure_ (i:=11) (N:=some 59) (v:=undef) (a':=?_) (bm 14 4095) rfl rfl (by kernel_rfl) (fun _ _ _ h=>h) (Or.inr ⟨by rfl,rfl⟩) ?_ ?_;rotate_left;exact tP_
          refine pure_ (i:=12) (N:=some 60) (v:=undef) (a':=?_) (bm 14 8191) rfl rfl (by kernel_rfl) (fun _ _ _ h=>h) (Or.inr ⟨by rfl,rfl⟩) ?_ ?_;rotate_left;exact tP_
          refine pk_ 13 61 (bm 14 16383) ?_
          refine done_ (by kernel_rfl) ?_
          have H3:=Aside0.mk (And.intro (pw_below_drewN H2.out.1 1) (And.intro (blk_drew H2.out.2.1) (blk_drew H2.out.2.2)))
          have hzp:=blk_frozen H2.out.2.2 0
          have hdp:w2.cell? ⟨w.heap.size+1,0,none⟩=some (.string ⟨#[]⟩):=blk_cell H2.out.2.2 0
          have hz1:=blk_frozen H3.out.2.2 0
          have hd1:w2.drew.cell? ⟨w.heap.size+1,0,none⟩=some (.string ⟨#[]⟩):=blk_cell H3.out.2.2 0
          go_wp2
          refine ⟨⟨i+1,en,(t.extract at_ en),y,z,rfl,by first|rfl|(rw [hw1];rfl),⟨hlt⟩,⟨hen⟩,⟨HN.out⟩,⟨below_set H3.out.1 (Nat.le_succ _),(set_blk_ne (Nat.ne_of_lt (Nat.lt_succ_self _))).trans H3.out.2.1,set61_0 H3.out.2.2 _⟩⟩,?_⟩
          try rw [hw1]
          simp only [intOf]
          clear hw1
          omega
         ·have hxe:x.toList.isEmpty=false:=toList_nonempty (by omega)
          by_cases hxp:x=t.extract at_ en
          ·have HN:=Aside0.mk (HR0.out rfl (.inr hxp))
           have hxq:(x.toList != (t.extract at_ en).toList)=false:=by rw [hxp];simp
           have hxq2:(x.toList == (t.extract at_ en).toList)=true:=by rw [hxp];simp
           clear hx0 HR0 hxp
           go_wp2_with (first
          | (go_at_call 74;refine HCV.out.mono ?_;rintro e w1 ⟨rfl,h1⟩;subst w1)
          | (go_at_call 72;refine HEC.out.mono ?_;rintro e w2 ⟨rfl,hb⟩;have H2:=Aside0.mk (And.intro (below_step HS.out.1 hb) (And.intro (blk_below HS.out.2.1 hb) (blk_below HS.out.2.2 hb)));clear hb))
           have hy0:w2.drew.cell? ⟨w.heap.size+1,0,none⟩=some (.string x):=blk_cell (blk_drew H2.out.2.2) 0
           refine start_ (n:=14) (S:=fun w'=>w'.cell? ⟨w.heap.size+1,0,none⟩=some (.string x)) (ds:=[]) (bm 14 0) (by kernel_rfl) rfl rfl (hy0) (fun hHeld=>?_)
           refine pk_ 0 48 (bm 14 1) ?_
           refine pk_ 1 49 (bm 14 3) ?_
           refine take_ (i:=2) (N:=some 50) (v:=?_) (a':=?_) (bm 14 7) rfl rfl (by kernel_rfl) (fun _ _ _ h=>h) (Or.inl ⟨by rfl,?_⟩) hHeld ?_ ?_;rotate_left
           ·intro w' s0
            go_simp
            with_reducible rfl
           rotate_left;exact tP_
           refine pk_ 3 51 (bm 14 15) ?_
           refine pk_ 4 52 (bm 14 31) ?_
           refine pk_ 5 53 (bm 14 63) ?_
           refine pk_ 6 54 (bm 14 127) ?_
           refine pk_ 8 56 (bm 14 383) ?_
           refine pk_ 9 57 (bm 14 895) ?_
           refine pk_ 10 58 (bm 14 1919) ?_
           refine pk_ 11 59 (bm 14 3967) ?_
           refine take_ (i:=7) (N:=some 55) (v:=?_) (a':=?_) (bm 14 4095) rfl rfl (by kernel_rfl) (fun _ _ _ h=>h) (Or.inl ⟨by rfl,?_⟩) hHeld ?_ ?_;rotate_left
           ·intro w' s0
            go_simp
            with_reducible rfl
           rotate_left;exact tP_
           refine pk_ 12 60 (bm 14 8191) ?_
           refine pk_ 13 61 (bm 14 16383) ?_
           refine done_ (by kernel_rfl) ?_
           have H3:=Aside0.mk (And.intro (pw_below_drewN H2.out.1 1) (And.intro (blk_drew H2.out.2.1) (blk_drew H2.out.2.2)))
           have hzp:=blk_frozen H2.out.2.2 0
           have hdp:w2.cell? ⟨w.heap.size+1,0,none⟩=some (.string x):=blk_cell H2.out.2.2 0
           have hz1:=blk_frozen H3.out.2.2 0
           have hd1:w2.drew.cell? ⟨w.heap.size+1,0,none⟩=some (.string x):=blk_cell H3.out.2.2 0
           go_wp2
           refine ⟨⟨i+1,en,(t.extract at_ en),y,z,rfl,by first|rfl|(rw [hw1];rfl),⟨hlt⟩,⟨hen⟩,⟨HN.out⟩,⟨below_set H3.out.1 (Nat.le_succ _),(set_blk_ne (Nat.ne_of_lt (Nat.lt_succ_self _))).trans H3.out.2.1,set61_0 H3.out.2.2 _⟩⟩,?_⟩
           try rw [hw1]
           simp only [intOf]
           clear hw1
           omega
          ·have hxq:(x.toList != (t.extract at_ en).toList)=true:=bne_iff_ne.2 (fun e=>hxp (by rw [ByteArray.toList_eq,ByteArray.toList_eq] at e;rw [←B8_of x,e,B8_of]))
           have hxq2:(x.toList == (t.extract at_ en).toList)=false:=by have h:=hxq;rw [bne] at h;simpa using h
           obtain ⟨rfl,rfl,rfl,rfl⟩:=HRn0.out rfl hx0 hxp
           clear hx0 HR0
           go_wp2_with (first
          | (go_at_call 74;refine HCV.out.mono ?_;rintro e w1 ⟨rfl,h1⟩;subst w1)
          | (go_at_call 72;refine HEC.out.mono ?_;rintro e w2 ⟨rfl,hb⟩;have H2:=Aside0.mk (And.intro (below_step HS.out.1 hb) (And.intro (blk_below HS.out.2.1 hb) (blk_below HS.out.2.2 hb)));clear hb))
           have hy0:w2.drew.cell? ⟨w.heap.size+1,0,none⟩=some (.string x):=blk_cell (blk_drew H2.out.2.2) 0
           refine start_ (n:=14) (S:=fun w'=>w'.cell? ⟨w.heap.size+1,0,none⟩=some (.string x)) (ds:=[]) (bm 14 0) (by kernel_rfl) rfl rfl (hy0) (fun hHeld=>?_)
           refine pk_ 0 48 (bm 14 1) ?_
           refine pk_ 1 49 (bm 14 3) ?_
           refine take_ (i:=2) (N:=some 50) (v:=?_) (a':=?_) (bm 14 7) rfl rfl (by kernel_rfl) (fun _ _ _ h=>h) (Or.inl ⟨by rfl,?_⟩) hHeld ?_ ?_;rotate_left
           ·intro w' s0
            go_simp
            with_reducible rfl
           rotate_left;exact tP_
           refine pk_ 3 51 (bm 14 15) ?_
           refine pk_ 4 52 (bm 14 31) ?_
           refine pk_ 5 53 (bm 14 63) ?_
           refine pk_ 6 54 (bm 14 127) ?_
           refine pk_ 8 56 (bm 14 383) ?_
           refine pk_ 9 57 (bm 14 895) ?_
           refine pk_ 10 58 (bm 14 1919) ?_
           refine pk_ 11 59 (bm 14 3967) ?_
           refine take_ (i:=7) (N:=some 55) (v:=?_) (a':=?_) (bm 14 4095) rfl rfl (by kernel_rfl) (fun _ _ _ h=>h) (Or.inl ⟨by rfl,?_⟩) hHeld ?_ ?_;rotate_left
           ·intro w' s0
            go_simp
            with_reducible rfl
           rotate_left;exact tP_
           refine pk_ 12 60 (bm 14 8191) ?_
           refine pk_ 13 61 (bm 14 16383) ?_
           refine done_ (by kernel_rfl) ?_
           have HS3:=Aside0.mk (And.intro (pw_below_drewN H2.out.1 1) (And.intro (blk_drew H2.out.2.1) (blk_drew H2.out.2.2)))
           have hz0:=blk_frozen H2.out.2.1 0
           have hz1:=blk_frozen H2.out.2.1 1
           have hz2:=blk_frozen H2.out.2.1 2
           have hd0:w2.cell? ⟨w.heap.size,0,none⟩=some (.string ⟨#[]⟩):=blk_cell H2.out.2.1 0
           have hd1:w2.cell? ⟨w.heap.size,1,none⟩=some (.string ⟨#[]⟩):=blk_cell H2.out.2.1 1
           have hd2:w2.cell? ⟨w.heap.size,2,none⟩=some (.string ⟨#[]⟩):=blk_cell H2.out.2.1 2
           have hzq0:=blk_frozen HS3.out.2.1 0
           have hzq1:=blk_frozen HS3.out.2.1 1
           have hzq2:=blk_frozen HS3.out.2.1 2
           have hdq0:w2.drew.cell? ⟨w.heap.size,0,none⟩=some (.string ⟨#[]⟩):=blk_cell HS3.out.2.1 0
           have hdq1:w2.drew.cell? ⟨w.heap.size,1,none⟩=some (.string ⟨#[]⟩):=blk_cell HS3.out.2.1 1
           have hdq2:w2.drew.cell? ⟨w.heap.size,2,none⟩=some (.string ⟨#[]⟩):=blk_cell HS3.out.2.1 2
           go_wp2
           have hlast:=set61 HS3.out.2.1 ⟨#[]⟩ ⟨#[]⟩ ⟨#[]⟩
           unfold cells61 at hlast
           refine bodyPost_ret (results_ct (P:=Tryz.prog) rfl _ _ w.heap.size 61 #[.string ⟨#[]⟩,.string ⟨#[]⟩,.string ⟨#[]⟩] (0,0) _ rfl hlast Tryz.underlying61 rfl (by kernel_rfl)) rfl ?_
           exact ⟨by first|rfl|trivial,below_set (below_set (below_set HS3.out.1 (Nat.le_refl _)) (Nat.le_refl _)) (Nat.le_refl _)⟩
        ·obtain rfl:c=121:=hck
         have hu:isVarI (((121:UInt8).toNat:Nat):Int)=true:=rfl
         rw [hu] at hcv
         have HCV:=Aside0.mk hcv
         clear hcv hu
         by_cases hx0:y.size=0
         ·obtain rfl:y=⟨#[]⟩:=ByteArray.ext (Array.eq_empty_of_size_eq_zero hx0)
          have HN:=Aside0.mk (HR1.out rfl (.inl rfl))
          clear hx0 HR1
          go_wp2_with (first
          | (go_at_call 74;refine HCV.out.mono ?_;rintro e w1 ⟨rfl,h1⟩;subst w1)
          | (go_at_call 72;refine HEC.out.mono ?_;rintro e w2 ⟨rfl,hb⟩;have H2:=Aside0.mk (And.intro (below_step HS.out.1 hb) (And.intro (blk_below HS.out.2.1 hb) (blk_below HS.out.2.2 hb)));clear hb))
          have hy0:w2.drew.cell? ⟨w.heap.size+1,1,none⟩=some (.string ⟨#[]⟩):=blk_cell (blk_drew H2.out.2.2) 1
          refine start_ (n:=14) (S:=fun w'=>w'.cell? ⟨w.heap.size+1,1,none⟩=some (.string ⟨#[]⟩)) (ds:=[]) (bm 14 0) (by kernel_rfl) rfl rfl (hy0) (fun hHeld=>?_)
          refine pk_ 0 48 (bm 14 1) ?_
          refine pk_ 1 49 (bm 14 3) ?_
          refine take_ (i:=2) (N:=some 50) (v:=?_) (a':=?_) (bm 14 7) rfl rfl (by kernel_rfl) (fun _ _ _ h=>h) (Or.inl ⟨by rfl,?_⟩) hHeld ?_ ?_;rotate_left
          ·intro w' s0
           go_simp
           with_reducible rfl
          rotate_left;exact tP_
          refine pk_ 3 51 (bm 14 15) ?_
          refine pk_ 4 52 (bm 14 31) ?_
          refine pure_ (i:=5) (N:=some 53) (v:=undef) (a':=?_) (bm 14 63) rfl rfl (by kernel_rfl) (fun _ _ _ h=>h) (Or.inr ⟨by rfl,rfl⟩) ?_ ?_;rotate_left;exact tP_
          refine pure_ (i:=6) (N:=some 54) (v:=undef) (a':=?_) (bm 14 127) rfl rfl (by kernel_rfl) (fun _ _ _ h=>h) (Or.inr ⟨by rfl,rfl⟩) ?_ ?_;rotate_left;exact tP_
          refine pure_ (i:=7) (N:=some 55) (v:=undef) (a':=?_) (bm 14 255) rfl rfl (by kernel_rfl) (fun _ _ _ h=>h) (Or.inr ⟨by rfl,rfl⟩) ?_ ?_;rotate_left;exact tP_
          refine pure_ (i:=8) (N:=some 56) (v:=undef) (a':=?_) (bm 14 511) rfl rfl (by kernel_rfl) (fun _ _ _ h=>h) (Or.inr ⟨by rfl,rfl⟩) ?_ ?_;rotate_left;exact tP_
          refine pure_ (i:=9) (N:=some 57) (v:=undef) (a':=?_) (bm 14 1023) rfl rfl (by kernel_rfl) (fun _ _ _ h=>h) (Or.inr ⟨by rfl,rfl⟩) ?_ ?_;rotate_left;exact tP_
          refine pure_ (i:=10) (N:=some 58) (v:=undef) (a':=?_) (bm 14 2047) rfl rfl (by kernel_rfl) (fun _ _ _ h=>h) (Or.inr ⟨by rfl,rfl⟩) ?_ ?_;rotate_left;exact tP_
          refine pure_ (i:=11) (N:=some 59) (v:=undef) (a':=?_) (bm 14 4095) rfl rfl (by kernel_rfl) (fun _ _ _ h=>h) (Or.inr ⟨by rfl,rfl⟩) ?_ ?_;rotate_left;exact tP_
          refine pure_ (i:=12) (N:=some 60) (v:=undef) (a':=?_) (bm 14 8191) rfl rfl (by kernel_rfl) (fun _ _ _ h=>h) (Or.inr ⟨by rfl,rfl⟩) ?_ ?_;rotate_left;exact tP_
          refine pk_ 13 61 (bm 14 16383) ?_
          refine done_ (by kernel_rfl) ?_
          have H3:=Aside0.mk (And.intro (pw_below_drewN H2.out.1 1) (And.intro (blk_drew H2.out.2.1) (blk_drew H2.out.2.2)))
          have hzp:=blk_frozen H2.out.2.2 1
          have hdp:w2.cell? ⟨w.heap.size+1,1,none⟩=some (.string ⟨#[]⟩):=blk_cell H2.out.2.2 1
          have hz1:=blk_frozen H3.out.2.2 1
          have hd1:w2.drew.cell? ⟨w.heap.size+1,1,none⟩=some (.string ⟨#[]⟩):=blk_cell H3.out.2.2 1
          go_wp2
          refine ⟨⟨i+1,en,x,(t.extract at_ en),z,rfl,by first|rfl|(rw [hw1];rfl),⟨hlt⟩,⟨hen⟩,⟨HN.out⟩,⟨below_set H3.out.1 (Nat.le_succ _),(set_blk_ne (Nat.ne_of_lt (Nat.lt_succ_self _))).trans H3.out.2.1,set61_1 H3.out.2.2 _⟩⟩,?_⟩
          try rw [hw1]
          simp only [intOf]
          clear hw1
          omega
         ·have hxe:y.toList.isEmpty=false:=toList_nonempty (by omega)
          by_cases hxp:y=t.extract at_ en
          ·have HN:=Aside0.mk (HR1.out rfl (.inr hxp))
           have hxq:(y.toList != (t.extract at_ en).toList)=false:=by rw [hxp];simp
           have hxq2:(y.toList == (t.extract at_ en).toList)=true:=by rw [hxp];simp
           clear hx0 HR1 hxp
           go_wp2_with (first
          | (go_at_call 74;refine HCV.out.mono ?_;rintro e w1 ⟨rfl,h1⟩;subst w1)
          | (go_at_call 72;refine HEC.out.mono ?_;rintro e w2 ⟨rfl,hb⟩;have H2:=Aside0.mk (And.intro (below_step HS.out.1 hb) (And.intro (blk_below HS.out.2.1 hb) (blk_below HS.out.2.2 hb)));clear hb))
           have hy0:w2.drew.cell? ⟨w.heap.size+1,1,none⟩=some (.string y):=blk_cell (blk_drew H2.out.2.2) 1
           refine start_ (n:=14) (S:=fun w'=>w'.cell? ⟨w.heap.size+1,1,none⟩=some (.string y)) (ds:=[]) (bm 14 0) (by kernel_rfl) rfl rfl (hy0) (fun hHeld=>?_)
           refine pk_ 0 48 (bm 14 1) ?_
           refine pk_ 1 49 (bm 14 3) ?_
           refine take_ (i:=2) (N:=some 50) (v:=?_) (a':=?_) (bm 14 7) rfl rfl (by kernel_rfl) (fun _ _ _ h=>h) (Or.inl ⟨by rfl,?_⟩) hHeld ?_ ?_;rotate_left
           ·intro w' s0
            go_simp
            with_reducible rfl
           rotate_left;exact tP_
           refine pk_ 3 51 (bm 14 15) ?_
           refine pk_ 4 52 (bm 14 31) ?_
           refine pk_ 5 53 (bm 14 63) ?_
           refine pk_ 6 54 (bm 14 127) ?_
           refine pk_ 8 56 (bm 14 383) ?_
           refine pk_ 9 57 (bm 14 895) ?_
           refine pk_ 10 58 (bm 14 1919) ?_
           refine pk_ 11 59 (bm 14 3967) ?_
           refine take_ (i:=7) (N:=some 55) (v:=?_) (a':=?_) (bm 14 4095) rfl rfl (by kernel_rfl) (fun _ _ _ h=>h) (Or.inl ⟨by rfl,?_⟩) hHeld ?_ ?_;rotate_left
           ·intro w' s0
            go_simp
            with_reducible rfl
           rotate_left;exact tP_
           refine pk_ 12 60 (bm 14 8191) ?_
           refine pk_ 13 61 (bm 14 16383) ?_
           refine done_ (by kernel_rfl) ?_
           have H3:=Aside0.mk (And.intro (pw_below_drewN H2.out.1 1) (And.intro (blk_drew H2.out.2.1) (blk_drew H2.out.2.2)))
           have hzp:=blk_frozen H2.out.2.2 1
           have hdp:w2.cell? ⟨w.heap.size+1,1,none⟩=some (.string y):=blk_cell H2.out.2.2 1
           have hz1:=blk_frozen H3.out.2.2 1
           have hd1:w2.drew.cell? ⟨w.heap.size+1,1,none⟩=some (.string y):=blk_cell H3.out.2.2 1
           go_wp2
           refine ⟨⟨i+1,en,x,(t.extract at_ en),z,rfl,by first|rfl|(rw [hw1];rfl),⟨hlt⟩,⟨hen⟩,⟨HN.out⟩,⟨below_set H3.out.1 (Nat.le_succ _),(set_blk_ne (Nat.ne_of_lt (Nat.lt_succ_self _))).trans H3.out.2.1,set61_1 H3.out.2.2 _⟩⟩,?_⟩
           try rw [hw1]
           simp only [intOf]
           clear hw1
           omega
          ·have hxq:(y.toList != (t.extract at_ en).toList)=true:=bne_iff_ne.2 (fun e=>hxp (by rw [ByteArray.toList_eq,ByteArray.toList_eq] at e;rw [←B8_of y,e,B8_of]))
           have hxq2:(y.toList == (t.extract at_ en).toList)=false:=by have h:=hxq;rw [bne] at h;simpa using h
           obtain ⟨rfl,rfl,rfl,rfl⟩:=HRn1.out rfl hx0 hxp
           clear hx0 HR1
           go_wp2_with (first
          | (go_at_call 74;refine HCV.out.mono ?_;rintro e w1 ⟨rfl,h1⟩;subst w1)
          | (go_at_call 72;refine HEC.out.mono ?_;rintro e w2 ⟨rfl,hb⟩;have H2:=Aside0.mk (And.intro (below_step HS.out.1 hb) (And.intro (blk_below HS.out.2.1 hb) (blk_below HS.out.2.2 hb)));clear hb))
           have hy0:w2.drew.cell? ⟨w.heap.size+1,1,none⟩=some (.string y):=blk_cell (blk_drew H2.out.2.2) 1
           refine start_ (n:=14) (S:=fun w'=>w'.cell? ⟨w.heap.size+1,1,none⟩=some (.string y)) (ds:=[]) (bm 14 0) (by kernel_rfl) rfl rfl (hy0) (fun hHeld=>?_)
           refine pk_ 0 48 (bm 14 1) ?_
           refine pk_ 1 49 (bm 14 3) ?_
           refine take_ (i:=2) (N:=some 50) (v:=?_) (a':=?_) (bm 14 7) rfl rfl (by kernel_rfl) (fun _ _ _ h=>h) (Or.inl ⟨by rfl,?_⟩) hHeld ?_ ?_;rotate_left
           ·intro w' s0
            go_simp
            with_reducible rfl
           rotate_left;exact tP_
           refine pk_ 3 51 (bm 14 15) ?_
           refine pk_ 4 52 (bm 14 31) ?_
           refine pk_ 5 53 (bm 14 63) ?_
           refine pk_ 6 54 (bm 14 127) ?_
           refine pk_ 8 56 (bm 14 383) ?_
           refine pk_ 9 57 (bm 14 895) ?_
           refine pk_ 10 58 (bm 14 1919) ?_
           refine pk_ 11 59 (bm 14 3967) ?_
           refine take_ (i:=7) (N:=some 55) (v:=?_) (a':=?_) (bm 14 4095) rfl rfl (by kernel_rfl) (fun _ _ _ h=>h) (Or.inl ⟨by rfl,?_⟩) hHeld ?_ ?_;rotate_left
           ·intro w' s0
            go_simp
            with_reducible rfl
           rotate_left;exact tP_
           refine pk_ 12 60 (bm 14 8191) ?_
           refine pk_ 13 61 (bm 14 16383) ?_
           refine done_ (by kernel_rfl) ?_
           have HS3:=Aside0.mk (And.intro (pw_below_drewN H2.out.1 1) (And.intro (blk_drew H2.out.2.1) (blk_drew H2.out.2.2)))
           have hz0:=blk_frozen H2.out.2.1 0
           have hz1:=blk_frozen H2.out.2.1 1
           have hz2:=blk_frozen H2.out.2.1 2
           have hd0:w2.cell? ⟨w.heap.size,0,none⟩=some (.string ⟨#[]⟩):=blk_cell H2.out.2.1 0
           have hd1:w2.cell? ⟨w.heap.size,1,none⟩=some (.string ⟨#[]⟩):=blk_cell H2.out.2.1 1
           have hd2:w2.cell? ⟨w.heap.size,2,none⟩=some (.string ⟨#[]⟩):=blk_cell H2.out.2.1 2
           have hzq0:=blk_frozen HS3.out.2.1 0
           have hzq1:=blk_frozen HS3.out.2.1 1
           have hzq2:=blk_frozen HS3.out.2.1 2
           have hdq0:w2.drew.cell? ⟨w.heap.size,0,none⟩=some (.string ⟨#[]⟩):=blk_cell HS3.out.2.1 0
           have hdq1:w2.drew.cell? ⟨w.heap.size,1,none⟩=some (.string ⟨#[]⟩):=blk_cell HS3.out.2.1 1
           have hdq2:w2.drew.cell? ⟨w.heap.size,2,none⟩=some (.string ⟨#[]⟩):=blk_cell HS3.out.2.1 2
           go_wp2
           have hlast:=set61 HS3.out.2.1 ⟨#[]⟩ ⟨#[]⟩ ⟨#[]⟩
           unfold cells61 at hlast
           refine bodyPost_ret (results_ct (P:=Tryz.prog) rfl _ _ w.heap.size 61 #[.string ⟨#[]⟩,.string ⟨#[]⟩,.string ⟨#[]⟩] (0,0) _ rfl hlast Tryz.underlying61 rfl (by kernel_rfl)) rfl ?_
           exact ⟨by first|rfl|trivial,below_set (below_set (below_set HS3.out.1 (Nat.le_refl _)) (Nat.le_refl _)) (Nat.le_refl _)⟩
        ·obtain rfl:c=122:=hck
         have hu:isVarI (((122:UInt8).toNat:Nat):Int)=true:=rfl
         rw [hu] at hcv
         have HCV:=Aside0.mk hcv
         clear hcv hu
         by_cases hx0:z.size=0
         ·obtain rfl:z=⟨#[]⟩:=ByteArray.ext (Array.eq_empty_of_size_eq_zero hx0)
          have HN:=Aside0.mk (HR2.out rfl (.inl rfl))
          clear hx0 HR2
          go_wp2_with (first
          | (go_at_call 74;refine HCV.out.mono ?_;rintro e w1 ⟨rfl,h1⟩;subst w1)
          | (go_at_call 72;refine HEC.out.mono ?_;rintro e w2 ⟨rfl,hb⟩;have H2:=Aside0.mk (And.intro (below_step HS.out.1 hb) (And.intro (blk_below HS.out.2.1 hb) (blk_below HS.out.2.2 hb)));clear hb))
          have hy0:w2.drew.cell? ⟨w.heap.size+1,2,none⟩=some (.string ⟨#[]⟩):=blk_cell (blk_drew H2.out.2.2) 2
          refine start_ (n:=14) (S:=fun w'=>w'.cell? ⟨w.heap.size+1,2,none⟩=some (.string ⟨#[]⟩)) (ds:=[]) (bm 14 0) (by kernel_rfl) rfl rfl (hy0) (fun hHeld=>?_)
          refine pk_ 0 48 (bm 14 1) ?_
          refine pk_ 1 49 (bm 14 3) ?_
          refine take_ (i:=2) (N:=some 50) (v:=?_) (a':=?_) (bm 14 7) rfl rfl (by kernel_rfl) (fun _ _ _ h=>h) (Or.inl ⟨by rfl,?_⟩) hHeld ?_ ?_;rotate_left
          ·intro w' s0
           go_simp
           with_reducible rfl
          rotate_left;exact tP_
          refine pk_ 3 51 (bm 14 15) ?_
          refine pk_ 4 52 (bm 14 31) ?_
          refine pure_ (i:=5) (N:=some 53) (v:=undef) (a':=?_) (bm 14 63) rfl rfl (by kernel_rfl) (fun _ _ _ h=>h) (Or.inr ⟨by rfl,rfl⟩) ?_ ?_;rotate_left;exact tP_
          refine pure_ (i:=6) (N:=some 54) (v:=undef) (a':=?_) (bm 14 127) rfl rfl (by kernel_rfl) (fun _ _ _ h=>h) (Or.inr ⟨by rfl,rfl⟩) ?_ ?_;rotate_left;exact tP_
          refine pure_ (i:=7) (N:=some 55) (v:=undef) (a':=?_) (bm 14 255) rfl rfl (by kernel_rfl) (fun _ _ _ h=>h) (Or.inr ⟨by rfl,rfl⟩) ?_ ?_;rotate_left;exact tP_
          refine pure_ (i:=8) (N:=some 56) (v:=undef) (a':=?_) (bm 14 511) rfl rfl (by kernel_rfl) (fun _ _ _ h=>h) (Or.inr ⟨by rfl,rfl⟩) ?_ ?_;rotate_left;exact tP_
          refine pure_ (i:=9) (N:=some 57) (v:=undef) (a':=?_) (bm 14 1023) rfl rfl (by kernel_rfl) (fun _ _ _ h=>h) (Or.inr ⟨by rfl,rfl⟩) ?_ ?_;rotate_left;exact tP_
          refine pure_ (i:=10) (N:=some 58) (v:=undef) (a':=?_) (bm 14 2047) rfl rfl (by kernel_rfl) (fun _ _ _ h=>h) (Or.inr ⟨by rfl,rfl⟩) ?_ ?_;rotate_left;exact tP_
          refine pure_ (i:=11) (N:=some 59) (v:=undef) (a':=?_) (bm 14 4095) rfl rfl (by kernel_rfl) (fun _ _ _ h=>h) (Or.inr ⟨by rfl,rfl⟩) ?_ ?_;rotate_left;exact tP_
          refine pure_ (i:=12) (N:=some 60) (v:=undef) (a':=?_) (bm 14 8191) rfl rfl (by kernel_rfl) (fun _ _ _ h=>h) (Or.inr ⟨by rfl,rfl⟩) ?_ ?_;rotate_left;exact tP_
          refine pk_ 13 61 (bm 14 16383) ?_
          refine done_ (by kernel_rfl) ?_
          have H3:=Aside0.mk (And.intro (pw_below_drewN H2.out.1 1) (And.intro (blk_drew H2.out.2.1) (blk_drew H2.out.2.2)))
          have hzp:=blk_frozen H2.out.2.2 2
          have hdp:w2.cell? ⟨w.heap.size+1,2,none⟩=some (.string ⟨#[]⟩):=blk_cell H2.out.2.2 2
          have hz1:=blk_frozen H3.out.2.2 2
          have hd1:w2.drew.cell? ⟨w.heap.size+1,2,none⟩=some (.string ⟨#[]⟩):=blk_cell H3.out.2.2 2
          go_wp2
          refine ⟨⟨i+1,en,x,y,(t.extract at_ en),rfl,by first|rfl|(rw [hw1];rfl),⟨hlt⟩,⟨hen⟩,⟨HN.out⟩,⟨below_set H3.out.1 (Nat.le_succ _),(set_blk_ne (Nat.ne_of_lt (Nat.lt_succ_self _))).trans H3.out.2.1,set61_2 H3.out.2.2 _⟩⟩,?_⟩
          try rw [hw1]
          simp only [intOf]
          clear hw1
          omega
         ·have hxe:z.toList.isEmpty=false:=toList_nonempty (by omega)
          by_cases hxp:z=t.extract at_ en
          ·have HN:=Aside0.mk (HR2.out rfl (.inr hxp))
           have hxq:(z.toList != (t.extract at_ en).toList)=false:=by rw [hxp];simp
           have hxq2:(z.toList == (t.extract at_ en).toList)=true:=by rw [hxp];simp
           clear hx0 HR2 hxp
           go_wp2_with (first
          | (go_at_call 74;refine HCV.out.mono ?_;rintro e w1 ⟨rfl,h1⟩;subst w1)
          | (go_at_call 72;refine HEC.out.mono ?_;rintro e w2 ⟨rfl,hb⟩;have H2:=Aside0.mk (And.intro (below_step HS.out.1 hb) (And.intro (blk_below HS.out.2.1 hb) (blk_below HS.out.2.2 hb)));clear hb))
           have hy0:w2.drew.cell? ⟨w.heap.size+1,2,none⟩=some (.string z):=blk_cell (blk_drew H2.out.2.2) 2
           refine start_ (n:=14) (S:=fun w'=>w'.cell? ⟨w.heap.size+1,2,none⟩=some (.string z)) (ds:=[]) (bm 14 0) (by kernel_rfl) rfl rfl (hy0) (fun hHeld=>?_)
           refine pk_ 0 48 (bm 14 1) ?_
           refine pk_ 1 49 (bm 14 3) ?_
           refine take_ (i:=2) (N:=some 50) (v:=?_) (a':=?_) (bm 14 7) rfl rfl (by kernel_rfl) (fun _ _ _ h=>h) (Or.inl ⟨by rfl,?_⟩) hHeld ?_ ?_;rotate_left
           ·intro w' s0
            go_simp
            with_reducible rfl
           rotate_left;exact tP_
           refine pk_ 3 51 (bm 14 15) ?_
           refine pk_ 4 52 (bm 14 31) ?_
           refine pk_ 5 53 (bm 14 63) ?_
           refine pk_ 6 54 (bm 14 127) ?_
           refine pk_ 8 56 (bm 14 383) ?_
           refine pk_ 9 57 (bm 14 895) ?_
           refine pk_ 10 58 (bm 14 1919) ?_
           refine pk_ 11 59 (bm 14 3967) ?_
           refine take_ (i:=7) (N:=some 55) (v:=?_) (a':=?_) (bm 14 4095) rfl rfl (by kernel_rfl) (fun _ _ _ h=>h) (Or.inl ⟨by rfl,?_⟩) hHeld ?_ ?_;rotate_left
           ·intro w' s0
            go_simp
            with_reducible rfl
           rotate_left;exact tP_
           refine pk_ 12 60 (bm 14 8191) ?_
           refine pk_ 13 61 (bm 14 16383) ?_
           refine done_ (by kernel_rfl) ?_
           have H3:=Aside0.mk (And.intro (pw_below_drewN H2.out.1 1) (And.intro (blk_drew H2.out.2.1) (blk_drew H2.out.2.2)))
           have hzp:=blk_frozen H2.out.2.2 2
           have hdp:w2.cell? ⟨w.heap.size+1,2,none⟩=some (.string z):=blk_cell H2.out.2.2 2
           have hz1:=blk_frozen H3.out.2.2 2
           have hd1:w2.drew.cell? ⟨w.heap.size+1,2,none⟩=some (.string z):=blk_cell H3.out.2.2 2
           go_wp2
           refine ⟨⟨i+1,en,x,y,(t.extract at_ en),rfl,by first|rfl|(rw [hw1];rfl),⟨hlt⟩,⟨hen⟩,⟨HN.out⟩,⟨below_set H3.out.1 (Nat.le_succ _),(set_blk_ne (Nat.ne_of_lt (Nat.lt_succ_self _))).trans H3.out.2.1,set61_2 H3.out.2.2 _⟩⟩,?_⟩
           try rw [hw1]
           simp only [intOf]
           clear hw1
           omega
          ·have hxq:(z.toList != (t.extract at_ en).toList)=true:=bne_iff_ne.2 (fun e=>hxp (by rw [ByteArray.toList_eq,ByteArray.toList_eq] at e;rw [←B8_of z,e,B8_of]))
           have hxq2:(z.toList == (t.extract at_ en).toList)=false:=by have h:=hxq;rw [bne] at h;simpa using h
           obtain ⟨rfl,rfl,rfl,rfl⟩:=HRn2.out rfl hx0 hxp
           clear hx0 HR2
           go_wp2_with (first
          | (go_at_call 74;refine HCV.out.mono ?_;rintro e w1 ⟨rfl,h1⟩;subst w1)
          | (go_at_call 72;refine HEC.out.mono ?_;rintro e w2 ⟨rfl,hb⟩;have H2:=Aside0.mk (And.intro (below_step HS.out.1 hb) (And.intro (blk_below HS.out.2.1 hb) (blk_below HS.out.2.2 hb)));clear hb))
           have hy0:w2.drew.cell? ⟨w.heap.size+1,2,none⟩=some (.string z):=blk_cell (blk_drew H2.out.2.2) 2
           refine start_ (n:=14) (S:=fun w'=>w'.cell? ⟨w.heap.size+1,2,none⟩=some (.string z)) (ds:=[]) (bm 14 0) (by kernel_rfl) rfl rfl (hy0) (fun hHeld=>?_)
           refine pk_ 0 48 (bm 14 1) ?_
           refine pk_ 1 49 (bm 14 3) ?_
           refine take_ (i:=2) (N:=some 50) (v:=?_) (a':=?_) (bm 14 7) rfl rfl (by kernel_rfl) (fun _ _ _ h=>h) (Or.inl ⟨by rfl,?_⟩) hHeld ?_ ?_;rotate_left
           ·intro w' s0
            go_simp
            with_reducible rfl
           rotate_left;exact tP_
           refine pk_ 3 51 (bm 14 15) ?_
           refine pk_ 4 52 (bm 14 31) ?_
           refine pk_ 5 53 (bm 14 63) ?_
           refine pk_ 6 54 (bm 14 127) ?_
           refine pk_ 8 56 (bm 14 383) ?_
           refine pk_ 9 57 (bm 14 895) ?_
           refine pk_ 10 58 (bm 14 1919) ?_
           refine pk_ 11 59 (bm 14 3967) ?_
           refine take_ (i:=7) (N:=some 55) (v:=?_) (a':=?_) (bm 14 4095) rfl rfl (by kernel_rfl) (fun _ _ _ h=>h) (Or.inl ⟨by rfl,?_⟩) hHeld ?_ ?_;rotate_left
           ·intro w' s0
            go_simp
            with_reducible rfl
           rotate_left;exact tP_
           refine pk_ 12 60 (bm 14 8191) ?_
           refine pk_ 13 61 (bm 14 16383) ?_
           refine done_ (by kernel_rfl) ?_
           have HS3:=Aside0.mk (And.intro (pw_below_drewN H2.out.1 1) (And.intro (blk_drew H2.out.2.1) (blk_drew H2.out.2.2)))
           have hz0:=blk_frozen H2.out.2.1 0
           have hz1:=blk_frozen H2.out.2.1 1
           have hz2:=blk_frozen H2.out.2.1 2
           have hd0:w2.cell? ⟨w.heap.size,0,none⟩=some (.string ⟨#[]⟩):=blk_cell H2.out.2.1 0
           have hd1:w2.cell? ⟨w.heap.size,1,none⟩=some (.string ⟨#[]⟩):=blk_cell H2.out.2.1 1
           have hd2:w2.cell? ⟨w.heap.size,2,none⟩=some (.string ⟨#[]⟩):=blk_cell H2.out.2.1 2
           have hzq0:=blk_frozen HS3.out.2.1 0
           have hzq1:=blk_frozen HS3.out.2.1 1
           have hzq2:=blk_frozen HS3.out.2.1 2
           have hdq0:w2.drew.cell? ⟨w.heap.size,0,none⟩=some (.string ⟨#[]⟩):=blk_cell HS3.out.2.1 0
           have hdq1:w2.drew.cell? ⟨w.heap.size,1,none⟩=some (.string ⟨#[]⟩):=blk_cell HS3.out.2.1 1
           have hdq2:w2.drew.cell? ⟨w.heap.size,2,none⟩=some (.string ⟨#[]⟩):=blk_cell HS3.out.2.1 2
           go_wp2
           have hlast:=set61 HS3.out.2.1 ⟨#[]⟩ ⟨#[]⟩ ⟨#[]⟩
           unfold cells61 at hlast
           refine bodyPost_ret (results_ct (P:=Tryz.prog) rfl _ _ w.heap.size 61 #[.string ⟨#[]⟩,.string ⟨#[]⟩,.string ⟨#[]⟩] (0,0) _ rfl hlast Tryz.underlying61 rfl (by kernel_rfl)) rfl ?_
           exact ⟨by first|rfl|trivial,below_set (below_set (below_set HS3.out.1 (Nat.le_refl _)) (Nat.le_refl _)) (Nat.le_refl _)⟩
       ·rw [if_neg hae] at hR;cases hR
  ·have hlb:decide ((i:Int) < (p.size:Int))=false:=decide_eq_false (by omega)
   have hi:i=p.size:=by have:=HI.out;omega
   have hR:=HR.out
   rw [List.drop_eq_nil_of_le (by simp [hi]),ms] at hR
   clear HR hp ht
   by_cases hat:at_=t.size
   ·have hq:((at_:Int) != (t.size:Int))=false:=by rw [hat];simp
    have hr:r0=x∧r1=y∧r2=z∧r3=true:=by
     injection hR with hR
     unfold finM at hR
     dsimp only at hR
     rw [if_pos hat] at hR
     injection hR with h1 hR
     injection hR with h2 hR
     injection hR with h3 h4
     exact ⟨h1.symm,h2.symm,h3.symm,h4.symm⟩
    obtain ⟨rfl,rfl,rfl,rfl⟩:=hr
    have he0:wr.cell? ⟨w.heap.size+1,0,none⟩=some (.string r0):=blk_cell HS.out.2.2 0
    have he1:wr.cell? ⟨w.heap.size+1,1,none⟩=some (.string r1):=blk_cell HS.out.2.2 1
    have he2:wr.cell? ⟨w.heap.size+1,2,none⟩=some (.string r2):=blk_cell HS.out.2.2 2
    clear hR hi hat
    go_wp2
    have hlast:=set61 HS.out.2.1 r0 r1 r2
    unfold cells61 at hlast
    refine bodyPost_ret (results_ct (P:=Tryz.prog) rfl _ _ w.heap.size 61 #[.string r0,.string r1,.string r2] (0,0) _ rfl hlast Tryz.underlying61 rfl (by kernel_rfl)) rfl ?_
    exact ⟨by first|rfl|trivial,below_set (below_set (below_set HS.out.1 (Nat.le_refl _)) (Nat.le_refl _)) (Nat.le_refl _)⟩
   ·have hq:((at_:Int) != (t.size:Int))=true:=bne_iff_ne.2 (by omega)
    have hr:r0=⟨#[]⟩∧r1=⟨#[]⟩∧r2=⟨#[]⟩∧r3=false:=by
     injection hR with hR
     unfold finM at hR
     dsimp only at hR
     rw [if_neg hat] at hR
     injection hR with h1 hR
     injection hR with h2 hR
     injection hR with h3 h4
     exact ⟨h1.symm,h2.symm,h3.symm,h4.symm⟩
    obtain ⟨rfl,rfl,rfl,rfl⟩:=hr
    clear hR hi
    go_wp2
    have hlast:=set61 HS.out.2.1 ⟨#[]⟩ ⟨#[]⟩ ⟨#[]⟩
    unfold cells61 at hlast
    refine bodyPost_ret (results_ct (P:=Tryz.prog) rfl _ _ w.heap.size 61 #[.string ⟨#[]⟩,.string ⟨#[]⟩,.string ⟨#[]⟩] (0,0) _ rfl hlast Tryz.underlying61 rfl (by kernel_rfl)) rfl ?_
    exact ⟨by first|rfl|trivial,below_set (below_set (below_set HS.out.1 (Nat.le_refl _)) (Nat.le_refl _)) (Nat.le_refl _)⟩
noncomputable def nr_Match.f (a0 a1:ByteArray):Option (ByteArray × ByteArray × ByteArray × Bool) :=
 if a0.size≤1000000∧a1.size≤1000000 then (ms a1 a0.data.toList 0 ⟨#[]⟩ ⟨#[]⟩ ⟨#[]⟩).map (finM a1) else none
theorem nr_Match.calls (a0 a1:ByteArray) (r0 r1 r2:ByteArray) (r3:Bool) (w:World) (h:nr_Match.f a0 a1=some (r0,r1,r2,r3)) :
  Calls Tryz.prog 48 #[.string a0,.string a1] w fun e w'=>e=.returned (.tuple #[.agg #[.string r0,.string r1,.string r2],.bool r3])∧Below w.heap.size w w':=by
 unfold nr_Match.f at h
 split at h
 ·rename_i hs
  exact refMatch_calls a0 a1 hs.1 hs.2 r0 r1 r2 r3 h w
 ·cases h
end Go.Proofs.YtaafeallcaiooaaGreat.Pr
