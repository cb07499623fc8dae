/- Next. -/
import Derived.Test.YtaafeallcaiooaaGreatHLp
import Derived.Shelf.SlGeneric
import Derived.Shelf.SlIter.Nil
import Derived.Shelf.SortM.Plain
import Derived.Shelf.SortM.SortNone
import Derived.Ground.GgzProg
import Derived.Ground.SlgmProg
import Derived.Test.YtaafeallcaiooaaGreatProg
import Derived.Maps.OwnSet
import Derived.Shelf.Sort.Plain
import Derived.Maps.OwnOps
import Derived.Maps.Own
namespace Go.Proofs.YtaafeallcaiooaaGreat.Pr
open Go.RowKit Go.Maps Go.Proofs.Zw Go.Proofs.Zl Go.Proofs.Zm
set_option linter.unusedVariables false
set_option linter.unusedSimpArgs false
def withinB (n lo hi:Int):Bool:=decide (n≥lo) && decide (n≤hi)
theorem within_calls (n lo hi:Int) (w:World):Calls Tryz.prog 101 #[.int .i64 n,.int .i64 lo,.int .i64 hi] w fun e w'=>e=.returned (.bool (withinB n lo hi))∧w'=w:=by
 unfold withinB
 by_cases h1:n≥lo
 ·by_cases h2:n≤hi
  ·have d1:decide (n≥lo)=true:=decide_eq_true h1
   have d2:decide (n≤hi)=true:=decide_eq_true h2
   rw [d1,d2]
   clear h1 h2
   go_enter Tryz.func101,Tryz.ntmps101
   go_wp2
   go_ret
   exact ⟨rfl,rfl⟩
  ·have d1:decide (n≥lo)=true:=decide_eq_true h1
   have d2:decide (n≤hi)=false:=decide_eq_false h2
   rw [d1,d2]
   clear h1 h2
   go_enter Tryz.func101,Tryz.ntmps101
   go_wp2
   go_ret
   exact ⟨rfl,rfl⟩
 ·have d1:decide (n≥lo)=false:=decide_eq_false h1
  rw [d1]
  clear h1
  go_enter Tryz.func101,Tryz.ntmps101
  go_wp2
  go_ret
  exact ⟨rfl,rfl⟩
theorem notFactor_calls (n:Int) (w:World):Calls Tryz.prog 118 #[.int .i64 n] w fun e w'=>e=.returned (.bool (!withinB n 1 2))∧w'=w:=by
 have hw:=within_calls n 1 2 w
 generalize withinB n 1 2=b at *
 go_enter Tryz.func118,Tryz.ntmps118
 go_wp2_with (go_at_call 101;refine hw.mono ?_;rintro e w1 ⟨rfl,h1⟩;subst w1)
 go_ret
 exact ⟨rfl,rfl⟩
set_option maxRecDepth 100000 in
theorem indexInt_calls (xs:List Int) (A:Option Addr) (cap:Nat) (w:World) (hc:∀ j (h:j < xs.length),∃ ad,A=some ad∧w.cell? (ad.add j)=some (.int .i64 xs[j])) (hln:xs.length≤1000) :
  Calls Tryz.prog 143 #[.slice A xs.length cap,.func (.func 118) #[] #[]] w fun e w'=>∃ k:Int,e=.returned (.int .i64 k)∧decide (k≥0)=xs.any (fun n=>!withinB n 1 2)∧w'=w:=by
 have HP:=Aside0.mk (And.intro hc hln)
 clear hc hln
 go_enter Tryz.func143,Tryz.ntmps143
 go_wp2
 go_loopw [8] (fun v8 wr=>∃ (i:Nat),v8=.int .i64 (i:Int)∧Aside0 (i≤xs.length)∧Aside0 ((xs.take i).any (fun n=>!withinB n 1 2)=false)∧wr=w) (fun v8 _=>xs.length - (intOf v8).toNat)
 case atStart=>exact ⟨0,rfl,⟨Nat.zero_le _⟩,⟨rfl⟩,rfl⟩
 case round =>
  obtain ⟨i,rfl,HI,HA,hwr⟩:=hrel
  subst wr
  obtain ⟨hc,hln⟩:=HP.out
  by_cases hlt:i < xs.length
  ·have hlb:decide ((i:Int) < (xs.length:Int))=true:=decide_eq_true (by omega)
   obtain ⟨ad,rfl,hc1⟩:=hc i hlt
   have hcall:=notFactor_calls xs[i] w
   have hsn:(xs.take (i+1)).any (fun n=>!withinB n 1 2)=!withinB xs[i] 1 2:=by
    rw [List.take_succ_eq_append_getElem hlt,List.any_append,HA.out]
    simp
   have htr:(!withinB xs[i] 1 2)=true→xs.any (fun n=>!withinB n 1 2)=true:=fun h=>List.any_eq_true.2 ⟨xs[i],List.getElem_mem hlt,h⟩
   generalize (!withinB xs[i] 1 2)=b at *
   generalize xs[i]=x at *
   have HC:=Aside0.mk hcall
   have HH:=Aside0.mk (And.intro hsn htr)
   have w1i:wrap64 ((i:Int)+1)=(i:Int)+1:=wrp i (by omega)
   clear hcall hsn htr hc hln
   cases b with
   | true =>
    go_wp2_with (go_at_call 118;refine HC.out.mono ?_;rintro e w1 ⟨rfl,h1⟩;subst w1)
    go_ret
    exact ⟨_,rfl,(decide_eq_true (by omega)).trans (HH.out.2 (by simp)).symm,rfl⟩
   | false =>
    go_wp2_with (go_at_call 118;refine HC.out.mono ?_;rintro e w1 ⟨rfl,h1⟩;subst w1)
    try rw [w1i]
    refine ⟨⟨i+1,by simp,⟨by omega⟩,⟨HH.out.1⟩,by first|rfl|trivial⟩,?_⟩
    simp only [intOf]
    omega
  ·have hlb:decide ((i:Int) < (xs.length:Int))=false:=decide_eq_false (by omega)
   have hno:xs.any (fun n=>!withinB n 1 2)=false:=by have:=HA.out;rwa [List.take_of_length_le (by omega)] at this
   have HN:=Aside0.mk hno
   clear hc hln hno
   go_wp2
   go_ret
   exact ⟨-1,rfl,by rw [HN.out];rfl,rfl⟩
theorem containsInt_calls (xs:List Int) (A:Option Addr) (cap:Nat) (w:World) (hc:∀ j (h:j < xs.length),∃ ad,A=some ad∧w.cell? (ad.add j)=some (.int .i64 xs[j])) (hln:xs.length≤1000) (n:Nat) (hn:n=xs.length) :
  Calls Tryz.prog 117 #[.slice A n cap,.func (.func 118) #[] #[]] w fun e w'=>e=.returned (.bool (xs.any (fun n=>!withinB n 1 2)))∧w'=w:=by
 subst hn
 have HC:=Aside0.mk (indexInt_calls xs A cap w hc hln)
 clear hc hln
 generalize xs.any (fun n=>!withinB n 1 2)=r at *
 generalize xs.length=n at *
 go_enter Tryz.func117,Tryz.ntmps117
 go_wp2_with (go_at_call 143;refine HC.out.mono ?_;rintro e w1 ⟨k,rfl,hk,h1⟩;subst w1;have H1:=Aside0.mk hk;clear hk)
 go_ret
 rw [←H1.out]
 exact ⟨rfl,rfl⟩
theorem add_one_add (ad:Addr) (j:Nat):(⟨ad.block,ad.off+1,none⟩:Addr).add j=ad.add (1+j):=by
 unfold Addr.add
 by_cases h:j=0
 ·subst h
  simp
 ·simp [h]
  omega
theorem tailAt {w:World} {ad:Addr} {row:List Int} (h:(Kd.int .i64).C w (some ad) row.length row) (j:Nat) (hj:j < (row.drop 1).length):∃ a,some (⟨ad.block,ad.off+1,none⟩:Addr)=some a∧w.cell? (a.add j)=some (.int .i64 (row.drop 1)[j]):=by
 have hj2:1+j < row.length:=by rw [List.length_drop] at hj;omega
 obtain ⟨a,e,hc⟩:=Kd.at_int h ((1+j:Nat):Int) (by omega) (by omega)
 obtain rfl:ad=a:=by injection e
 refine ⟨_,rfl,?_⟩
 rw [add_one_add]
 rw [Int.toNat_natCast] at hc
 rw [hc]
 have hrd:rd row ((1+j:Nat):Int)=row[1+j]:=by
  show row.getD ((1+j:Nat):Int).toNat 0=_
  rw [Int.toNat_natCast,List.getD_eq_getElem?_getD,List.getElem?_eq_getElem hj2]
  rfl
 rw [hrd,List.getElem_drop]
def rowOk (i:Nat) (row:List Int):Bool:=decide ((row.length:Int)=1+nParts (97+i)) && (withinB (row.getD 0 0) 0 2 && !(row.drop 1).any (fun n=>!withinB n 1 2))
def isRdF:Nat→List (List Int)→Bool
 | _,[]=>true
 | i,row :: l=>rowOk i row && isRdF (i+1) l
def isRd (l:List (List Int)):Bool:=decide (l.length=6) && isRdF 0 l
set_option maxRecDepth 100000 in
set_option maxHeartbeats 1000000 in
theorem isReading_calls (xs:List (List Int)) (A:Option Addr) (cap:Nat) (w:World) (hC:Kd.C (Kd.slice 3 (Kd.int .i64)) w A xs.length xs) :
  Calls Tryz.prog 68 #[.slice A xs.length cap] w fun e w'=>e=.returned (.bool (isRd xs))∧w'=w:=by
 by_cases h6:xs.length=6
 ·have hd6:((xs.length:Int) == 6)=true:=beq_iff_eq.2 (by omega)
  obtain ⟨r,hr⟩:∃ r,r=isRd xs:=⟨_,rfl⟩
  have hrF:r=isRdF 0 xs:=by rw [hr];unfold isRd;rw [decide_eq_true h6,Bool.true_and]
  rw [←hr]
  have HP:=Aside0.mk (And.intro hC (And.intro hrF h6))
  rw [h6]
  clear hC hrF hr hd6
  go_enter Tryz.func68,Tryz.ntmps68
  go_wp2
  go_loopw [10] (fun v10 wr=>∃ (i:Nat),v10=.int .i64 (i:Int)∧Aside0 (i≤6)∧Aside0 (r=isRdF i (xs.drop i))∧wr=w) (fun v10 _=>6 - (intOf v10).toNat)
  case atStart=>exact ⟨0,rfl,⟨by omega⟩,⟨by rw [List.drop_zero];exact HP.out.2.1⟩,rfl⟩
  case round =>
   obtain ⟨i,rfl,HI,HR,hwr⟩:=hrel
   subst wr
   obtain ⟨hC,hrF,h6b⟩:=HP.out
   by_cases hlt:i < 6
   ·have hlb:decide ((i:Int) < 6)=true:=decide_eq_true (by omega)
    have hlx:i < xs.length:=by omega
    rw [h6] at hC
    obtain ⟨ad,A0,c0,rfl,hcell,hlc,hrow⟩:=at_L1 hC (i:Int) (by omega) (by omega)
    have hrd:rd_L1 xs (i:Int)=xs[i]:=by simp [rd_L1,hlx]
    rw [hrd] at hcell hlc hrow
    rw [Int.toNat_natCast] at hcell
    have hsym:∀ h,((((⟨#[97,98,99,100,101,102]⟩:ByteArray)[i]'h).toNat:Nat):Int)=97+(i:Int):=by
     intro h
     have:i=0∨i=1∨i=2∨i=3∨i=4∨i=5:=by omega
     rcases this with rfl|rfl|rfl|rfl|rfl|rfl<;>rfl
    have hnp:0≤nParts (97+(i:Int))∧nParts (97+(i:Int))≤2:=by unfold nParts;omega
    have hpc:=parts_calls (97+(i:Int)) (by omega) w
    have hwp:wrap64 (1+nParts (97+(i:Int)))=1+nParts (97+(i:Int)):=wr (by omega) (by omega)
    have hd:xs.drop i=xs[i] :: xs.drop (i+1):=List.drop_eq_getElem_cons hlx
    have hR2:=HR.out
    rw [hd,isRdF] at hR2
    generalize xs[i]=row at *
    have HPC:=Aside0.mk hpc
    by_cases hlen:(row.length:Int)=1+nParts (97+(i:Int))
    ·have he:((row.length:Int) == 1+nParts (97+(i:Int)))=true:=beq_iff_eq.2 hlen
     have hr0:0 < row.length:=by omega
     obtain ⟨ad0,rfl,hc0⟩:=Kd.at_int hrow 0 (by omega) (by omega)
     have hc00:w.cell? ad0=some (.int .i64 (rd row 0)):=by
      have:=hc0
      simpa [Addr.add] using this
     clear hc0
     have hbn:((row.length:Int) != 1+nParts (97+(i:Int)))=false:=by rw [bne,he];rfl
     have HRW:=Aside0.mk hrow
     have HAT:=Aside0.mk (tailAt hrow)
     have hr2:row.length≤3:=by omega
     have hne:((1:Int)≤(row.length:Int)):=by omega
     have HH:=Aside0.mk (And.intro hR2 (And.intro hlen (And.intro hnp (And.intro hd (And.intro hC hrF)))))
     clear hC hrF hrd hpc hnp hd hR2 hlen hrow
     have hwi:=within_calls (rd row 0) 0 2 w
     have hrow2:rowOk i row=(withinB (rd row 0) 0 2 && !(row.drop 1).any (fun n=>!withinB n 1 2)):=by
      unfold rowOk
      rw [decide_eq_true HH.out.2.1,Bool.true_and]
      rfl
     have hct:=fun (A':Option Addr) (cap':Nat) (hA:∀ j (h:j < (row.drop 1).length),∃ ad,A'=some ad∧w.cell? (ad.add j)=some (.int .i64 (row.drop 1)[j]))=>containsInt_calls (row.drop 1) A' cap' w hA (by rw [List.length_drop];omega) (row.length - 1) (by rw [List.length_drop])
     generalize (row.drop 1).any (fun n=>!withinB n 1 2)=b3 at *
     generalize withinB (rd row 0) 0 2=b2 at *
     have HRO:=Aside0.mk hrow2
     have HWI:=Aside0.mk hwi
     have HCT:=Aside0.mk hct
     clear hrow2 hwi hct
     have w1i:wrap64 ((i:Int)+1)=(i:Int)+1:=wrp i (by omega)
     cases b2 with
     | false =>
      have hr0:r=false:=by rw [HH.out.1,HRO.out];rfl
      subst hr0
      go_wp2_with (first|(go_at_call 114;refine HPC.out.mono ?_;rintro e w1 ⟨rfl,h1⟩;subst w1)|(go_at_call 101;refine HWI.out.mono ?_;rintro e w1 ⟨rfl,h1⟩;subst w1))
      go_ret
      exact ⟨rfl,rfl⟩
     | true =>
      cases b3 with
      | true =>
       have hr0:r=false:=by rw [HH.out.1,HRO.out];rfl
       subst hr0
       go_wp2_with (first|(go_at_call 114;refine HPC.out.mono ?_;rintro e w1 ⟨rfl,h1⟩;subst w1)|(go_at_call 101;refine HWI.out.mono ?_;rintro e w1 ⟨rfl,h1⟩;subst w1)|(go_at_call 117;refine (HCT.out _ _ (by intro j h;first|(exfalso;rw [List.length_drop] at h;omega)|exact HAT.out j h)).mono ?_;rintro e w1 ⟨rfl,h1⟩;subst w1))
       all_goals (go_ret;exact ⟨rfl,rfl⟩)
      | false =>
       go_wp2_with (first|(go_at_call 114;refine HPC.out.mono ?_;rintro e w1 ⟨rfl,h1⟩;subst w1)|(go_at_call 101;refine HWI.out.mono ?_;rintro e w1 ⟨rfl,h1⟩;subst w1)|(go_at_call 117;refine (HCT.out _ _ (by intro j h;first|(exfalso;rw [List.length_drop] at h;omega)|exact HAT.out j h)).mono ?_;rintro e w1 ⟨rfl,h1⟩;subst w1))
       all_goals (
        try rw [w1i]
        refine ⟨⟨i+1,by simp,⟨by omega⟩,⟨by rw [HH.out.1,HRO.out];rfl⟩,by first|rfl|trivial⟩,?_⟩
        simp only [intOf]
        omega)
    ·have he:((row.length:Int) == 1+nParts (97+(i:Int)))=false:=beq_eq_false_iff_ne.2 hlen
     have hbn:((row.length:Int) != 1+nParts (97+(i:Int)))=true:=by rw [bne,he];rfl
     have hr0:r=false:=by rw [hR2];unfold rowOk;rw [decide_eq_false hlen];rfl
     subst hr0
     clear hC hrF hrd hpc hnp hd hR2 hlen hrow
     go_wp2_with (go_at_call 114;refine HPC.out.mono ?_;rintro e w1 ⟨rfl,h1⟩;subst w1)
     go_ret
     exact ⟨rfl,rfl⟩
   ·have hlb:decide ((i:Int) < 6)=false:=decide_eq_false (by omega)
    have hr1:r=true:=by
     have:=HR.out
     rwa [List.drop_of_length_le (by omega),isRdF] at this
    subst hr1
    clear hC hrF h6b
    go_wp2
    go_ret
    exact ⟨rfl,rfl⟩
 ·have hd6:((xs.length:Int) == 6)=false:=beq_eq_false_iff_ne.2 (by omega)
  have hr:isRd xs=false:=by unfold isRd;rw [decide_eq_false h6,Bool.false_and]
  rw [hr]
  clear hC hr
  go_enter Tryz.func68,Tryz.ntmps68
  go_wp2
  go_ret
  exact ⟨rfl,rfl⟩
def rowAt (l:List (List Int)) (s:Int):List Int:=l.getD (s - 97).toNat []
mutual
def ofT (l:List (List Int)):Tm→Nat→Int
 | .var c=>fun k=>if (k:Int)=c - 119 then 1 else 0
 | .app s ts=>ofL l (rowAt l s) 0 ts (fun k=>if k=0 then (rowAt l s).getD 0 0 else 0)
def ofL (l:List (List Int)) (row:List Int):Nat→List Tm→(Nat→Int)→(Nat→Int)
 | _,[],acc=>acc
 | i,t :: ts,acc=>ofL l row (i+1) ts (fun k=>wrap64 (acc k+wrap64 (row.getD (1+i) 0 * ofT l t k)))
end
def vals (f:Nat→Int):Array Value:=#[.int .i64 (f 0),.int .i64 (f 1),.int .i64 (f 2),.int .i64 (f 3)]
theorem blk_new1 (w:World) (o1 o2:Obj):((w.alloc o1).alloc o2).heap[w.heap.size+1]?=some o2:=by
 have:=blk_new (w.alloc o1) o2
 rwa [World.size_alloc] at this
theorem vals_at (f:Nat→Int) (k:Nat) (hk:k < 4):(vals f)[k]?=some (.int .i64 (f k)):=by
 have:k=0∨k=1∨k=2∨k=3:=by omega
 rcases this with rfl|rfl|rfl|rfl<;>rfl
theorem index_vals (f:Nat→Int) (k:Nat) (hk:k < 4) (w:World):(Instr.index 102 (.agg (vals f)) (.int .i64 (k:Int))).run Tryz.prog w=.ok (.int .i64 (f k)) w:=by
 have h0:(Instr.index 102 (.agg (vals f)) (.int .i64 0)).run Tryz.prog w=.ok (.int .i64 (f 0)) w:=by kernel_rfl
 have h1:(Instr.index 102 (.agg (vals f)) (.int .i64 1)).run Tryz.prog w=.ok (.int .i64 (f 1)) w:=by kernel_rfl
 have h2:(Instr.index 102 (.agg (vals f)) (.int .i64 2)).run Tryz.prog w=.ok (.int .i64 (f 2)) w:=by kernel_rfl
 have h3:(Instr.index 102 (.agg (vals f)) (.int .i64 3)).run Tryz.prog w=.ok (.int .i64 (f 3)) w:=by kernel_rfl
 have:k=0∨k=1∨k=2∨k=3:=by omega
 rcases this with rfl|rfl|rfl|rfl
 ·exact h0
 ·exact h1
 ·exact h2
 ·exact h3
theorem wrO4 (k:Nat) (h:k < 1000):wrap64 ((k:Int)+1)=(k:Int)+1:=wrS (by omega) (by omega)
theorem wr41 (k:Nat) (h:k < 1000):wrap64 (1+(k:Int))=1+(k:Int):=wrS (by omega) (by omega)
def updN (f:Nat→Int) (k:Nat) (v:Int):Nat→Int:=fun j=>if j=k then v else f j
theorem vals_set {w:World} {g:Nat} {f:Nat→Int} (h:w.heap[g]?=some (.cells (vals f) 102 (0,0))) (k:Nat) (hk:k < 4) (v:Int):(w.setCell ⟨g,k,none⟩ (.int .i64 v)).heap[g]?=some (.cells (vals (updN f k v)) 102 (0,0)):=by
 have:k=0∨k=1∨k=2∨k=3:=by omega
 rcases this with rfl|rfl|rfl|rfl<;>simp [World.setCell,Array.getElem?_modify,h,vals,updN]
theorem vals_ext {f g:Nat→Int} (h:∀ k,k < 4→f k=g k):vals f=vals g:=by
 unfold vals
 rw [h 0 (by decide),h 1 (by decide),h 2 (by decide),h 3 (by decide)]
theorem ofL_congr (l:List (List Int)) (row:List Int):∀ (ts:List Tm) (i:Nat) (f g:Nat→Int),(∀ k,k < 4→f k=g k)→∀ k,k < 4→ofL l row i ts f k=ofL l row i ts g k
 | [],i,f,g,h,k,hk=>by rw [ofL,ofL];exact h k hk
 | t :: ts,i,f,g,h,k,hk=>by
  rw [ofL,ofL]
  exact ofL_congr l row ts (i+1) _ _ (fun j hj=>by rw [h j hj]) k hk
theorem vals_set4 {w:World} {g:Nat} {f0:Nat→Int} (f:Nat→Int) (h:w.heap[g]?=some (.cells (vals f0) 102 (0,0))):((((w.setCell ⟨g,0,none⟩ (.int .i64 (f 0))).setCell ⟨g,1,none⟩ (.int .i64 (f 1))).setCell ⟨g,2,none⟩ (.int .i64 (f 2))).setCell ⟨g,3,none⟩ (.int .i64 (f 3))).heap[g]?=some (.cells (vals f) 102 (0,0)):=by
 have h0:=vals_set h 0 (by decide) (f 0)
 have h1:=vals_set h0 1 (by decide) (f 1)
 have h2:=vals_set h1 2 (by decide) (f 2)
 have h3:=vals_set h2 3 (by decide) (f 3)
 rw [h3]
 rfl
theorem isRdF_at:∀ (l:List (List Int)) (i j:Nat),isRdF i l=true→(h:j < l.length)→rowOk (i+j) l[j]=true
 | row :: l,i,0,h,hj=>by
  rw [isRdF,Bool.and_eq_true] at h
  exact h.1
 | row :: l,i,j+1,h,hj=>by
  rw [isRdF,Bool.and_eq_true] at h
  have:=isRdF_at l (i+1) j h.2 (by simpa using hj)
  rw [show i+(j+1)=i+1+j by omega]
  exact this
def OfOk (l:List (List Int)) (t:Tm):Prop:=∀ (A:Option Addr) (cap:Nat) (q:Nat × Value) (w:World) (ok:Nat→Prop),Kd.C (Kd.slice 3 (Kd.int .i64)) w A l.length l→Has w ok t q→t.good→Calls Tryz.prog 70 #[.slice A l.length cap,encI q] w fun e w'=>e=.returned (.agg (vals (ofT l t)))∧Below w.heap.size w w'
section
attribute [local go_sem] asVV asVC asCC asCV
set_option maxRecDepth 100000 in
set_option maxHeartbeats 1000000 in
theorem of_var (l:List (List Int)) (c:Int) (hc:120≤c∧c≤122) (A:Option Addr) (cap:Nat) (w:World) :
  Calls Tryz.prog 70 #[.slice A l.length cap,.iface 131 (.int .u8 c)] w fun e w'=>e=.returned (.agg (vals (ofT l (.var c))))∧Below w.heap.size w w':=by
 have hB:∀ o1 o2,Below w.heap.size w ((w.alloc o1).alloc o2):=fun o1 o2=>below_alloc (below_alloc (Below.refl _ _) _) _
 have h:c=120∨c=121∨c=122:=by omega
 rcases h with rfl|rfl|rfl
 ·have hh:((w.alloc (.cells #[.int .i64 0,.int .i64 1,.int .i64 0,.int .i64 0] 102)).alloc (.cells #[.int .i64 0,.int .i64 1,.int .i64 0,.int .i64 0] 102)).heap[w.heap.size]?=some (.cells #[.int .i64 0,.int .i64 1,.int .i64 0,.int .i64 0] 102 (0,0)):=blk_alloc (blk_new w _) _
  have hv:vals (ofT l (.var 120))=#[.int .i64 0,.int .i64 1,.int .i64 0,.int .i64 0]:=by unfold vals;rw [ofT];rfl
  rw [hv]
  clear hv
  go_enter Tryz.func70,Tryz.ntmps70
  go_wp2
  refine bodyPost_ret (results_cell_row (P:=Tryz.prog) rfl _ _ w.heap.size 102 _ (0,0) _ rfl hh Tryz.underlying102 rfl (by kernel_rfl)) rfl ?_
  exact ⟨rfl,hB _ _⟩
 ·have hh:((w.alloc (.cells #[.int .i64 0,.int .i64 0,.int .i64 1,.int .i64 0] 102)).alloc (.cells #[.int .i64 0,.int .i64 0,.int .i64 1,.int .i64 0] 102)).heap[w.heap.size]?=some (.cells #[.int .i64 0,.int .i64 0,.int .i64 1,.int .i64 0] 102 (0,0)):=blk_alloc (blk_new w _) _
  have hv:vals (ofT l (.var 121))=#[.int .i64 0,.int .i64 0,.int .i64 1,.int .i64 0]:=by unfold vals;rw [ofT];rfl
  rw [hv]
  clear hv
  go_enter Tryz.func70,Tryz.ntmps70
  go_wp2
  refine bodyPost_ret (results_cell_row (P:=Tryz.prog) rfl _ _ w.heap.size 102 _ (0,0) _ rfl hh Tryz.underlying102 rfl (by kernel_rfl)) rfl ?_
  exact ⟨rfl,hB _ _⟩
 ·have hh:((w.alloc (.cells #[.int .i64 0,.int .i64 0,.int .i64 0,.int .i64 1] 102)).alloc (.cells #[.int .i64 0,.int .i64 0,.int .i64 0,.int .i64 1] 102)).heap[w.heap.size]?=some (.cells #[.int .i64 0,.int .i64 0,.int .i64 0,.int .i64 1] 102 (0,0)):=blk_alloc (blk_new w _) _
  have hv:vals (ofT l (.var 122))=#[.int .i64 0,.int .i64 0,.int .i64 0,.int .i64 1]:=by unfold vals;rw [ofT];rfl
  rw [hv]
  clear hv
  go_enter Tryz.func70,Tryz.ntmps70
  go_wp2
  refine bodyPost_ret (results_cell_row (P:=Tryz.prog) rfl _ _ w.heap.size 102 _ (0,0) _ rfl hh Tryz.underlying102 rfl (by kernel_rfl)) rfl ?_
  exact ⟨rfl,hB _ _⟩
set_option maxRecDepth 100000 in
set_option maxHeartbeats 4000000 in
theorem of_app (l:List (List Int)) (hrd:isRd l=true) (s:Int) (ts:List Tm) (ih:∀ x,x∈ts→OfOk l x) (A:Option Addr) (cap:Nat) (B:Option Addr) (capB:Nat) (w:World) (ok:Nat→Prop) (hC:Kd.C (Kd.slice 3 (Kd.int .i64)) w A l.length l) (hT:HasL w ok ts B 0) (hg:(Tm.app s ts).good) :
  Calls Tryz.prog 70 #[.slice A l.length cap,.iface 149 (.agg #[.int .u8 s,.slice B ts.length capB])] w fun e w'=>e=.returned (.agg (vals (ofT l (.app s ts))))∧Below w.heap.size w w':=by
 have hl2:=good_len hg
 rw [Tm.good] at hg
 have hrd2:l.length=6∧isRdF 0 l=true:=by
  unfold isRd at hrd
  simpa using hrd
 obtain ⟨hl6,hrF⟩:=hrd2
 have hsi:(s - 97).toNat < l.length:=by omega
 have hrow:=isRdF_at l 0 _ hrF hsi
 rw [Nat.zero_add] at hrow
 have hra:rowAt l s=l[(s - 97).toNat]:=by unfold rowAt;rw [List.getD_eq_getElem?_getD,List.getElem?_eq_getElem hsi];rfl
 obtain ⟨ad,A0,c0,rfl,hcell,hlc,hCr⟩:=at_L1 hC (s - 97) (by omega) (by omega)
 have hrd1:rd_L1 l (s - 97)=rowAt l s:=rfl
 rw [hrd1] at hcell hlc hCr
 have hrl:((rowAt l s).length:Int)=1+ts.length:=by
  rw [←hra] at hrow
  unfold rowOk at hrow
  simp only [Bool.and_eq_true,decide_eq_true_eq] at hrow
  have h1:=hrow.1
  have h2:=hg.2.1
  rw [show (97:Int)+((s - 97).toNat:Nat)=s by omega] at h1
  omega
 have hof:ofT l (.app s ts)=ofL l (rowAt l s) 0 ts (fun k=>if k=0 then (rowAt l s).getD 0 0 else 0):=by rw [ofT]
 rw [hof]
 obtain ⟨R,hR⟩:∃ R,R=ofL l (rowAt l s) 0 ts (fun k=>if k=0 then (rowAt l s).getD 0 0 else 0):=⟨_,rfl⟩
 rw [←hR]
 generalize rowAt l s=row at *
 obtain ⟨ad0,rfl,hc0⟩:=Kd.at_int hCr 0 (by omega) (by omega)
 have hc00:w.cell? ad0=some (.int .i64 (row.getD 0 0)):=by
  have:=hc0
  simpa [Addr.add,rd] using this
 have hs0:0≤s - 97∧s - 97≤255:=by omega
 have hws:IntKind.u8.wrap (s - 97)=s - 97:=Go.IntWalk.u8_in _ (by omega)
 have hslt:s - 97 < (l.length:Int):=by omega
 have hr0:0 < row.length:=by omega
 have hB3:∀ o1 o2 o3,Below w.heap.size w (((w.alloc o1).alloc o2).alloc o3):=fun o1 o2 o3=>below_alloc (below_alloc (below_alloc (Below.refl _ _) _) _) _
 have hadl:=(hB3 (.cells #[] 0) (.cells #[] 0) (.cells #[] 0))
 have hcellA:∀ o1 o2 o3,(((w.alloc o1).alloc o2).alloc o3).cell? (ad.add (s - 97).toNat)=some (.slice (some ad0) row.length c0):=fun o1 o2 o3=>((hB3 o1 o2 o3).cell (World.block_lt_of_cell? w _ hcell)).trans hcell
 have hRC:∀ i:Nat,1+i < row.length→∀ w',Below w.heap.size w w'→w'.cell? (ad0.add (1+i))=some (.int .i64 (row.getD (1+i) 0)):=by
  intro i hi w' hb
  obtain ⟨ad1,e1,hc1⟩:=Kd.at_int (Kd.C_below hCr hb) ((1+i:Nat):Int) (by omega) (by omega)
  obtain rfl:ad0=ad1:=by injection e1
  have h1:rd row ((1+i:Nat):Int)=row.getD (1+i) 0:=by simp only [rd,Int.toNat_natCast]
  rw [h1,Int.toNat_natCast] at hc1
  exact hc1
 obtain ⟨r0,hr0e⟩:∃ r0,r0=row.getD 0 0:=⟨_,rfl⟩
 rw [←hr0e] at hR hc00
 have hcellB:∀ o1 o2 o3,(((w.alloc o1).alloc o2).alloc o3).cell? ad0=some (.int .i64 r0):=fun o1 o2 o3=>((hB3 o1 o2 o3).cell (World.block_lt_of_cell? w _ hc00)).trans hc00
 have HRC:=Aside0.mk hRC
 have HW:=Aside0.mk (And.intro ih (And.intro hC (And.intro hT (And.intro hg (And.intro hR (And.intro hrl (And.intro hCr (And.intro hl2 hl6))))))))
 clear ih hC hT hg hR hrl hCr hl2 hl6 hof hrow hra hrF hrd hrd1 hc0 hB3 hadl hRC hr0e
 go_enter Tryz.func70,Tryz.ntmps70
 go_wp2
 go_loopw [37] (fun v37 wr=>∃ (i:Nat) (f:Nat→Int),v37=.int .i64 (i:Int)∧Aside0 (i≤ts.length)∧Aside0 (wr.heap[w.heap.size+1]?=some (.cells (vals f) 102 (0,0)))∧Aside0 (∀ k,k < 4→R k=ofL l row i (ts.drop i) f k)∧Aside0 (wr.heap[w.heap.size]?=some (.cells (vals (fun _=>0)) 102 (0,0)))∧Aside0 (Below w.heap.size w wr)) (fun v37 _=>ts.length - (intOf v37).toNat)
 case atStart =>
  refine ⟨0,fun k=>if k=0 then r0 else 0,rfl,⟨Nat.zero_le _⟩,⟨?_⟩,⟨?_⟩,⟨?_⟩,⟨?_⟩⟩
  ·refine (blk_alloc ?_ _)
   exact blk_new1 w _ _
  ·intro k _
   rw [HW.out.2.2.2.2.1,List.drop_zero]
  ·exact blk_alloc (blk_alloc (blk_new w _) _) _
  ·exact below_alloc (below_alloc (below_alloc (Below.refl _ _) _) _) _
 case round =>
  obtain ⟨i,f,rfl,HI,HO,HR,HRS,HB⟩:=hrel
  obtain ⟨ih,hC,hT,hg,hR,hrl,hCr,hl2,hl6⟩:=HW.out
  clear hcellA hcellB hcell hc00 hws hs0 hsi
  by_cases hlt:i < ts.length
  ·have hlb:decide ((i:Int) < (ts.length:Int))=true:=decide_eq_true (by omega)
   obtain ⟨g,cs,q,rfl,_,hgc,hcs,hq⟩:=hT.get i hlt
   rw [Nat.zero_add] at hcs
   have hgl:=(gl_ hgc)
   have hgb:=(HB.out.block g hgl).trans hgc
   have hcell:wr.cell? ⟨g,i,none⟩=some (encI q):=(blk_cell hgb i).trans hcs
   have HC:=Aside0.mk (ih ts[i] (List.getElem_mem hlt) _ cap q wr ok (Kd.C_below hC HB.out) (hq.below HB.out) (goods_mem hg.2.2 (List.getElem_mem hlt)))
   have hd:ts.drop i=ts[i] :: ts.drop (i+1):=List.drop_eq_getElem_cons hlt
   have hRn:=HR.out
   rw [hd] at hRn
   simp only [ofL] at hRn
   have HRN:=Aside0.mk hRn
   have hir:1+(i:Int) < (row.length:Int):=by omega
   have HRC2:Aside0 (∀ w',Below w.heap.size w w'→w'.cell? (ad0.add (1+(i:Int)).toNat)=some (.int .i64 (row.getD (1+i) 0))):=by
    refine ⟨fun w' hb=>?_⟩
    rw [show (1+(i:Int)).toNat=1+i by omega]
    exact HRC.out i (by omega) w' hb
   have w1:=wrO4 i (by omega)
   have wi1:=wr41 i (by omega)
   clear HRC
   have HN:=Aside0.mk (And.intro hrl hl2)
   clear ih hC hT hg hR hrl hCr hl2 hl6 hgb hgc hcs hgl hq hd hRn HR
   generalize ts[i]=x at *
   generalize ofT l x=vt at *
   obtain ⟨tid,pv⟩:=q
   unfold encI at HC hcell
   go_wp2_with (refine HC.out.mono ?_;rintro e w' ⟨rfl,hb⟩;have HBC:=Aside0.mk hb;clear hb)
   go_loopw [45] (fun v45 wi=>∃ (k:Nat) (f2:Nat→Int),v45=.int .i64 (k:Int)∧Aside0 (k≤4)∧Aside0 (wi.heap[w.heap.size+1]?=some (.cells (vals f2) 102 (0,0)))∧Aside0 (∀ j,f2 j=if j < k then wrap64 (f j+wrap64 (row.getD (1+i) 0 * vt j)) else f j)∧Aside0 (wi.heap[w.heap.size]?=some (.cells (vals (fun _=>0)) 102 (0,0)))∧Aside0 (Below w.heap.size w wi)) (fun v45 _=>4 - (intOf v45).toNat)
   case atStart =>
    exact ⟨0,f,rfl,⟨Nat.zero_le _⟩,⟨blk_below HO.out HBC.out⟩,⟨fun j=>by rw [if_neg (Nat.not_lt_zero j)]⟩,⟨blk_below HRS.out HBC.out⟩,⟨below_on HB.out HBC.out⟩⟩
   case round =>
    obtain ⟨k,f2,rfl,HK,HO4,HF,HRS4,HB4⟩:=hrel
    by_cases hk4:k < 4
    ·have hki:(k:Int) < 4:=Int.ofNat_lt.2 hk4
     have hi0:(0:Int)≤1+(i:Int):=Int.add_nonneg (by decide) (Int.natCast_nonneg i)
     have hvk:=index_vals vt k hk4
     have wk:=wrO4 k (Nat.lt_trans hk4 (by decide))
     have HRC2:=HRC2 
     obtain ⟨rv,hrv⟩:∃ rv,rv=row.getD (1+i) 0:=⟨_,rfl⟩
     rw [←hrv] at HRC2 HF HRN
     have HRV:=Aside0.mk hrv
     clear hrv
     have hfz:=blk_frozen HO4.out k
     go_wp2
     refine start_ (n:=13) (S:=fun w'=>w'.cell? ⟨w.heap.size+1,k,none⟩=some (.int .i64 (f2 k))∧w'.cell? (ad0.add (1+(i:Int)).toNat)=some (.int .i64 rv)) (ds:=[12]) (bm 13 0) (by kernel_rfl) rfl rfl ⟨((blk_cell (blk_drew HO4.out) k).trans (vals_at f2 k hk4)),(HRC2.out _ (below_on HB4.out (below_draw _)))⟩ (fun hHeld=>?_)
     refine pk_ 0 49 (bm 13 1) ?_
     refine pk_ 1 50 (bm 13 3) ?_
     refine pk_ 3 52 (bm 13 11) ?_
     refine pk_ 4 53 (bm 13 27) ?_
     refine pk_ 5 54 (bm 13 59) ?_
     refine pk_ 6 55 (bm 13 123) ?_
     refine pk_ 8 57 (bm 13 379) ?_
     refine take_ (i:=2) (N:=some 51) (v:=?_) (a':=?_) (bm 13 383) rfl rfl (by kernel_rfl) (fun _ _ _ h=>h) (Or.inl ⟨by rfl,?_⟩) hHeld ?_ ?_;rotate_left;(rintro w' ⟨s0,s1⟩;go_simp;with_reducible rfl);rotate_left;exact tP_
     refine take_ (i:=7) (N:=some 56) (v:=?_) (a':=?_) (bm 13 511) rfl rfl (by kernel_rfl) (fun _ _ _ h=>h) (Or.inl ⟨by rfl,?_⟩) hHeld ?_ ?_;rotate_left;(rintro w' ⟨s0,s1⟩;go_simp;with_reducible rfl);rotate_left;exact tP_
     refine pk_ 9 58 (bm 13 1023) ?_
     refine pk_ 10 59 (bm 13 2047) ?_
     refine pk_ 11 60 (bm 13 4095) ?_
     refine last_ (i:=12) (N:=none) (bm 13 8191) rfl rfl (by kernel_rfl) (by decide) (fun K hK=>?_)
     refine skip_ (w1:=?_) (by rfl) rfl ?_ ?_
     rotate_left
     ·go_simp
      rfl
     refine hK.out _ _ ?_
     clear hK K
     refine done_ (by kernel_rfl) ?_
     go_wp2
     refine ⟨⟨k+1,updN f2 k (wrap64 (f2 k+wrap64 (rv * vt k))),rfl,⟨hk4⟩,⟨vals_set HO4.out k hk4 _⟩,⟨fun j=>?_⟩,⟨(Below.heap_setCell _ _ _ _ (by show w.heap.size≠w.heap.size+1;omega)).trans HRS4.out⟩,⟨pw_below_drewN (below_set HB4.out (Nat.le_succ _)) 1⟩⟩,?_⟩
     ·rw [←HRV.out]
      have hf:=HF.out j
      have hfk:=HF.out k
      rw [if_neg (Nat.lt_irrefl k)] at hfk
      unfold updN
      by_cases hjk:j=k
      ·subst hjk
       rw [if_pos rfl,if_pos (Nat.lt_succ_self j),hfk]
      ·rw [if_neg hjk,hf]
       by_cases hj2:j < k
       ·rw [if_pos hj2,if_pos (Nat.lt_succ_of_lt hj2)]
       ·rw [if_neg hj2,if_neg (fun h=>hjk (Nat.le_antisymm (Nat.le_of_lt_succ h) (Nat.le_of_not_lt hj2)))]
     ·clear wk w1 wi1 hvk
      simp only [intOf]
      omega
    ·have hkb:decide ((k:Int) < 4)=false:=decide_eq_false (by omega)
     go_wp2
     refine ⟨⟨i+1,f2,by rw [w1];rfl,⟨hlt⟩,HO4,⟨fun j hj=>?_⟩,HRS4,HB4⟩,?_⟩
     ·rw [HRN.out j hj]
      refine ofL_congr l row _ _ _ _ (fun m hm=>?_) j hj
      rw [HF.out m,if_pos (by omega)]
     ·rw [w1]
      simp only [intOf]
      clear w1 wi1
      omega
  ·have hlb:decide ((i:Int) < (ts.length:Int))=false:=decide_eq_false (by omega)
   have hc0:wr.cell? ⟨w.heap.size+1,0,none⟩=some (.int .i64 (f 0)):=blk_cell HO.out 0
   have hc1:wr.cell? ⟨w.heap.size+1,1,none⟩=some (.int .i64 (f 1)):=blk_cell HO.out 1
   have hc2:wr.cell? ⟨w.heap.size+1,2,none⟩=some (.int .i64 (f 2)):=blk_cell HO.out 2
   have hc3:wr.cell? ⟨w.heap.size+1,3,none⟩=some (.int .i64 (f 3)):=blk_cell HO.out 3
   have hd0:wr.cell? ⟨w.heap.size,0,none⟩=some (.int .i64 0):=blk_cell HRS.out 0
   have hd1:wr.cell? ⟨w.heap.size,1,none⟩=some (.int .i64 0):=blk_cell HRS.out 1
   have hd2:wr.cell? ⟨w.heap.size,2,none⟩=some (.int .i64 0):=blk_cell HRS.out 2
   have hd3:wr.cell? ⟨w.heap.size,3,none⟩=some (.int .i64 0):=blk_cell HRS.out 3
   have hz0:=blk_frozen HRS.out 0
   have hz1:=blk_frozen HRS.out 1
   have hz2:=blk_frozen HRS.out 2
   have hz3:=blk_frozen HRS.out 3
   have HRF:=Aside0.mk (And.intro hrl hl2)
   clear ih hC hT hg hR hrl hCr hl2 hl6
   go_wp2
   refine bodyPost_ret (results_cell_row (P:=Tryz.prog) rfl _ _ w.heap.size 102 _ (0,0) _ rfl (vals_set4 f HRS.out) Tryz.underlying102 rfl (by kernel_rfl)) rfl ?_
   refine ⟨?_,?_⟩
   ·have hd:ts.drop i=[]:=List.drop_of_length_le (by omega)
    rw [vals_ext (fun k hk=>(HR.out k hk).trans (by rw [hd,ofL]))]
   ·exact below_set (below_set (below_set (below_set HB.out (Nat.le_refl _)) (Nat.le_refl _)) (Nat.le_refl _)) (Nat.le_refl _)
end
theorem of_calls (l:List (List Int)) (hrd:isRd l=true):∀ t,OfOk l t:=by
 refine Tm.ind (fun c A cap q w ok hC h hg=>?_) (fun s ts ih A cap q w ok hC h hg=>?_)
 ·rw [Has.var_] at h
  subst h
  rw [Tm.good] at hg
  exact of_var l c hg A cap w
 ·rw [Has.app_] at h
  obtain ⟨B,capB,rfl,hc,hL⟩:=h
  exact of_app l hrd s ts ih A cap B capB w ok hC hL hg
end Go.Proofs.YtaafeallcaiooaaGreat.Pr
/-
  DERIVED: THE SHELF's CONTRACTS AT THIS DUMP, IN PLAIN WORDS (tools/lay-plain.mjs out of 'TryzItS.lean', which tools/lay-shelf.mjs wrote): THE SAME DECLARATIONS UNDER THE SAME NAMES: 'import', 'namespace', 'open', 'def', 'theorem' AND NOTHING ELSE: no command of the shelf's: FOR A HAND-IN. Each laying: the table of numbers ('.._ren') and one theorem, a field a fact of the dump's own or the kernel's comparison; each contract: ONE APPLICATION.
-/
namespace Go.Proofs
open Go.Shelf
def Tryz.keys133_ren:Go.Shelf.Ren:=⟨fun|7=>133|10=>151|n=>n,fun|23=>141|26=>9|3=>4|28=>174|0=>0|27=>173|33=>31|4=>4|n=>n,fun|n=>n⟩
theorem Tryz.keys133:Go.Proofs.SlLaysZ.n7 Tryz.prog Tryz.keys133_ren:={
  mixed:=by kernel_rfl
  f7:=⟨Tryz.f133.name,by decide,Tryz.func133.trans (congrArg some (by kernel_rfl))⟩
  f10:=⟨Tryz.f151.name,by decide,Tryz.func151.trans (congrArg some (by kernel_rfl))⟩
  t0:=Tryz.underlying0
  a0:=Tryz.isAgg0
  z0:=Tryz.sizeOf0
  v0:=Tryz.zeroValue0
  t4:=Tryz.underlying4
  a4:=Tryz.isAgg4
  z4:=Tryz.sizeOf4
  v4:=Tryz.zeroValue4
  t23:=Tryz.underlying141
  a23:=Tryz.isAgg141
  z23:=Tryz.sizeOf141
  v23:=Tryz.zeroValue141
  t26:=Tryz.underlying9
  a26:=Tryz.isAgg9
  z26:=Tryz.sizeOf9
  v26:=Tryz.zeroValue9
  t27:=Tryz.underlying173
  a27:=Tryz.isAgg173
  z27:=Tryz.sizeOf173
  v27:=Tryz.zeroValue173
  t28:=Tryz.underlying174
  a28:=Tryz.isAgg174
  z28:=Tryz.sizeOf174
  v28:=Tryz.zeroValue174
  t33:=Tryz.underlying31
  a33:=Tryz.isAgg31
  z33:=Tryz.sizeOf31
  v33:=Tryz.zeroValue31 }
def Tryz.sorted132_ren:Go.Shelf.Ren:=⟨fun|6=>132|8=>149|9=>150|11=>153|13=>155|12=>154|23=>165|24=>166|14=>156|15=>157|16=>158|17=>159|18=>160|19=>161|20=>162|21=>163|22=>164|25=>167|26=>168|27=>169|28=>170|29=>171|30=>172|31=>173|n=>n,fun|26=>9|28=>174|24=>36|0=>0|3=>3|37=>139|48=>200|50=>202|4=>4|40=>194|39=>193|45=>167|5=>5|9=>9|51=>203|55=>207|57=>209|58=>210|33=>31|n=>n,fun|n=>n⟩
theorem Tryz.sorted132:Go.Proofs.SlLaysZ.n6 Tryz.prog Tryz.sorted132_ren:={
  mixed:=by kernel_rfl
  f6:=⟨Tryz.f132.name,by decide,Tryz.func132.trans (congrArg some (by kernel_rfl))⟩
  f8:=⟨Tryz.f149.name,by decide,Tryz.func149.trans (congrArg some (by kernel_rfl))⟩
  f11:=⟨Tryz.f153.name,by decide,Tryz.func153.trans (congrArg some (by kernel_rfl))⟩
  t0:=Tryz.underlying0
  a0:=Tryz.isAgg0
  z0:=Tryz.sizeOf0
  v0:=Tryz.zeroValue0
  t24:=Tryz.underlying36
  a24:=Tryz.isAgg36
  z24:=Tryz.sizeOf36
  v24:=Tryz.zeroValue36
  t26:=Tryz.underlying9
  a26:=Tryz.isAgg9
  z26:=Tryz.sizeOf9
  v26:=Tryz.zeroValue9
  t28:=Tryz.underlying174
  a28:=Tryz.isAgg174
  z28:=Tryz.sizeOf174
  v28:=Tryz.zeroValue174
  i26:=by kernel_rfl }
def Tryz.sort150_ren:Go.Shelf.Ren:=⟨fun|6=>150|8=>155|9=>154|19=>165|20=>166|21=>156|22=>157|23=>158|24=>159|25=>160|26=>161|27=>162|28=>163|29=>164|36=>167|31=>168|32=>169|37=>170|38=>171|39=>172|41=>173|n=>n,fun|27=>36|29=>9|3=>3|32=>139|26=>36|0=>0|44=>200|46=>202|4=>4|36=>194|35=>193|41=>167|5=>5|9=>9|53=>203|57=>207|63=>209|64=>210|n=>n,fun|n=>n⟩
theorem Tryz.sort150:Go.Proofs.SlLaysM.n6 Tryz.prog Tryz.sort150_ren:={
  mixed:=by kernel_rfl
  f6:=⟨Tryz.f150.name,by decide,Tryz.func150.trans (congrArg some (by kernel_rfl))⟩
  f8:=Tryz.func155.trans (congrArg some (by kernel_rfl))
  f9:=⟨Tryz.f154.name,by decide,Tryz.func154.trans (congrArg some (by kernel_rfl))⟩
  f19:=Tryz.func165.trans (congrArg some (by kernel_rfl))
  f20:=Tryz.func166.trans (congrArg some (by kernel_rfl))
  f21:=⟨Tryz.f156.name,by decide,Tryz.func156.trans (congrArg some (by kernel_rfl))⟩
  f22:=⟨Tryz.f157.name,by decide,Tryz.func157.trans (congrArg some (by kernel_rfl))⟩
  f23:=⟨Tryz.f158.name,by decide,Tryz.func158.trans (congrArg some (by kernel_rfl))⟩
  f24:=⟨Tryz.f159.name,by decide,Tryz.func159.trans (congrArg some (by kernel_rfl))⟩
  f25:=⟨Tryz.f160.name,by decide,Tryz.func160.trans (congrArg some (by kernel_rfl))⟩
  f26:=⟨Tryz.f161.name,by decide,Tryz.func161.trans (congrArg some (by kernel_rfl))⟩
  f27:=⟨Tryz.f162.name,by decide,Tryz.func162.trans (congrArg some (by kernel_rfl))⟩
  f28:=⟨Tryz.f163.name,by decide,Tryz.func163.trans (congrArg some (by kernel_rfl))⟩
  f29:=⟨Tryz.f164.name,by decide,Tryz.func164.trans (congrArg some (by kernel_rfl))⟩
  f31:=Tryz.func168.trans (congrArg some (by kernel_rfl))
  f32:=Tryz.func169.trans (congrArg some (by kernel_rfl))
  f36:=⟨Tryz.f167.name,by decide,Tryz.func167.trans (congrArg some (by kernel_rfl))⟩
  f37:=⟨Tryz.f170.name,by decide,Tryz.func170.trans (congrArg some (by kernel_rfl))⟩
  f38:=⟨Tryz.f171.name,by decide,Tryz.func171.trans (congrArg some (by kernel_rfl))⟩
  f39:=⟨Tryz.f172.name,by decide,Tryz.func172.trans (congrArg some (by kernel_rfl))⟩
  f41:=⟨Tryz.f173.name,by decide,Tryz.func173.trans (congrArg some (by kernel_rfl))⟩
  t0:=Tryz.underlying0
  a0:=Tryz.isAgg0
  z0:=Tryz.sizeOf0
  v0:=Tryz.zeroValue0
  t3:=Tryz.underlying3
  a3:=Tryz.isAgg3
  z3:=Tryz.sizeOf3
  v3:=Tryz.zeroValue3
  t4:=Tryz.underlying4
  a4:=Tryz.isAgg4
  z4:=Tryz.sizeOf4
  v4:=Tryz.zeroValue4
  t5:=Tryz.underlying5
  a5:=Tryz.isAgg5
  z5:=Tryz.sizeOf5
  v5:=Tryz.zeroValue5
  t9:=Tryz.underlying9
  a9:=Tryz.isAgg9
  z9:=Tryz.sizeOf9
  v9:=Tryz.zeroValue9
  t26:=Tryz.underlying36
  a26:=Tryz.isAgg36
  z26:=Tryz.sizeOf36
  v26:=Tryz.zeroValue36
  t27:=Tryz.underlying36
  a27:=Tryz.isAgg36
  z27:=Tryz.sizeOf36
  v27:=Tryz.zeroValue36
  t29:=Tryz.underlying9
  a29:=Tryz.isAgg9
  z29:=Tryz.sizeOf9
  v29:=Tryz.zeroValue9
  t32:=Tryz.underlying139
  a32:=Tryz.isAgg139
  z32:=Tryz.sizeOf139
  v32:=Tryz.zeroValue139
  t35:=Tryz.underlying193
  a35:=Tryz.isAgg193
  z35:=Tryz.sizeOf193
  v35:=Tryz.zeroValue193
  t36:=Tryz.underlying194
  a36:=Tryz.isAgg194
  z36:=Tryz.sizeOf194
  v36:=Tryz.zeroValue194
  t41:=Tryz.underlying167
  a41:=Tryz.isAgg167
  z41:=Tryz.sizeOf167
  v41:=Tryz.zeroValue167
  t44:=Tryz.underlying200
  a44:=Tryz.isAgg200
  z44:=Tryz.sizeOf200
  v44:=Tryz.zeroValue200
  t46:=Tryz.underlying202
  a46:=Tryz.isAgg202
  z46:=Tryz.sizeOf202
  v46:=Tryz.zeroValue202
  t53:=Tryz.underlying203
  a53:=Tryz.isAgg203
  z53:=Tryz.sizeOf203
  v53:=Tryz.zeroValue203
  t57:=Tryz.underlying207
  a57:=Tryz.isAgg207
  z57:=Tryz.sizeOf207
  v57:=Tryz.zeroValue207
  t63:=Tryz.underlying209
  a63:=Tryz.isAgg209
  z63:=Tryz.sizeOf209
  v63:=Tryz.zeroValue209
  t64:=Tryz.underlying210
  a64:=Tryz.isAgg210
  z64:=Tryz.sizeOf210
  v64:=Tryz.zeroValue210 }
open Go.RowKit Go.Maps Go.Sort in
theorem Tryz.sorts132 (m:Nat):AnyZ.SortsIn Tryz.prog Tryz.sorted132_ren Fence.wide m :=
  ⟨fun blk off cap ss W hH hblk hsz=>callsIn_wide.2 (AnyM.slices_Sort_string Tryz.sort150 blk off cap ss W hH hblk hsz),
   fun p cap W=>callsIn_wide.2 (AnyM.slices_Sort_string_none Tryz.sort150 p cap W)⟩
open Go.RowKit Go.Maps Go.Sort in
theorem Tryz.maps_Keys_133 (mb:Option Nat) (W:World):CallsIn Fence.wide 5 Tryz.prog 133 #[.map mb] W fun e w'=>e=.returned (.func (.func 151) #[] #[.pointer (some ⟨W.heap.size,0,none⟩)])∧w'=W.alloc (.cells #[.map mb] 141) :=
  AnyZ.keys_in Tryz.keys133 Fence.wide 5 trivial rfl mb W
open Go.RowKit Go.Maps Go.Sort in
theorem Tryz.slices_Sorted_keys_132_133 {H:Type} (b nn:Nat) (D0:DataW H) (R:Value→Option (DataW H × List MemPlace)) (w:World) (hown:w.ownsMap Tryz.prog 9 R b nn D0) (hmax:Maps.size D0≤maxLen) (hbytes:Maps.size D0 * 16≤140737488355328) :
    CallsIn Fence.wide 5 Tryz.prog 132 #[.func (.func 151) #[] #[.pointer (some ⟨w.heap.size,0,none⟩)]] (w.alloc (.cells #[.map (some b)] 141)) fun e w'=>∃ (v:Value) (ss:List (List UInt8)),e=.returned v∧ss.Perm (strKeys D0) ∧
      w'.ownsRow (w.alloc (.cells #[.map (some b)] 141)).heap.size 9 1 v ss.length ((ss.mergeSort (fun x y=>decide (x≤y))).map encStr)∧(v=.slice none 0 0↔ss=[])∧Below (w.alloc (.cells #[.map (some b)] 141)).heap.size (w.alloc (.cells #[.map (some b)] 141)) w':=by
  have hbl:=hown.lt
  have hseq:SeqGives Fence.wide 2 Tryz.prog 151 #[.pointer (some ⟨w.heap.size,0,none⟩)] encStr (fun ss=>ss.Perm (strKeys D0)) (Maps.size D0) (w.alloc (.cells #[.map (some b)] 141)) :=
    AnyZ.keys_gives (ρ:=Tryz.keys133_ren) { Tryz.keys133 with } Fence.wide _ trivial rfl (by omega) w.heap.size b nn D0 _ (by simp) (by simp) (by
      obtain ⟨es,clock,hb,Ft,hs,hD⟩:=hown
      exact ⟨es,clock,(Below.heap_alloc _ _ b hbl).trans hb,Ft,hs,hD⟩)
  exact AnyZ.sorted_in Tryz.sorted132 Fence.wide 5 trivial trivial trivial trivial rfl (by omega) (Tryz.sorts132 _) (enters_of Tryz.func150 (by kernel_rfl) rfl) 151 #[.pointer (some ⟨w.heap.size,0,none⟩)] trivial (enters_of Tryz.func151 (by kernel_rfl) rfl) _ _ hmax hbytes _ hseq
end Go.Proofs
namespace Go.Proofs.YtaafeallcaiooaaGreat.Pr
open Go.RowKit Go.WideMaps Go.Sort Go.Maps Go.Proofs.Zw Go.Proofs.Zl Go.Proofs.Zm
set_option linter.unusedVariables false
set_option linter.unusedSimpArgs false
def leS (x y:ByteArray):Prop:=x.data.toList≤y.data.toList
theorem less_iff (x y:ByteArray):Op.bytesLess x.toList y.toList=true↔x.data.toList < y.data.toList:=by
  rw [bytesLess_eq,ByteArray.toList_eq,ByteArray.toList_eq,decide_eq_true_iff]
theorem not_less_iff (x y:ByteArray):¬ Op.bytesLess x.toList y.toList=true↔leS y x:=by
  rw [less_iff];exact List.not_lt
theorem leS_antisymm {x y:ByteArray} (h:leS x y) (k:leS y x):x=y:=by
  have:=List.le_antisymm h k
  cases x;cases y
  simp at this
  rw [this]
def bytesS (x:ByteArray):List UInt8:=x.data.toList
def ofBytes (l:List UInt8):ByteArray:=⟨l.toArray⟩
theorem ofBytes_bytes (x:ByteArray):ofBytes (bytesS x)=x:=by cases x;rfl
def insD (x:ByteArray):List ByteArray→List ByteArray
  | []=>[x]
  | y :: l=>if Op.bytesLess y.toList x.toList=true then y :: insD x l else if y=x then y :: l else x :: y :: l
def ltS (x y:ByteArray):Prop:=Op.bytesLess x.toList y.toList=true
theorem ltS_iff (x y:ByteArray):ltS x y↔leS x y∧x≠y:=by
  unfold ltS leS
  rw [less_iff]
  constructor
  · intro h
    exact ⟨List.le_of_lt h,fun e=>by subst e;exact List.lt_irrefl _ h⟩
  · rintro ⟨h,hne⟩
    refine Decidable.byContradiction fun hn=>hne ?_
    exact leS_antisymm h (List.not_lt.1 hn)
theorem ltS_trans {x y z:ByteArray} (h:ltS x y) (k:ltS y z):ltS x z:=by
  unfold ltS at *
  rw [less_iff] at *
  exact List.lt_trans h k
theorem mem_insD {t x:ByteArray}:∀ {l:List ByteArray},t∈insD x l↔t=x∨t∈l
  | []=>by simp [insD]
  | y :: l=>by
    rw [insD]
    split
    · rw [List.mem_cons,mem_insD,List.mem_cons]
      constructor
      · rintro (h|h|h)<;>simp [h]
      · rintro (h|h|h)<;>simp [h]
    · split
      · rename_i e
        subst e
        simp only [List.mem_cons]
        constructor
        · exact .inr
        · rintro (h|h)
          · exact .inl h
          · exact h
      · simp only [List.mem_cons]
theorem insD_sorted (x:ByteArray):∀ {l:List ByteArray},l.Pairwise ltS→(insD x l).Pairwise ltS
  | [],_=>by simp [insD]
  | y :: l,h=>by
    have hy:=List.pairwise_cons.1 h
    rw [insD]
    split
    · rename_i hlt
      refine List.pairwise_cons.2 ⟨fun z hz=>?_,insD_sorted x hy.2⟩
      rcases mem_insD.1 hz with rfl|hz
      · exact hlt
      · exact hy.1 z hz
    · split
      · exact h
      · rename_i hlt hne
        have hxy:ltS x y:=(ltS_iff _ _).2 ⟨(not_less_iff _ _).1 hlt,fun e=>hne e.symm⟩
        refine List.pairwise_cons.2 ⟨fun z hz=>?_,h⟩
        rcases List.mem_cons.1 hz with rfl|hz
        · exact hxy
        · exact ltS_trans hxy (hy.1 z hz)
theorem insD_len (x:ByteArray):∀ l:List ByteArray,(insD x l).length≤l.length+1
  | []=>by simp [insD]
  | y :: l=>by
    have:=insD_len x l
    rw [insD]
    split
    · simp only [List.length_cons];omega
    · split<;>simp
theorem law9:Keyed Tryz.prog 9:=string_keyed Tryz.underlying9
def keyS (t:ByteArray):Lit:=.string t.data.toList
theorem keyS_ok (t:ByteArray) (h:t.size≤maxLen):keyOf Tryz.prog 9 (.string t)=some (keyS t):=keyOf_string_mk Tryz.underlying9 h
theorem keyS_inj {t u:ByteArray} (h:keyS t=keyS u):t=u:=by
  unfold keyS at h
  injection h with h
  exact Go.WideShapes.bytes_inj h
theorem keyLit (t:ByteArray):Go.WideAt.IsKeyLit (keyS t):=trivial
def textsT:List Tm→List ByteArray
  | []=>[]
  | t :: l=>insD t.text (textsT l)
theorem textsT_sorted:∀ l,(textsT l).Pairwise ltS
  | []=>.nil
  | t :: l=>insD_sorted _ (textsT_sorted l)
theorem mem_textsT {x:ByteArray}:∀ {l:List Tm},x∈textsT l↔∃ t,t∈l∧t.text=x
  | []=>by simp [textsT]
  | t :: l=>by
    rw [textsT,mem_insD,mem_textsT]
    constructor
    · rintro (h|⟨u,hu,h⟩)
      · exact ⟨t,List.mem_cons_self,h.symm⟩
      · exact ⟨u,List.mem_cons_of_mem _ hu,h⟩
    · rintro ⟨u,hu,h⟩
      rcases List.mem_cons.1 hu with rfl|hu
      · exact .inl h.symm
      · exact .inr ⟨u,hu,h⟩
theorem textsT_len:∀ l,(textsT l).length≤l.length
  | []=>by simp [textsT]
  | t :: l=>by
    have:=textsT_len l
    have:=insD_len t.text (textsT l)
    rw [textsT,List.length_cons];omega
def txG {H:Type} (l:List Tm):Nat→DataW H
  | 0=>.map []
  | k+1=>(txG l k).put (keyS (l.getD k (.var 0)).text) (.lit (.bool true))
theorem txG_isMap {H:Type} (l:List Tm):∀ k,IsMap (txG (H:=H) l k)
  | 0=>⟨_,rfl⟩
  | k+1=>(txG_isMap l k).put _ _
theorem txG_has {H:Type} (l:List Tm) (x:ByteArray):∀ k,Maps.has (txG (H:=H) l k) (keyS x)=true↔∃ j,j < k∧(l.getD j (.var 0)).text=x
  | 0=>by
    constructor
    · intro h;cases h
    · rintro ⟨j,hj,_⟩;omega
  | k+1=>by
    rw [txG]
    by_cases e:(l.getD k (.var 0)).text=x
    · subst e
      rw [has_put_same (txG_isMap l k) (keyLit _)]
      exact ⟨fun _=>⟨k,by omega,rfl⟩,fun _=>rfl⟩
    · rw [has_put_other (fun h=>e (keyS_inj h).symm),txG_has l x k]
      constructor
      · rintro ⟨j,hj,h⟩;exact ⟨j,by omega,h⟩
      · rintro ⟨j,hj,h⟩
        have:j≠k:=fun h'=>e (h' ▸ h)
        exact ⟨j,by omega,h⟩
theorem keys_perm {H:Type} {w:World} {R:Value→Option (DataW H × List MemPlace)} {b nn:Nat} {l:List Tm} (hown:w.ownsMap Tryz.prog 9 R b nn (txG l l.length)):((textsT l).map bytesS).Perm (strKeys (txG (H:=H) l l.length)):=by
  have hC:Collected (txG (H:=H) l l.length) (fun _=>false) ((textsT l).map bytesS):=by
    refine ⟨List.pairwise_map.2 ((textsT_sorted l).imp (fun {a b} h e=>?_)),fun x=>?_⟩
    · exact ((ltS_iff _ _).1 h).2 (by have:=congrArg ofBytes e;rwa [ofBytes_bytes,ofBytes_bytes] at this)
    · have hk:(Lit.string x)=keyS (ofBytes x):=rfl
      rw [hk,txG_has,List.mem_map]
      constructor
      · rintro ⟨t,ht,rfl⟩
        obtain ⟨u,hu,h⟩:=mem_textsT.1 ht
        obtain ⟨j,hj,rfl⟩:=List.getElem_of_mem hu
        exact ⟨⟨j,hj,by rw [ofBytes_bytes,List.getD_eq_getElem?_getD,List.getElem?_eq_getElem hj];exact h⟩,rfl⟩
      · rintro ⟨⟨j,hj,h⟩,_⟩
        rw [List.getD_eq_getElem?_getD,List.getElem?_eq_getElem hj] at h
        exact ⟨ofBytes x,mem_textsT.2 ⟨_,List.getElem_mem hj,h⟩,rfl⟩
  exact hC.perm hown law9 Tryz.underlying9 (fun _=>rfl)
theorem size_txG {H:Type} {w:World} {R:Value→Option (DataW H × List MemPlace)} {b nn:Nat} {l:List Tm} (hown:w.ownsMap Tryz.prog 9 R b nn (txG l l.length)):Maps.size (txG (H:=H) l l.length)=(textsT l).length:=by
  have:=(keys_perm hown).length_eq
  rw [List.length_map] at this
  rw [this]
  obtain ⟨es,e⟩:=txG_isMap (H:=H) l l.length
  rw [e]
  simp [Maps.size,strKeys]
theorem sort_texts {l:List Tm} {ss:List (List UInt8)} (h:ss.Perm ((textsT l).map bytesS)):ss.mergeSort (fun x y=>decide (x≤y))=(textsT l).map bytesS:=by
  have h1:=List.pairwise_mergeSort (le:=fun x y:List UInt8=>decide (x≤y)) (fun a b c h1 h2=>by simp at h1 h2 ⊢;exact List.le_trans h1 h2) (fun a b=>by simp;exact List.le_total a b) ss
  have h2:(ss.mergeSort (fun x y=>decide (x≤y))).Pairwise (fun x y:List UInt8=>x≤y):=h1.imp (fun h=>by simpa using h)
  have h3:((textsT l).map bytesS).Pairwise (fun x y:List UInt8=>x≤y):=List.pairwise_map.2 ((textsT_sorted l).imp (fun h=>((ltS_iff _ _).1 h).1))
  exact List.Perm.eq_of_pairwise (le:=fun x y:List UInt8=>x≤y) (fun a b _ _ h1 h2=>List.le_antisymm h1 h2) h2 h3 ((List.mergeSort_perm _ _).trans h)
open Go.Shelf
theorem text_size_le (t:Tm) (h:t.size≤1000):t.text.size≤4000:=by
  have:=tx_le t
  have e:t.text.size=t.tx.length:=by simp [Tm.text,ByteArray.size]
  rw [e]
  omega
def SortsKeys (l:List Tm):Prop:=∀ (b nn:Nat) (w:World),w.ownsMap (H:=Unit) Tryz.prog 9 (plainElem Tryz.prog 4) b nn (txG l l.length) →
  Calls Tryz.prog 132 #[.func (.func 151) #[] #[.pointer (some ⟨w.heap.size,0,none⟩)]] (w.alloc (.cells #[.map (some b)] 141)) fun e w'=>∃ v:Value,e=.returned v∧Kd.R Kd.string 9 w' (w.heap.size+1) (fun _=>True) v (textsT l)∧Below (w.heap.size+1) (w.alloc (.cells #[.map (some b)] 141)) w'
def KeysOf:Prop:=∀ (b:Nat) (w:World),Calls Tryz.prog 133 #[.map (some b)] w fun e w'=>e=.returned (.func (.func 151) #[] #[.pointer (some ⟨w.heap.size,0,none⟩)])∧w'=w.alloc (.cells #[.map (some b)] 141)
set_option maxHeartbeats 1000000 in
set_option maxRecDepth 100000 in
theorem texts_calls0 (l:List Tm) (hK:KeysOf) (hS:SortsKeys l) (hg:∀ t,t∈l→t.good∧t.size≤1000) (hln:l.length≤1000000) (A:Option Addr) (cap:Nat) (w:World) (ok:Nat→Prop) (hL:HasL w ok l A 0) :
    Calls Tryz.prog 98 #[.slice A l.length cap] w fun e w'=>∃ v,e=.returned v∧Kd.R Kd.string 9 w' w.heap.size (fun k=>w.heap.size≤k) v (textsT l)∧Below w.heap.size w w':=by
  have hmm:=@run_makeMap Tryz.prog
  have HP:=Aside0.mk (And.intro hK (And.intro hS (And.intro hg (And.intro hln hL))))
  clear hK hS hg hln hL
  go_enter Tryz.func98,Tryz.ntmps98
  go_wp2
  go_loopw [9] (fun v9 wr=>∃ i:Nat,v9=.int .i64 (i:Int)∧Aside0 (i≤l.length)∧Aside0 (wr.ownsMap (H:=Unit) Tryz.prog 9 (plainElem Tryz.prog 4) w.heap.size i (txG l i))∧Aside0 (Below w.heap.size w wr)) (fun v9 _=>l.length - (intOf v9).toNat)
  case atStart=>exact ⟨0,rfl,⟨Nat.zero_le _⟩,⟨World.ownsMap_made _ _ _ _⟩,⟨below_alloc (Below.refl _ _) _⟩⟩
  case round =>
    obtain ⟨i,rfl,HI,HO,HB⟩:=hrel
    obtain ⟨hK,hS,hg,hln,hL⟩:=HP.out
    by_cases hlt:i < l.length
    · have hlb:decide ((i:Int) < (l.length:Int))=true:=decide_eq_true (by omega)
      obtain ⟨g,cs,q,rfl,_,hgc,hcs,hq⟩:=hL.get i hlt
      rw [Nat.zero_add] at hcs
      have hgb:=(HB.out.block g (gl_ hgc)).trans hgc
      have hcell:wr.cell? ⟨g,i,none⟩=some (encI q):=(blk_cell hgb i).trans hcs
      have hq2:=hq.below HB.out
      obtain ⟨hg1,hg2⟩:=hg _ (List.getElem_mem hlt)
      have hgd:l.getD i (.var 0)=l[i]:=by rw [List.getD_eq_getElem?_getD,List.getElem?_eq_getElem hlt];rfl
      have HG:=Aside0.mk (show txG (H:=Unit) l (i+1)=(txG l i).put (keyS l[i].text) (.lit (.bool true)) by rw [txG,hgd])
      have HC:=Aside0.mk (text_calls l[i] q wr ok hq2 hg1 (by omega))
      have HK:=Aside0.mk (keyS_ok l[i].text (Nat.le_trans (text_size_le _ hg2) (by unfold maxLen;decide)))
      have HN:=Aside0.mk (show i < maxLen by unfold maxLen;omega)
      have hw1:wrap64 ((i:Int)+1)=(i:Int)+1:=wrS (by omega) (by omega)
      clear hK hS hg hln hL hgc hcs hq hgb hg1 hg2 hgd HI
      generalize l[i]=x at *
      obtain ⟨tid,pv⟩:=q
      obtain ⟨F,hF⟩:∃ F,F=txF (tid,pv):=⟨_,rfl⟩
      have hm1:∀ w,(method 337 tid pv "numnah/rules.text").run Tryz.prog w=.ok (F,pv) w:=hF ▸ meth_text hq2
      have hm2:∀ args w,(callFunc F args).run Tryz.prog w=.ok (.enter F args) w:=hF ▸ enters_text hq2
      clear hq2
      rw [←hF] at HC
      clear hF
      unfold encI at hcell
      generalize x.text=xt at *
      go_wp2_with (first
        | (at_mapUpdate;refine wpList_mapUpdate_own _ rfl _ _ _ 141 rfl 9 4 law9 Tryz.underlying141 (plainElem Tryz.prog 4) w.heap.size i (txG l i) rfl HM.out HN.out _ _ (keyS xt) rfl rfl HK.out (.lit (.bool true)) [] (plainElem_bool Tryz.underlying4 true) ?_;intro w3 hown hgrow;have H3:=Aside0.mk (And.intro hown hgrow);clear hown hgrow)
        | (refine HC.out.mono ?_;rintro e w2 ⟨rfl,hb⟩;have HM:=Aside0.mk (HO.out.kept (Go.Proofs.Zw.grown_of_below hb none) (by simp));have HB2:=Aside0.mk (below_on HB.out hb);clear hb))
      rw [hw1]
      refine ⟨⟨i+1,rfl,⟨hlt⟩,⟨?_⟩,⟨HB2.out.grown H3.out.2 (by have:=HB2.out.size;exact this) (fun j hj=>by cases hj;exact Nat.le_refl _)⟩⟩,?_⟩
      · rw [HG.out]
        exact H3.out.1
      · simp only [intOf]
        clear hw1
        omega
    · have hlb:decide ((i:Int) < (l.length:Int))=false:=decide_eq_false (by omega)
      have e:i=l.length:=by have:=HI.out;omega
      subst e
      have HK:=Aside0.mk (hK w.heap.size wr)
      have HS:=Aside0.mk (hS w.heap.size _ wr HO.out)
      clear hK hS hg hln hL hlb hlt
      go_wp2_with (first
        | (go_at_call 133;refine HK.out.mono ?_;rintro e w2 ⟨rfl,h2⟩;subst w2)
        | (go_at_call 132;refine HS.out.mono ?_;rintro e w3 ⟨v,rfl,hr,hb⟩;have H3:=Aside0.mk (And.intro hr hb);clear hr hb))
      go_ret
      have hs:=HB.out.size
      have hb3:Below w.heap.size w w3:=HB.out.trans (((below_alloc (Below.refl _ _) (.cells #[.map (some w.heap.size)] 141)).mono hs).trans (H3.out.2.mono (by omega)))
      have ho:=own_weaken (Kd.own_of_R H3.out.1) (show w.heap.size≤wr.heap.size+1 by omega)
      exact ⟨v,rfl,Kd.R_of_own ho (fun k hk=>own_base ho k hk),hb3⟩
theorem keysOf_holds:KeysOf:=fun b w=>callsIn_wide.1 (Tryz.maps_Keys_133 (some b) w)
theorem sortsKeys_holds (l:List Tm) (hln:l.length≤1000000):SortsKeys l:=by
  intro b nn w hm
  have hsz:=size_txG hm
  have hl:=textsT_len l
  refine (callsIn_wide.1 (Tryz.slices_Sorted_keys_132_133 b nn _ _ w hm (by unfold maxLen;omega) (by omega))).mono ?_
  rintro e w' ⟨v,ss,rfl,hp,hrow,_,hb⟩
  have hs2:=sort_texts (hp.trans (keys_perm hm).symm)
  have hlen:ss.length=(textsT l).length:=by rw [(hp.trans (keys_perm hm).symm).length_eq,List.length_map]
  rw [hs2,hlen,List.map_map,show (fun l=>encStr l) ∘ bytesS=Value.string from rfl] at hrow
  rw [World.size_alloc] at hrow hb
  exact ⟨v,rfl,Kd.R_of_own (enc:=Value.string) (h1:=fun _=>rfl) hrow (fun _ _=>trivial),hb⟩
theorem texts_calls (l:List Tm) (hg:∀ t,t∈l→t.good∧t.size≤1000) (hln:l.length≤1000000) (A:Option Addr) (cap:Nat) (w:World) (ok:Nat→Prop) (hL:HasL w ok l A 0) :
    Calls Tryz.prog 98 #[.slice A l.length cap] w fun e w'=>∃ v,e=.returned v∧Kd.R Kd.string 9 w' w.heap.size (fun k=>w.heap.size≤k) v (textsT l)∧Below w.heap.size w w' :=
  texts_calls0 l keysOf_holds (sortsKeys_holds l hln) hg hln A cap w ok hL
def valT (l:List (List Int)) (s:ByteArray):Int × (Nat→Int) :=
  if isRd l then match readT s with
    | none=>(4,fun _=>0)
    | some t=>if t.size≤12 then (0,ofT l t) else (5,fun _=>0)
  else (2,fun _=>0)
def Z4:Nat→Int:=fun _=>0
theorem vals_set425 {w:World} {g:Nat} {f0:Nat→Int} (f:Nat→Int) (h:w.heap[g]?=some (.cells (vals f0) 25 (0,0))):((((w.setCell ⟨g,0,none⟩ (.int .i64 (f 0))).setCell ⟨g,1,none⟩ (.int .i64 (f 1))).setCell ⟨g,2,none⟩ (.int .i64 (f 2))).setCell ⟨g,3,none⟩ (.int .i64 (f 3))).heap[g]?=some (.cells (vals f) 25 (0,0)):=by
  simp [World.setCell,Array.getElem?_modify,h,vals]
theorem enters66:∀ args w,(callFunc 66 args).run Tryz.prog w=.ok (.enter 66 args) w:=fun args w=>enters_ Tryz.func66 (by kernel_rfl) rfl args w
set_option maxRecDepth 100000 in
set_option maxHeartbeats 1000000 in
theorem val1_calls (l:List (List Int)) (s:ByteArray) (A0:Option Addr) (c0 b0 b1 b2:Nat) (w:World) (hC0:Kd.C (Kd.slice 3 (Kd.int .i64)) w A0 l.length l) (hb0:w.heap[b0]?=some (.cells #[.slice A0 l.length c0] 22 (0,0))) (hb1:w.heap[b1]?=some (.cells #[.string s] 9 (0,0))) (hb2:w.heap[b2]?=some (.cells (vals Z4) 25 (0,0))) :
    Calls Tryz.prog 66 #[.pointer (some ⟨b0,0,none⟩),.pointer (some ⟨b1,0,none⟩),.pointer (some ⟨b2,0,none⟩)] w fun e w'=>e=endE (valT l s).1∧But b2 w w'∧w'.heap[b2]?=some (.cells (vals (valT l s).2) 25 (0,0)):=by
  have hx0:=blk_cell hb0 0
  have hx1:=blk_cell hb1 0
  have hrd:=isReading_calls l A0 c0 w hC0
  have hrc:=read_calls (fun _=>True) s w (fun _ _=>trivial)
  by_cases h:isRd l=true
  · cases hR:readT s with
    | none =>
      have e:valT l s=(4,Z4):=by unfold valT;rw [if_pos h,hR];rfl
      rw [e]
      rw [h] at hrd
      rw [hR] at hrc
      have HC:=Aside0.mk hrd
      have HR:=Aside0.mk hrc
      have HB2:=Aside0.mk hb2
      clear hrd hrc hC0 hb0 hb1 hb2 h hR e
      go_enter Tryz.func66,Tryz.ntmps66
      go_wp2_with (first|(go_at_call 68;refine HC.out.mono ?_;rintro e w1 ⟨rfl,h1⟩;subst w1)|(go_at_call 67;refine (demand_ok 2 _).mono ?_;rintro e w2 ⟨rfl,h2⟩;subst w2)|(go_at_call 69;refine HR.out.mono ?_;rintro e w3 ⟨hb,rfl⟩;have H3:=Aside0.mk hb;clear hb))
      exact ⟨rfl,rfl,But.of_below H3.out,blk_below HB2.out H3.out⟩
    | some t =>
      have hgd:=readT_good hR
      rw [h] at hrd
      rw [hR] at hrc
      have hsz:=fun (q:Nat × Value) (w':World) (hq:Has w' (fun _=>True) t q)=>size_calls t q w' (fun _=>True) hq (by omega)
      have hof:=fun (q:Nat × Value) (w':World) (hC:Kd.C (Kd.slice 3 (Kd.int .i64)) w' A0 l.length l) (hq:Has w' (fun _=>True) t q)=>of_calls l h t A0 c0 q w' (fun _=>True) hC hq hgd.1
      have HC:=Aside0.mk hrd
      have HR:=Aside0.mk hrc
      have HS:=Aside0.mk hsz
      have HO:=Aside0.mk hof
      have HB2:=Aside0.mk hb2
      have HK:=Aside0.mk (And.intro hC0 (And.intro hb0 hb1))
      by_cases hle:t.size≤12
      · have e:valT l s=(0,ofT l t):=by unfold valT;rw [if_pos h,hR];exact if_pos hle
        rw [e]
        have e0:endE (0,ofT l t).1=.returned (.tuple #[]):=rfl
        rw [e0]
        clear hrd hrc hC0 hb0 hb1 hb2 h hR e e0 hgd hsz hof
        generalize ofT l t=f at *
        generalize t.size=n at *
        go_enter Tryz.func66,Tryz.ntmps66
        go_wp2_with (first
          | (go_at_call 68;refine HC.out.mono ?_;rintro e w1 ⟨rfl,h1⟩;subst w1)
          | (go_at_call 67;refine (demand_ok _ _).mono ?_;rintro e w2 ⟨rfl,h2⟩;subst w2)
          | (go_at_call 69;refine HR.out.mono ?_;rintro e w3 ⟨hb,⟨tid,pv⟩,he,hp⟩;obtain rfl:e=.returned (.iface tid pv):=he;obtain ⟨F,hF⟩:∃ F,F=szF (tid,pv):=⟨_,rfl⟩;have hm1:∀ w,(method 337 tid pv "numnah/rules.size").run Tryz.prog w=.ok (F,pv) w:=hF ▸ meth_size hp;have hm2:∀ args w,(callFunc F args).run Tryz.prog w=.ok (.enter F args) w:=hF ▸ enters_size hp;have HS2:=Aside0.mk (HS.out _ _ hp);rw [←hF] at HS2;have HP:=Aside0.mk (And.intro hb hp);clear hF hb hp)
          | (go_at_call 70;refine (HO.out _ _ (Kd.C_below HK.out.1 (below_on HP.out.1 H4.out)) (HP.out.2.below H4.out)).mono ?_;rintro e w5 ⟨he5,h5⟩;obtain rfl:e=.returned (.agg #[.int .i64 (f 0),.int .i64 (f 1),.int .i64 (f 2),.int .i64 (f 3)]):=he5;have H5:=Aside0.mk (blk_below (blk_below (blk_below HB2.out HP.out.1) H4.out) h5);have H6:=Aside0.mk (below_on (below_on HP.out.1 H4.out) h5);clear h5;have hz0:=blk_frozen H5.out 0;have hz1:=blk_frozen H5.out 1;have hz2:=blk_frozen H5.out 2;have hz3:=blk_frozen H5.out 3;have hd0:w5.cell? ⟨b2,0,none⟩=some (.int .i64 0):=blk_cell H5.out 0;have hd1:w5.cell? ⟨b2,1,none⟩=some (.int .i64 0):=blk_cell H5.out 1;have hd2:w5.cell? ⟨b2,2,none⟩=some (.int .i64 0):=blk_cell H5.out 2;have hd3:w5.cell? ⟨b2,3,none⟩=some (.int .i64 0):=blk_cell H5.out 3)
          | (refine HS2.out.mono ?_;rintro e w4 ⟨rfl,h4⟩;have H4:=Aside0.mk h4;have hx0:=blk_cell (blk_below (blk_below HK.out.2.1 HP.out.1) h4) 0;clear h4))
        have hf1:But b2 w ((((w5.setCell ⟨b2,0,none⟩ (.int .i64 (f 0))).setCell ⟨b2,1,none⟩ (.int .i64 (f 1))).setCell ⟨b2,2,none⟩ (.int .i64 (f 2))).setCell ⟨b2,3,none⟩ (.int .i64 (f 3))):=(But.of_below H6.out).trans ((((But.set _ 0 _).trans (But.set _ 1 _)).trans (But.set _ 2 _)).trans (But.set _ 3 _))
        have hf2:=vals_set425 f H5.out
        generalize (((w5.setCell ⟨b2,0,none⟩ (.int .i64 (f 0))).setCell ⟨b2,1,none⟩ (.int .i64 (f 1))).setCell ⟨b2,2,none⟩ (.int .i64 (f 2))).setCell ⟨b2,3,none⟩ (.int .i64 (f 3))=w9 at *
        simp [bodyPost,results,Tryz.results66]
        exact ⟨hf1,hf2⟩
      · have e:valT l s=(5,Z4):=by unfold valT;rw [if_pos h,hR];exact if_neg hle
        rw [e]
        clear hrd hrc hC0 hb0 hb1 hb2 h hR e hgd hsz hof
        generalize t.size=n at *
        go_enter Tryz.func66,Tryz.ntmps66
        go_wp2_with (first
          | (go_at_call 68;refine HC.out.mono ?_;rintro e w1 ⟨rfl,h1⟩;subst w1)
          | (go_at_call 67;refine (demand_ok 2 _).mono ?_;rintro e w2 ⟨rfl,h2⟩;subst w2)
          | (go_at_call 67;rw [show decide (n≤12)=false from decide_eq_false (Int.not_le.2 hle)];refine (demand_no 5 _).mono ?_;rintro e w2 ⟨rfl,h2⟩;subst w2)
          | (go_at_call 69;refine HR.out.mono ?_;rintro e w3 ⟨hb,⟨tid,pv⟩,he,hp⟩;obtain rfl:e=.returned (.iface tid pv):=he;obtain ⟨F,hF⟩:∃ F,F=szF (tid,pv):=⟨_,rfl⟩;have hm1:∀ w,(method 337 tid pv "numnah/rules.size").run Tryz.prog w=.ok (F,pv) w:=hF ▸ meth_size hp;have hm2:∀ args w,(callFunc F args).run Tryz.prog w=.ok (.enter F args) w:=hF ▸ enters_size hp;have HS2:=Aside0.mk (HS.out _ _ hp);rw [←hF] at HS2;have HP:=Aside0.mk (And.intro hb hp);clear hF hb hp)
          | (refine HS2.out.mono ?_;rintro e w4 ⟨rfl,h4⟩;have H4:=Aside0.mk h4;have hx0:=blk_cell (blk_below (blk_below HK.out.2.1 HP.out.1) h4) 0;clear h4))
        exact ⟨rfl,rfl,But.of_below (below_on HP.out.1 H4.out),blk_below (blk_below HB2.out HP.out.1) H4.out⟩
  · have e:valT l s=(2,Z4):=by unfold valT;rw [if_neg h];rfl
    have h0:isRd l=false:=by simpa using h
    rw [e]
    rw [h0] at hrd
    have HC:=Aside0.mk hrd
    have HB2:=Aside0.mk hb2
    clear hrd hrc hC0 hb0 hb1 hb2 h h0 e
    go_enter Tryz.func66,Tryz.ntmps66
    go_wp2_with (first|(go_at_call 68;refine HC.out.mono ?_;rintro e w1 ⟨rfl,h1⟩;subst w1)|(go_at_call 67;refine (demand_no 2 _).mono ?_;rintro e w2 ⟨rfl,h2⟩;subst w2))
    exact ⟨rfl,rfl,But.refl _ _,HB2.out⟩
set_option maxRecDepth 100000 in
theorem val_calls (l:List (List Int)) (s:ByteArray) (A0:Option Addr) (c0:Nat) (w:World) (hC0:Kd.C (Kd.slice 3 (Kd.int .i64)) w A0 l.length l) :
    Calls Tryz.prog 22 #[.slice A0 l.length c0,.string s] w fun e w'=>e=.returned (.tuple #[.agg (vals (valT l s).2),.int .i64 (valT l s).1])∧Below w.heap.size w w':=by
  obtain ⟨r,v,hv⟩:∃ r v,valT l s=(r,v):=⟨_,_,rfl⟩
  have h1:=fun b0 b1 b2 w' hC=>val1_calls l s A0 c0 b0 b1 b2 w' hC
  rw [hv] at h1 ⊢
  dsimp only at h1 ⊢
  obtain ⟨w3,hw3⟩:∃ w3,w3=((w.alloc (.cells #[.slice A0 l.length c0] 22)).alloc (.cells #[.string s] 9)).alloc (.cells (vals Z4) 25):=⟨_,rfl⟩
  have hB3:Below w.heap.size w w3:=by rw [hw3];exact below_alloc (below_alloc (below_alloc (Below.refl _ _) _) _) _
  have hsz:w3.heap.size=w.heap.size+3:=by rw [hw3];simp
  have hk0:w3.heap[w.heap.size]?=some (.cells #[.slice A0 l.length c0] 22 (0,0)):=by rw [hw3];exact blk_alloc (blk_alloc (blk_new w _) _) _
  have hk1:w3.heap[w.heap.size+1]?=some (.cells #[.string s] 9 (0,0)):=by rw [hw3];exact blk_alloc (blk_new1 w _ _) _
  have hk2:w3.heap[w.heap.size+2]?=some (.cells (vals Z4) 25 (0,0)):=by
    rw [hw3]
    have:=blk_new ((w.alloc (.cells #[.slice A0 l.length c0] 22)).alloc (.cells #[.string s] 9)) (.cells (vals Z4) 25)
    rwa [World.size_alloc,World.size_alloc] at this
  have hg:=guard_keeps 66 enters66 #[.pointer (some ⟨w.heap.size,0,none⟩),.pointer (some ⟨w.heap.size+1,0,none⟩),.pointer (some ⟨w.heap.size+2,0,none⟩)] w3 (fun c w1=>c=r∧But (w.heap.size+2) w3 w1∧w1.heap[w.heap.size+2]?=some (.cells (vals v) 25 (0,0))) ((h1 w.heap.size (w.heap.size+1) (w.heap.size+2) (w3.alloc (.cells #[.int .i64 0] 26)) (Kd.C_below hC0 (below_alloc hB3 _)) (blk_alloc hk0 _) (blk_alloc hk1 _) (blk_alloc hk2 _)).mono (fun e w1 hh=>by
    obtain ⟨rfl,hb,hv1⟩:=hh
    have hbt:But (w.heap.size+2) w3 w1:=(But.of_below (below_alloc (Below.refl _ _) _)).trans hb
    refine ⟨(hb.block _ (by simp) (by omega)).trans (blk_new w3 _),?_⟩
    by_cases hr:r=0
    · subst hr
      exact .inl ⟨rfl,rfl,hbt,hv1⟩
    · exact .inr ⟨r,endE_no hr,rfl,hbt,hv1⟩))
  have HG:=Aside0.mk hg
  have HB:=Aside0.mk hB3
  have HZ:=Aside0.mk hsz
  clear hg hB3 hsz hk0 hk1 hk2 hC0 h1 hv
  subst hw3
  unfold vals Z4 at HG HB HZ
  go_enter Tryz.func22,Tryz.ntmps22
  go_wp2_with (go_at_call 65;refine HG.out.mono ?_;rintro e w1 ⟨c,w2,rfl,⟨rfl,hb,hv1⟩,hb2⟩;have hv2:=(hb2.block _ (gl_ hv1) (by have:=HZ.out;omega)).trans hv1;have hz0:=blk_frozen hv2 0;have hz1:=blk_frozen hv2 1;have hz2:=blk_frozen hv2 2;have hz3:=blk_frozen hv2 3;have hd0:w1.cell? ⟨w.heap.size+2,0,none⟩=some (.int .i64 (v 0)):=blk_cell hv2 0;have hd1:w1.cell? ⟨w.heap.size+2,1,none⟩=some (.int .i64 (v 1)):=blk_cell hv2 1;have hd2:w1.cell? ⟨w.heap.size+2,2,none⟩=some (.int .i64 (v 2)):=blk_cell hv2 2;have hd3:w1.cell? ⟨w.heap.size+2,3,none⟩=some (.int .i64 (v 3)):=blk_cell hv2 3;have HH:=Aside0.mk (And.intro hb (And.intro hb2 hv2));clear hb hb2 hv2)
  refine bodyPost_ret (results_ct (P:=Tryz.prog) rfl _ _ (w.heap.size+1+1) 25 (vals v) (0,0) _ rfl (vals_set425 (f0:=v) v HH.out.2.2) Tryz.underlying25 rfl (by kernel_rfl)) rfl ?_
  refine ⟨rfl,?_⟩
  have hz:=HZ.out
  have b1:=HB.out
  have b2:=HH.out.1
  have b3:=HH.out.2.1
  have b4:Below w.heap.size w w1:=(b1.trans (b2.below (Nat.le_add_right _ _) (by omega))).trans (b3.below (by omega) (by have:=b2.size;omega))
  have hle:w.heap.size≤w.heap.size+1+1:=by omega
  exact below_set (below_set (below_set (below_set b4 hle) hle) hle) hle
mutual
theorem nextT_good {ls:List (Tm × Tm)} (hls:LawsGood ls):∀ (T:Tm) (r:List Tm),T.good→T.size≤60→nextT ls T=some r→∀ t,t∈r→t.good
 | .var c,r,hg,hs,h,t,ht=>by
  rw [nextT] at h
  obtain ⟨rfl,_⟩:=chk_some h
  exact rootT_good hls hg (by omega) ht
 | .app s l,r,hg,hs,h,t,ht=>by
  rw [nextT] at h
  cases hn:nextL ls s [] l with
  | none=>rw [hn] at h;cases h
  | some r2 =>
   rw [hn,Option.bind_some] at h
   obtain ⟨rfl,_⟩:=chk_some h
   rcases List.mem_append.1 ht with ht|ht
   ·exact rootT_good hls hg (by omega) ht
   ·have hg2:=hg
    rw [Tm.good] at hg2
    rw [Tm.size] at hs
    exact nextL_good hls s [] l r2 hg2.1 (by simpa using hg2.2.1) (by rw [Tm.goods];trivial) hg2.2.2 (by omega) hn t ht
theorem nextL_good {ls:List (Tm × Tm)} (hls:LawsGood ls) (s:Int):∀ (pre us r:List Tm),(97≤s∧s≤102)→((pre.length:Int)+us.length=nParts s)→Tm.goods pre→Tm.goods us→Tm.sizes us≤60→nextL ls s pre us=some r→∀ t,t∈r→t.good
 | pre,[],r,h1,h2,h3,h4,h5,h,t,ht=>by
  rw [nextL] at h
  injection h with h
  subst h
  cases ht
 | pre,u :: us,r,h1,h2,h3,h4,h5,h,t,ht=>by
  rw [nextL] at h
  rw [Tm.goods] at h4
  rw [Tm.sizes] at h5
  have hp:=Tm.sizes_nn us
  have hp2:=Tm.size_pos u
  cases hv:nextT ls u with
  | none=>rw [hv] at h;cases h
  | some vs =>
   rw [hv,Option.bind_some] at h
   cases hr:nextL ls s (pre++[u]) us with
   | none=>rw [hr] at h;cases h
   | some r2 =>
    rw [hr,Option.map_some] at h
    injection h with h
    subst h
    rcases List.mem_append.1 ht with ht|ht
    ·obtain ⟨v,hv2,rfl⟩:=List.mem_map.1 ht
     have hvg:=nextT_good hls u vs h4.1 (by omega) hv v hv2
     rw [Tm.good]
     refine ⟨h1,?_,?_⟩
     ·rw [List.length_append,List.length_cons]
      rw [List.length_cons] at h2
      omega
     ·rw [goods_app]
      exact ⟨h3,by rw [Tm.goods];exact ⟨hvg,h4.2⟩⟩
    ·refine nextL_good hls s (pre++[u]) us r2 h1 ?_ ?_ h4.2 (by omega) hr t ht
     ·rw [List.length_append,List.length_cons,List.length_nil]
      rw [List.length_cons] at h2
      omega
     ·rw [goods_app]
      exact ⟨h3,by rw [Tm.goods,Tm.goods];exact ⟨h4.1,trivial⟩⟩
end
def nextsT (rs:List S94) (s:ByteArray):Int × List ByteArray :=
 match newLawsT rs with
 | none=>(2,[])
 | some ls=>match readT s with
  | none=>(4,[])
  | some t=>match nextT ls t with
   | none=>(5,[])
   | some r=>(0,textsT r)
theorem enters97:∀ args w,(callFunc 97 args).run Tryz.prog w=.ok (.enter 97 args) w:=fun args w=>enters_ Tryz.func97 (by kernel_rfl) rfl args w
def StrsAt (w w':World) (b2:Nat) (l:List ByteArray):Prop:=∃ v,w'.heap[b2]?=some (.cells #[v] 36 (0,0))∧Kd.R Kd.string 9 w' w.heap.size (fun k=>w.heap.size≤k) v l
theorem StrsAt.nil {w:World} {b2:Nat} (h:w.heap[b2]?=some (.cells #[.slice none 0 0] 36 (0,0))) {w':World} (hb:Below w.heap.size w w'):StrsAt w w' b2 []:=⟨_,blk_below h hb,Kd.R_nil _ _ _ _ _⟩
set_option maxRecDepth 100000 in
set_option maxHeartbeats 1000000 in
theorem next1_calls (rs:List S94) (s:ByteArray) (A0:Option Addr) (c0 b0 b1 b2:Nat) (w:World) (hC0:Kd.C k94 w A0 rs.length rs) (hb0:w.heap[b0]?=some (.cells #[.slice A0 rs.length c0] 35 (0,0))) (hb1:w.heap[b1]?=some (.cells #[.string s] 9 (0,0))) (hb2:w.heap[b2]?=some (.cells #[.slice none 0 0] 36 (0,0))) :
  Calls Tryz.prog 97 #[.pointer (some ⟨b0,0,none⟩),.pointer (some ⟨b1,0,none⟩),.pointer (some ⟨b2,0,none⟩)] w fun e w'=>e=endE (nextsT rs s).1∧But b2 w w'∧StrsAt w w' b2 (nextsT rs s).2:=by
 have hx0:=blk_cell hb0 0
 have hnl:=newLaws_calls rs A0 c0 w hC0
 cases hL:newLawsT rs with
 | none =>
  have e:nextsT rs s=(2,[]):=by unfold nextsT;rw [hL]
  rw [e]
  rw [hL] at hnl
  have HC:=Aside0.mk hnl
  have HB2:=Aside0.mk hb2
  clear hnl hC0 hb0 hb1 hb2 hL e
  go_enter Tryz.func97,Tryz.ntmps97
  go_wp2_with (go_at_call 77;refine HC.out.mono ?_;rintro e w1 ⟨hb,rfl⟩;have H1:=Aside0.mk hb;clear hb)
  exact ⟨rfl,rfl,But.of_below H1.out,StrsAt.nil HB2.out H1.out⟩
 | some ls =>
  have hlg:=newLawsT_good hL
  rw [hL] at hnl
  have hrc:=fun w':World=>read_calls (fun _=>True) s w' (fun _ _=>trivial)
  cases hR:readT s with
  | none =>
   have e:nextsT rs s=(4,[]):=by unfold nextsT;rw [hL];dsimp only;rw [hR]
   rw [e]
   rw [hR] at hrc
   have HC:=Aside0.mk hnl
   have HR:=Aside0.mk hrc
   have HB2:=Aside0.mk (And.intro hb2 hb1)
   clear hnl hC0 hb0 hb1 hb2 hL hR e hrc hlg
   go_enter Tryz.func97,Tryz.ntmps97
   go_wp2_with (first
    | (go_at_call 77;refine HC.out.mono ?_;rintro e w1 ⟨hb,A2,c2,rfl,hW⟩;have hx1:=blk_cell (blk_below HB2.out.2 hb) 0;have H1:=Aside0.mk (And.intro hb hW);clear hb hW)
    | (go_at_call 69;refine (HR.out _).mono ?_;rintro e w2 ⟨hb,rfl⟩;have H2:=Aside0.mk (below_on H1.out.1 hb);clear hb))
   exact ⟨rfl,rfl,But.of_below H2.out,StrsAt.nil HB2.out.1 H2.out⟩
  | some t =>
   have hgd:=readT_good hR
   have hnx:=fun (q:Nat × Value) (w':World) (okL:Nat→Prop) (A2:Option Addr) (c2:Nat) (hW:HasW w' okL ls A2) (hq:Has w' (fun _=>True) t q)=>next_calls ls hlg.1 (by omega) t q w' (fun _=>True) okL A2 c2 hW hq hgd.1 hgd.2 (fun _ _=>trivial)
   rw [hR] at hrc
   cases hN:nextT ls t with
   | none =>
    have e:nextsT rs s=(5,[]):=by unfold nextsT;rw [hL];dsimp only;rw [hR];dsimp only;rw [hN]
    rw [e]
    rw [hN] at hnx
    have HC:=Aside0.mk hnl
    have HR:=Aside0.mk hrc
    have HX:=Aside0.mk hnx
    have HB2:=Aside0.mk (And.intro hb2 hb1)
    clear hnl hC0 hb0 hb1 hb2 hL hR e hrc hlg hnx hN hgd
    go_enter Tryz.func97,Tryz.ntmps97
    go_wp2_with (first
     | (go_at_call 77;refine HC.out.mono ?_;rintro e w1 ⟨hb,A2,c2,rfl,hW⟩;have hx1:=blk_cell (blk_below HB2.out.2 hb) 0;have H1:=Aside0.mk (And.intro hb hW);clear hb hW)
     | (go_at_call 69;refine (HR.out _).mono ?_;rintro e w2 ⟨hb,⟨tid,pv⟩,he,hp⟩;obtain rfl:e=.returned (.iface tid pv):=he;have H2:=Aside0.mk (And.intro (below_on H1.out.1 hb) (And.intro (H1.out.2.below hb) hp));clear hb hp)
     | (go_at_call 99;refine (HX.out (tid,pv) _ _ _ _ H2.out.2.1 H2.out.2.2).mono ?_;rintro e w3 ⟨hb,rfl⟩;have H3:=Aside0.mk (below_on H2.out.1 hb);clear hb))
    exact ⟨rfl,rfl,But.of_below H3.out,StrsAt.nil HB2.out.1 H3.out⟩
   | some r =>
    have e:nextsT rs s=(0,textsT r):=by unfold nextsT;rw [hL];dsimp only;rw [hR];dsimp only;rw [hN]
    rw [e]
    have e0:endE (0,textsT r).1=.returned (.tuple #[]):=rfl
    rw [e0]
    rw [hN] at hnx
    have hrl:=nextT_len ls t r hN
    have hrg:=nextT_good hlg.1 t r hgd.1 hgd.2 hN
    have hrs:=nextT_size hN
    have hl6:=hlg.2
    have hmul:(ls.length:Int) * t.size≤6 * 60:=Int.mul_le_mul (by omega) hgd.2 (by have:=Tm.size_pos t;omega) (by omega)
    have htx:=fun (A:Option Addr) (cap:Nat) (w':World) (hL:HasL w' (fun _=>True) r A 0)=>texts_calls r (fun t ht=>⟨hrg t ht,by have:=hrs t ht;omega⟩) (by omega) A cap w' (fun _=>True) hL
    have HC:=Aside0.mk hnl
    have HR:=Aside0.mk hrc
    have HX:=Aside0.mk hnx
    have HT:=Aside0.mk htx
    have HB2:=Aside0.mk (And.intro hb2 hb1)
    clear hnl hC0 hb0 hb1 hb2 hL hR e e0 hrc hlg hnx hN hgd hrl hrg hrs hl6 hmul htx
    go_enter Tryz.func97,Tryz.ntmps97
    go_wp2_with (first
     | (go_at_call 77;refine HC.out.mono ?_;rintro e w1 ⟨hb,A2,c2,rfl,hW⟩;have hx1:=blk_cell (blk_below HB2.out.2 hb) 0;have H1:=Aside0.mk (And.intro hb hW);clear hb hW)
     | (go_at_call 69;refine (HR.out _).mono ?_;rintro e w2 ⟨hb,⟨tid,pv⟩,he,hp⟩;obtain rfl:e=.returned (.iface tid pv):=he;have H2:=Aside0.mk (And.intro (below_on H1.out.1 hb) (And.intro (H1.out.2.below hb) hp));clear hb hp)
     | (go_at_call 99;refine (HX.out (tid,pv) _ _ _ _ H2.out.2.1 H2.out.2.2).mono ?_;rintro e w3 ⟨hb,v3,rfl,hrow⟩;obtain ⟨A3,c3,rfl,_,hL3⟩:=hrow.read (fun _ _=>trivial);have H3:=Aside0.mk (And.intro (below_on H2.out.1 hb) hL3);clear hb hrow hL3)
     | (go_at_call 98;refine (HT.out _ _ _ H3.out.2).mono ?_;rintro e w4 ⟨v4,rfl,hr4,hb⟩;obtain ⟨A4,c4,rfl⟩:=own_slice (Kd.own_of_R hr4);have H5:=Aside0.mk (blk_below (blk_below HB2.out.1 H3.out.1) hb);have H4:=Aside0.mk (And.intro (below_on H3.out.1 hb) hr4);clear hb hr4;have hz:=blk_frozen H5.out 0;have hd:w4.cell? ⟨b2,0,none⟩=some (.slice none 0 0):=blk_cell H5.out 0))
    have hf1:But b2 w (w4.setCell ⟨b2,0,none⟩ (.slice A4 (textsT r).length c4)):=(But.of_below H4.out.1).trans (But.set _ 0 _)
    have hf2:(w4.setCell ⟨b2,0,none⟩ (.slice A4 (textsT r).length c4)).heap[b2]?=some (.cells #[.slice A4 (textsT r).length c4] 36 (0,0)):=blk_setCell H5.out _
    have hf3:Kd.R Kd.string 9 (w4.setCell ⟨b2,0,none⟩ (.slice A4 (textsT r).length c4)) w.heap.size (fun k=>w.heap.size≤k) (.slice A4 (textsT r).length c4) (textsT r):=by
     have ho:=own_weaken (Kd.own_of_R H4.out.2) (show w.heap.size≤w3.heap.size from H3.out.1.size)
     exact Kd.R_of_own (own_setCell ho (own_ne ho H5.out (by decide)) _) (fun k hk=>own_base ho k hk)
    generalize (w4.setCell ⟨b2,0,none⟩ (.slice A4 (textsT r).length c4))=w9 at *
    simp [bodyPost,results,Tryz.results97]
    exact ⟨hf1,_,hf2,hf3⟩
set_option maxRecDepth 100000 in
theorem nexts_calls (rs:List S94) (s:ByteArray) (A0:Option Addr) (c0:Nat) (w:World) (hC0:Kd.C k94 w A0 rs.length rs) :
  Calls Tryz.prog 49 #[.slice A0 rs.length c0,.string s] w fun e w'=>∃ v,e=.returned (.tuple #[v,.int .i64 (nextsT rs s).1])∧Kd.R Kd.string 9 w' w.heap.size (fun k=>w.heap.size≤k) v (nextsT rs s).2∧Below w.heap.size w w':=by
 obtain ⟨r,l,hv⟩:∃ r l,nextsT rs s=(r,l):=⟨_,_,rfl⟩
 have h1:=fun b0 b1 b2 w' hC=>next1_calls rs s A0 c0 b0 b1 b2 w' hC
 rw [hv] at h1 ⊢
 dsimp only at h1 ⊢
 obtain ⟨w3,hw3⟩:∃ w3,w3=((w.alloc (.cells #[.slice A0 rs.length c0] 35)).alloc (.cells #[.string s] 9)).alloc (.cells #[.slice none 0 0] 36):=⟨_,rfl⟩
 have hB3:Below w.heap.size w w3:=by rw [hw3];exact below_alloc (below_alloc (below_alloc (Below.refl _ _) _) _) _
 have hsz:w3.heap.size=w.heap.size+3:=by rw [hw3];simp
 have hk0:w3.heap[w.heap.size]?=some (.cells #[.slice A0 rs.length c0] 35 (0,0)):=by rw [hw3];exact blk_alloc (blk_alloc (blk_new w _) _) _
 have hk1:w3.heap[w.heap.size+1]?=some (.cells #[.string s] 9 (0,0)):=by rw [hw3];exact blk_alloc (blk_new1 w _ _) _
 have hk2:w3.heap[w.heap.size+2]?=some (.cells #[.slice none 0 0] 36 (0,0)):=by
  rw [hw3]
  have:=blk_new ((w.alloc (.cells #[.slice A0 rs.length c0] 35)).alloc (.cells #[.string s] 9)) (.cells #[.slice none 0 0] 36)
  rwa [World.size_alloc,World.size_alloc] at this
 have hg:=guard_keeps 97 enters97 #[.pointer (some ⟨w.heap.size,0,none⟩),.pointer (some ⟨w.heap.size+1,0,none⟩),.pointer (some ⟨w.heap.size+2,0,none⟩)] w3 (fun c w1=>c=r∧But (w.heap.size+2) w3 w1∧StrsAt (w3.alloc (.cells #[.int .i64 0] 26)) w1 (w.heap.size+2) l) ((h1 w.heap.size (w.heap.size+1) (w.heap.size+2) (w3.alloc (.cells #[.int .i64 0] 26)) (Kd.C_below hC0 (below_alloc hB3 _)) (blk_alloc hk0 _) (blk_alloc hk1 _) (blk_alloc hk2 _)).mono (fun e w1 hh=>by
  obtain ⟨rfl,hb,hv1⟩:=hh
  have hbt:But (w.heap.size+2) w3 w1:=(But.of_below (below_alloc (Below.refl _ _) _)).trans hb
  refine ⟨(hb.block _ (by simp) (by omega)).trans (blk_new w3 _),?_⟩
  by_cases hr:r=0
  ·subst hr
   exact .inl ⟨rfl,rfl,hbt,hv1⟩
  ·exact .inr ⟨r,endE_no hr,rfl,hbt,hv1⟩))
 have HG:=Aside0.mk hg
 have HB:=Aside0.mk hB3
 have HZ:=Aside0.mk hsz
 clear hg hB3 hsz hk0 hk1 hk2 hC0 h1 hv
 subst hw3
 go_enter Tryz.func49,Tryz.ntmps49
 go_wp2_with (go_at_call 65;refine HG.out.mono ?_;rintro e w1 ⟨c,w2,rfl,⟨rfl,hb,v,hv1,hv3⟩,hb2⟩;obtain ⟨A4,c4,rfl⟩:=own_slice (Kd.own_of_R hv3);have hv2:=(hb2.block _ (gl_ hv1) (by have:=HZ.out;omega)).trans hv1;have hz0:=blk_frozen hv2 0;have hd0:w1.cell? ⟨w.heap.size+2,0,none⟩=some (.slice A4 l.length c4):=blk_cell hv2 0;have HH:=Aside0.mk (And.intro hb (And.intro hb2 (And.intro hv2 hv3)));clear hb hb2 hv2 hv3)
 have hz:=HZ.out
 have b1:=HB.out
 obtain ⟨b2,b3,hv2,hv3⟩:=HH.out
 have b4:Below w.heap.size w w1:=(b1.trans (b2.below (Nat.le_add_right _ _) (by omega))).trans (b3.below (by omega) (by have:=b2.size;omega))
 have ho:=Kd.own_of_R hv3
 have hg2:w1.ownsRow w.heap.size 9 1 (.slice A4 l.length c4) l.length (l.map Value.string):=own_weaken (own_move ho (fun k hk=>b3.block k (own_lt ho k hk) (by have:=own_base ho k hk;rw [World.size_alloc] at this;omega))) (by rw [World.size_alloc];omega)
 have hv9:(w1.setCell ⟨w.heap.size+1+1,0,none⟩ (.slice A4 l.length c4)).heap[w.heap.size+1+1]?=some (.cells #[.slice A4 l.length c4] 36 (0,0)):=blk_setCell hv2 _
 have hcc:(w1.setCell ⟨w.heap.size+1+1,0,none⟩ (.slice A4 l.length c4)).cell? ⟨w.heap.size+1+1,0,none⟩=some (.slice A4 l.length c4):=blk_cell hv9 0
 have b5:Below w.heap.size w (w1.setCell ⟨w.heap.size+1+1,0,none⟩ (.slice A4 l.length c4)):=below_set b4 (by omega)
 have hr5:Kd.R Kd.string 9 (w1.setCell ⟨w.heap.size+1+1,0,none⟩ (.slice A4 l.length c4)) w.heap.size (fun k=>w.heap.size≤k) (.slice A4 l.length c4) l:=Kd.R_of_own (own_setCell hg2 (own_ne hg2 (show w1.heap[w.heap.size+1+1]?=_ from hv2) (by decide)) _) (fun k hk=>own_base hg2 k hk)
 generalize w1.setCell ⟨w.heap.size+1+1,0,none⟩ (.slice A4 l.length c4)=w9 at *
 simp [bodyPost,results,Tryz.results49,go_sem,hcc]
 exact ⟨hr5,b5⟩
end Go.Proofs.YtaafeallcaiooaaGreat.Pr
