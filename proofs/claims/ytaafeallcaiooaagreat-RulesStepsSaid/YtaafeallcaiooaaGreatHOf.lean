/- of: the value of a term by a reading. -/
import Derived.Test.YtaafeallcaiooaaGreatHLp
namespace Go.Proofs.YtaafeallcaiooaaGreat.Pr
open Go.RowKit Go.Maps Go.Proofs.Zw Go.Proofs.Zl Go.Proofs.Zm
set_option linter.unusedVariables false
set_option linter.unusedSimpArgs false
def withinB (n lo hi:Int):Bool:=decide (n≥lo) && decide (n≤hi)
theorem within_calls (n lo hi:Int) (w:World):Calls Tryz.prog 101 #[.int .i64 n,.int .i64 lo,.int .i64 hi] w fun e w'=>e=.returned (.bool (withinB n lo hi))∧w'=w:=by
 unfold withinB
 by_cases h1:n≥lo
 ·by_cases h2:n≤hi
  ·have d1:decide (n≥lo)=true:=decide_eq_true h1
   have d2:decide (n≤hi)=true:=decide_eq_true h2
   rw [d1,d2]
   clear h1 h2
   go_enter Tryz.func101,Tryz.ntmps101
   go_wp2
   go_ret
   exact ⟨rfl,rfl⟩
  ·have d1:decide (n≥lo)=true:=decide_eq_true h1
   have d2:decide (n≤hi)=false:=decide_eq_false h2
   rw [d1,d2]
   clear h1 h2
   go_enter Tryz.func101,Tryz.ntmps101
   go_wp2
   go_ret
   exact ⟨rfl,rfl⟩
 ·have d1:decide (n≥lo)=false:=decide_eq_false h1
  rw [d1]
  clear h1
  go_enter Tryz.func101,Tryz.ntmps101
  go_wp2
  go_ret
  exact ⟨rfl,rfl⟩
theorem notFactor_calls (n:Int) (w:World):Calls Tryz.prog 118 #[.int .i64 n] w fun e w'=>e=.returned (.bool (!withinB n 1 2))∧w'=w:=by
 have hw:=within_calls n 1 2 w
 generalize withinB n 1 2=b at *
 go_enter Tryz.func118,Tryz.ntmps118
 go_wp2_with (go_at_call 101;refine hw.mono ?_;rintro e w1 ⟨rfl,h1⟩;subst w1)
 go_ret
 exact ⟨rfl,rfl⟩
set_option maxRecDepth 100000 in
theorem indexInt_calls (xs:List Int) (A:Option Addr) (cap:Nat) (w:World) (hc:∀ j (h:j < xs.length),∃ ad,A=some ad∧w.cell? (ad.add j)=some (.int .i64 xs[j])) (hln:xs.length≤1000) :
  Calls Tryz.prog 143 #[.slice A xs.length cap,.func (.func 118) #[] #[]] w fun e w'=>∃ k:Int,e=.returned (.int .i64 k)∧decide (k≥0)=xs.any (fun n=>!withinB n 1 2)∧w'=w:=by
 have HP:=Aside0.mk (And.intro hc hln)
 clear hc hln
 go_enter Tryz.func143,Tryz.ntmps143
 go_wp2
 go_loopw [8] (fun v8 wr=>∃ (i:Nat),v8=.int .i64 (i:Int)∧Aside0 (i≤xs.length)∧Aside0 ((xs.take i).any (fun n=>!withinB n 1 2)=false)∧wr=w) (fun v8 _=>xs.length - (intOf v8).toNat)
 case atStart=>exact ⟨0,rfl,⟨Nat.zero_le _⟩,⟨rfl⟩,rfl⟩
 case round =>
  obtain ⟨i,rfl,HI,HA,hwr⟩:=hrel
  subst wr
  obtain ⟨hc,hln⟩:=HP.out
  by_cases hlt:i < xs.length
  ·have hlb:decide ((i:Int) < (xs.length:Int))=true:=decide_eq_true (by omega)
   obtain ⟨ad,rfl,hc1⟩:=hc i hlt
   have hcall:=notFactor_calls xs[i] w
   have hsn:(xs.take (i+1)).any (fun n=>!withinB n 1 2)=!withinB xs[i] 1 2:=by
    rw [List.take_succ_eq_append_getElem hlt,List.any_append,HA.out]
    simp
   have htr:(!withinB xs[i] 1 2)=true→xs.any (fun n=>!withinB n 1 2)=true:=fun h=>List.any_eq_true.2 ⟨xs[i],List.getElem_mem hlt,h⟩
   generalize (!withinB xs[i] 1 2)=b at *
   generalize xs[i]=x at *
   have HC:=Aside0.mk hcall
   have HH:=Aside0.mk (And.intro hsn htr)
   have w1i:wrap64 ((i:Int)+1)=(i:Int)+1:=wrp i (by omega)
   clear hcall hsn htr hc hln
   cases b with
   | true =>
    go_wp2_with (go_at_call 118;refine HC.out.mono ?_;rintro e w1 ⟨rfl,h1⟩;subst w1)
    go_ret
    exact ⟨_,rfl,(decide_eq_true (by omega)).trans (HH.out.2 (by simp)).symm,rfl⟩
   | false =>
    go_wp2_with (go_at_call 118;refine HC.out.mono ?_;rintro e w1 ⟨rfl,h1⟩;subst w1)
    try rw [w1i]
    refine ⟨⟨i+1,by simp,⟨by omega⟩,⟨HH.out.1⟩,by first|rfl|trivial⟩,?_⟩
    simp only [intOf]
    omega
  ·have hlb:decide ((i:Int) < (xs.length:Int))=false:=decide_eq_false (by omega)
   have hno:xs.any (fun n=>!withinB n 1 2)=false:=by have:=HA.out;rwa [List.take_of_length_le (by omega)] at this
   have HN:=Aside0.mk hno
   clear hc hln hno
   go_wp2
   go_ret
   exact ⟨-1,rfl,by rw [HN.out];rfl,rfl⟩
theorem containsInt_calls (xs:List Int) (A:Option Addr) (cap:Nat) (w:World) (hc:∀ j (h:j < xs.length),∃ ad,A=some ad∧w.cell? (ad.add j)=some (.int .i64 xs[j])) (hln:xs.length≤1000) (n:Nat) (hn:n=xs.length) :
  Calls Tryz.prog 117 #[.slice A n cap,.func (.func 118) #[] #[]] w fun e w'=>e=.returned (.bool (xs.any (fun n=>!withinB n 1 2)))∧w'=w:=by
 subst hn
 have HC:=Aside0.mk (indexInt_calls xs A cap w hc hln)
 clear hc hln
 generalize xs.any (fun n=>!withinB n 1 2)=r at *
 generalize xs.length=n at *
 go_enter Tryz.func117,Tryz.ntmps117
 go_wp2_with (go_at_call 143;refine HC.out.mono ?_;rintro e w1 ⟨k,rfl,hk,h1⟩;subst w1;have H1:=Aside0.mk hk;clear hk)
 go_ret
 rw [←H1.out]
 exact ⟨rfl,rfl⟩
theorem add_one_add (ad:Addr) (j:Nat):(⟨ad.block,ad.off+1,none⟩:Addr).add j=ad.add (1+j):=by
 unfold Addr.add
 by_cases h:j=0
 ·subst h
  simp
 ·simp [h]
  omega
theorem tailAt {w:World} {ad:Addr} {row:List Int} (h:(Kd.int .i64).C w (some ad) row.length row) (j:Nat) (hj:j < (row.drop 1).length):∃ a,some (⟨ad.block,ad.off+1,none⟩:Addr)=some a∧w.cell? (a.add j)=some (.int .i64 (row.drop 1)[j]):=by
 have hj2:1+j < row.length:=by rw [List.length_drop] at hj;omega
 obtain ⟨a,e,hc⟩:=Kd.at_int h ((1+j:Nat):Int) (by omega) (by omega)
 obtain rfl:ad=a:=by injection e
 refine ⟨_,rfl,?_⟩
 rw [add_one_add]
 rw [Int.toNat_natCast] at hc
 rw [hc]
 have hrd:rd row ((1+j:Nat):Int)=row[1+j]:=by
  show row.getD ((1+j:Nat):Int).toNat 0=_
  rw [Int.toNat_natCast,List.getD_eq_getElem?_getD,List.getElem?_eq_getElem hj2]
  rfl
 rw [hrd,List.getElem_drop]
def rowOk (i:Nat) (row:List Int):Bool:=decide ((row.length:Int)=1+nParts (97+i)) && (withinB (row.getD 0 0) 0 2 && !(row.drop 1).any (fun n=>!withinB n 1 2))
def isRdF:Nat→List (List Int)→Bool
 | _,[]=>true
 | i,row :: l=>rowOk i row && isRdF (i+1) l
def isRd (l:List (List Int)):Bool:=decide (l.length=6) && isRdF 0 l
set_option maxRecDepth 100000 in
set_option maxHeartbeats 1000000 in
theorem isReading_calls (xs:List (List Int)) (A:Option Addr) (cap:Nat) (w:World) (hC:Kd.C (Kd.slice 3 (Kd.int .i64)) w A xs.length xs) :
  Calls Tryz.prog 68 #[.slice A xs.length cap] w fun e w'=>e=.returned (.bool (isRd xs))∧w'=w:=by
 by_cases h6:xs.length=6
 ·have hd6:((xs.length:Int) == 6)=true:=beq_iff_eq.2 (by omega)
  obtain ⟨r,hr⟩:∃ r,r=isRd xs:=⟨_,rfl⟩
  have hrF:r=isRdF 0 xs:=by rw [hr];unfold isRd;rw [decide_eq_true h6,Bool.true_and]
  rw [←hr]
  have HP:=Aside0.mk (And.intro hC (And.intro hrF h6))
  rw [h6]
  clear hC hrF hr hd6
  go_enter Tryz.func68,Tryz.ntmps68
  go_wp2
  go_loopw [10] (fun v10 wr=>∃ (i:Nat),v10=.int .i64 (i:Int)∧Aside0 (i≤6)∧Aside0 (r=isRdF i (xs.drop i))∧wr=w) (fun v10 _=>6 - (intOf v10).toNat)
  case atStart=>exact ⟨0,rfl,⟨by omega⟩,⟨by rw [List.drop_zero];exact HP.out.2.1⟩,rfl⟩
  case round =>
   obtain ⟨i,rfl,HI,HR,hwr⟩:=hrel
   subst wr
   obtain ⟨hC,hrF,h6b⟩:=HP.out
   by_cases hlt:i < 6
   ·have hlb:decide ((i:Int) < 6)=true:=decide_eq_true (by omega)
    have hlx:i < xs.length:=by omega
    rw [h6] at hC
    obtain ⟨ad,A0,c0,rfl,hcell,hlc,hrow⟩:=at_L1 hC (i:Int) (by omega) (by omega)
    have hrd:rd_L1 xs (i:Int)=xs[i]:=by simp [rd_L1,hlx]
    rw [hrd] at hcell hlc hrow
    rw [Int.toNat_natCast] at hcell
    have hsym:∀ h,((((⟨#[97,98,99,100,101,102]⟩:ByteArray)[i]'h).toNat:Nat):Int)=97+(i:Int):=by
     intro h
     have:i=0∨i=1∨i=2∨i=3∨i=4∨i=5:=by omega
     rcases this with rfl|rfl|rfl|rfl|rfl|rfl<;>rfl
    have hnp:0≤nParts (97+(i:Int))∧nParts (97+(i:Int))≤2:=by unfold nParts;omega
    have hpc:=parts_calls (97+(i:Int)) (by omega) w
    have hwp:wrap64 (1+nParts (97+(i:Int)))=1+nParts (97+(i:Int)):=wr (by omega) (by omega)
    have hd:xs.drop i=xs[i] :: xs.drop (i+1):=List.drop_eq_getElem_cons hlx
    have hR2:=HR.out
    rw [hd,isRdF] at hR2
    generalize xs[i]=row at *
    have HPC:=Aside0.mk hpc
    by_cases hlen:(row.length:Int)=1+nParts (97+(i:Int))
    ·have he:((row.length:Int) == 1+nParts (97+(i:Int)))=true:=beq_iff_eq.2 hlen
     have hr0:0 < row.length:=by omega
     obtain ⟨ad0,rfl,hc0⟩:=Kd.at_int hrow 0 (by omega) (by omega)
     have hc00:w.cell? ad0=some (.int .i64 (rd row 0)):=by
      have:=hc0
      simpa [Addr.add] using this
     clear hc0
     have hbn:((row.length:Int) != 1+nParts (97+(i:Int)))=false:=by rw [bne,he];rfl
     have HRW:=Aside0.mk hrow
     have HAT:=Aside0.mk (tailAt hrow)
     have hr2:row.length≤3:=by omega
     have hne:((1:Int)≤(row.length:Int)):=by omega
     have HH:=Aside0.mk (And.intro hR2 (And.intro hlen (And.intro hnp (And.intro hd (And.intro hC hrF)))))
     clear hC hrF hrd hpc hnp hd hR2 hlen hrow
     have hwi:=within_calls (rd row 0) 0 2 w
     have hrow2:rowOk i row=(withinB (rd row 0) 0 2 && !(row.drop 1).any (fun n=>!withinB n 1 2)):=by
      unfold rowOk
      rw [decide_eq_true HH.out.2.1,Bool.true_and]
      rfl
     have hct:=fun (A':Option Addr) (cap':Nat) (hA:∀ j (h:j < (row.drop 1).length),∃ ad,A'=some ad∧w.cell? (ad.add j)=some (.int .i64 (row.drop 1)[j]))=>containsInt_calls (row.drop 1) A' cap' w hA (by rw [List.length_drop];omega) (row.length - 1) (by rw [List.length_drop])
     generalize (row.drop 1).any (fun n=>!withinB n 1 2)=b3 at *
     generalize withinB (rd row 0) 0 2=b2 at *
     have HRO:=Aside0.mk hrow2
     have HWI:=Aside0.mk hwi
     have HCT:=Aside0.mk hct
     clear hrow2 hwi hct
     have w1i:wrap64 ((i:Int)+1)=(i:Int)+1:=wrp i (by omega)
     cases b2 with
     | false =>
      have hr0:r=false:=by rw [HH.out.1,HRO.out];rfl
      subst hr0
      go_wp2_with (first|(go_at_call 114;refine HPC.out.mono ?_;rintro e w1 ⟨rfl,h1⟩;subst w1)|(go_at_call 101;refine HWI.out.mono ?_;rintro e w1 ⟨rfl,h1⟩;subst w1))
      go_ret
      exact ⟨rfl,rfl⟩
     | true =>
      cases b3 with
      | true =>
       have hr0:r=false:=by rw [HH.out.1,HRO.out];rfl
       subst hr0
       go_wp2_with (first|(go_at_call 114;refine HPC.out.mono ?_;rintro e w1 ⟨rfl,h1⟩;subst w1)|(go_at_call 101;refine HWI.out.mono ?_;rintro e w1 ⟨rfl,h1⟩;subst w1)|(go_at_call 117;refine (HCT.out _ _ (by intro j h;first|(exfalso;rw [List.length_drop] at h;omega)|exact HAT.out j h)).mono ?_;rintro e w1 ⟨rfl,h1⟩;subst w1))
       all_goals (go_ret;exact ⟨rfl,rfl⟩)
      | false =>
       go_wp2_with (first|(go_at_call 114;refine HPC.out.mono ?_;rintro e w1 ⟨rfl,h1⟩;subst w1)|(go_at_call 101;refine HWI.out.mono ?_;rintro e w1 ⟨rfl,h1⟩;subst w1)|(go_at_call 117;refine (HCT.out _ _ (by intro j h;first|(exfalso;rw [List.length_drop] at h;omega)|exact HAT.out j h)).mono ?_;rintro e w1 ⟨rfl,h1⟩;subst w1))
       all_goals (
        try rw [w1i]
        refine ⟨⟨i+1,by simp,⟨by omega⟩,⟨by rw [HH.out.1,HRO.out];rfl⟩,by first|rfl|trivial⟩,?_⟩
        simp only [intOf]
        omega)
    ·have he:((row.length:Int) == 1+nParts (97+(i:Int)))=false:=beq_eq_false_iff_ne.2 hlen
     have hbn:((row.length:Int) != 1+nParts (97+(i:Int)))=true:=by rw [bne,he];rfl
     have hr0:r=false:=by rw [hR2];unfold rowOk;rw [decide_eq_false hlen];rfl
     subst hr0
     clear hC hrF hrd hpc hnp hd hR2 hlen hrow
     go_wp2_with (go_at_call 114;refine HPC.out.mono ?_;rintro e w1 ⟨rfl,h1⟩;subst w1)
     go_ret
     exact ⟨rfl,rfl⟩
   ·have hlb:decide ((i:Int) < 6)=false:=decide_eq_false (by omega)
    have hr1:r=true:=by
     have:=HR.out
     rwa [List.drop_of_length_le (by omega),isRdF] at this
    subst hr1
    clear hC hrF h6b
    go_wp2
    go_ret
    exact ⟨rfl,rfl⟩
 ·have hd6:((xs.length:Int) == 6)=false:=beq_eq_false_iff_ne.2 (by omega)
  have hr:isRd xs=false:=by unfold isRd;rw [decide_eq_false h6,Bool.false_and]
  rw [hr]
  clear hC hr
  go_enter Tryz.func68,Tryz.ntmps68
  go_wp2
  go_ret
  exact ⟨rfl,rfl⟩
def rowAt (l:List (List Int)) (s:Int):List Int:=l.getD (s - 97).toNat []
mutual
def ofT (l:List (List Int)):Tm→Nat→Int
 | .var c=>fun k=>if (k:Int)=c - 119 then 1 else 0
 | .app s ts=>ofL l (rowAt l s) 0 ts (fun k=>if k=0 then (rowAt l s).getD 0 0 else 0)
def ofL (l:List (List Int)) (row:List Int):Nat→List Tm→(Nat→Int)→(Nat→Int)
 | _,[],acc=>acc
 | i,t :: ts,acc=>ofL l row (i+1) ts (fun k=>wrap64 (acc k+wrap64 (row.getD (1+i) 0 * ofT l t k)))
end
def vals (f:Nat→Int):Array Value:=#[.int .i64 (f 0),.int .i64 (f 1),.int .i64 (f 2),.int .i64 (f 3)]
theorem blk_new1 (w:World) (o1 o2:Obj):((w.alloc o1).alloc o2).heap[w.heap.size+1]?=some o2:=by
 have:=blk_new (w.alloc o1) o2
 rwa [World.size_alloc] at this
theorem vals_at (f:Nat→Int) (k:Nat) (hk:k < 4):(vals f)[k]?=some (.int .i64 (f k)):=by
 have:k=0∨k=1∨k=2∨k=3:=by omega
 rcases this with rfl|rfl|rfl|rfl<;>rfl
theorem index_vals (f:Nat→Int) (k:Nat) (hk:k < 4) (w:World):(Instr.index 102 (.agg (vals f)) (.int .i64 (k:Int))).run Tryz.prog w=.ok (.int .i64 (f k)) w:=by
 have h0:(Instr.index 102 (.agg (vals f)) (.int .i64 0)).run Tryz.prog w=.ok (.int .i64 (f 0)) w:=by kernel_rfl
 have h1:(Instr.index 102 (.agg (vals f)) (.int .i64 1)).run Tryz.prog w=.ok (.int .i64 (f 1)) w:=by kernel_rfl
 have h2:(Instr.index 102 (.agg (vals f)) (.int .i64 2)).run Tryz.prog w=.ok (.int .i64 (f 2)) w:=by kernel_rfl
 have h3:(Instr.index 102 (.agg (vals f)) (.int .i64 3)).run Tryz.prog w=.ok (.int .i64 (f 3)) w:=by kernel_rfl
 have:k=0∨k=1∨k=2∨k=3:=by omega
 rcases this with rfl|rfl|rfl|rfl
 ·exact h0
 ·exact h1
 ·exact h2
 ·exact h3
theorem wrO4 (k:Nat) (h:k < 1000):wrap64 ((k:Int)+1)=(k:Int)+1:=wrS (by omega) (by omega)
theorem wr41 (k:Nat) (h:k < 1000):wrap64 (1+(k:Int))=1+(k:Int):=wrS (by omega) (by omega)
def updN (f:Nat→Int) (k:Nat) (v:Int):Nat→Int:=fun j=>if j=k then v else f j
theorem vals_set {w:World} {g:Nat} {f:Nat→Int} (h:w.heap[g]?=some (.cells (vals f) 102 (0,0))) (k:Nat) (hk:k < 4) (v:Int):(w.setCell ⟨g,k,none⟩ (.int .i64 v)).heap[g]?=some (.cells (vals (updN f k v)) 102 (0,0)):=by
 have:k=0∨k=1∨k=2∨k=3:=by omega
 rcases this with rfl|rfl|rfl|rfl<;>simp [World.setCell,Array.getElem?_modify,h,vals,updN]
theorem vals_ext {f g:Nat→Int} (h:∀ k,k < 4→f k=g k):vals f=vals g:=by
 unfold vals
 rw [h 0 (by decide),h 1 (by decide),h 2 (by decide),h 3 (by decide)]
theorem ofL_congr (l:List (List Int)) (row:List Int):∀ (ts:List Tm) (i:Nat) (f g:Nat→Int),(∀ k,k < 4→f k=g k)→∀ k,k < 4→ofL l row i ts f k=ofL l row i ts g k
 | [],i,f,g,h,k,hk=>by rw [ofL,ofL];exact h k hk
 | t :: ts,i,f,g,h,k,hk=>by
  rw [ofL,ofL]
  exact ofL_congr l row ts (i+1) _ _ (fun j hj=>by rw [h j hj]) k hk
theorem vals_set4 {w:World} {g:Nat} {f0:Nat→Int} (f:Nat→Int) (h:w.heap[g]?=some (.cells (vals f0) 102 (0,0))):((((w.setCell ⟨g,0,none⟩ (.int .i64 (f 0))).setCell ⟨g,1,none⟩ (.int .i64 (f 1))).setCell ⟨g,2,none⟩ (.int .i64 (f 2))).setCell ⟨g,3,none⟩ (.int .i64 (f 3))).heap[g]?=some (.cells (vals f) 102 (0,0)):=by
 have h0:=vals_set h 0 (by decide) (f 0)
 have h1:=vals_set h0 1 (by decide) (f 1)
 have h2:=vals_set h1 2 (by decide) (f 2)
 have h3:=vals_set h2 3 (by decide) (f 3)
 rw [h3]
 rfl
theorem isRdF_at:∀ (l:List (List Int)) (i j:Nat),isRdF i l=true→(h:j < l.length)→rowOk (i+j) l[j]=true
 | row :: l,i,0,h,hj=>by
  rw [isRdF,Bool.and_eq_true] at h
  exact h.1
 | row :: l,i,j+1,h,hj=>by
  rw [isRdF,Bool.and_eq_true] at h
  have:=isRdF_at l (i+1) j h.2 (by simpa using hj)
  rw [show i+(j+1)=i+1+j by omega]
  exact this
def OfOk (l:List (List Int)) (t:Tm):Prop:=∀ (A:Option Addr) (cap:Nat) (q:Nat × Value) (w:World) (ok:Nat→Prop),Kd.C (Kd.slice 3 (Kd.int .i64)) w A l.length l→Has w ok t q→t.good→Calls Tryz.prog 70 #[.slice A l.length cap,encI q] w fun e w'=>e=.returned (.agg (vals (ofT l t)))∧Below w.heap.size w w'
section
attribute [local go_sem] asVV asVC asCC asCV
set_option maxRecDepth 100000 in
set_option maxHeartbeats 1000000 in
theorem of_var (l:List (List Int)) (c:Int) (hc:120≤c∧c≤122) (A:Option Addr) (cap:Nat) (w:World) :
  Calls Tryz.prog 70 #[.slice A l.length cap,.iface 131 (.int .u8 c)] w fun e w'=>e=.returned (.agg (vals (ofT l (.var c))))∧Below w.heap.size w w':=by
 have hB:∀ o1 o2,Below w.heap.size w ((w.alloc o1).alloc o2):=fun o1 o2=>below_alloc (below_alloc (Below.refl _ _) _) _
 have h:c=120∨c=121∨c=122:=by omega
 rcases h with rfl|rfl|rfl
 ·have hh:((w.alloc (.cells #[.int .i64 0,.int .i64 1,.int .i64 0,.int .i64 0] 102)).alloc (.cells #[.int .i64 0,.int .i64 1,.int .i64 0,.int .i64 0] 102)).heap[w.heap.size]?=some (.cells #[.int .i64 0,.int .i64 1,.int .i64 0,.int .i64 0] 102 (0,0)):=blk_alloc (blk_new w _) _
  have hv:vals (ofT l (.var 120))=#[.int .i64 0,.int .i64 1,.int .i64 0,.int .i64 0]:=by unfold vals;rw [ofT];rfl
  rw [hv]
  clear hv
  go_enter Tryz.func70,Tryz.ntmps70
  go_wp2
  refine bodyPost_ret (results_cell_row (P:=Tryz.prog) rfl _ _ w.heap.size 102 _ (0,0) _ rfl hh Tryz.underlying102 rfl (by kernel_rfl)) rfl ?_
  exact ⟨rfl,hB _ _⟩
 ·have hh:((w.alloc (.cells #[.int .i64 0,.int .i64 0,.int .i64 1,.int .i64 0] 102)).alloc (.cells #[.int .i64 0,.int .i64 0,.int .i64 1,.int .i64 0] 102)).heap[w.heap.size]?=some (.cells #[.int .i64 0,.int .i64 0,.int .i64 1,.int .i64 0] 102 (0,0)):=blk_alloc (blk_new w _) _
  have hv:vals (ofT l (.var 121))=#[.int .i64 0,.int .i64 0,.int .i64 1,.int .i64 0]:=by unfold vals;rw [ofT];rfl
  rw [hv]
  clear hv
  go_enter Tryz.func70,Tryz.ntmps70
  go_wp2
  refine bodyPost_ret (results_cell_row (P:=Tryz.prog) rfl _ _ w.heap.size 102 _ (0,0) _ rfl hh Tryz.underlying102 rfl (by kernel_rfl)) rfl ?_
  exact ⟨rfl,hB _ _⟩
 ·have hh:((w.alloc (.cells #[.int .i64 0,.int .i64 0,.int .i64 0,.int .i64 1] 102)).alloc (.cells #[.int .i64 0,.int .i64 0,.int .i64 0,.int .i64 1] 102)).heap[w.heap.size]?=some (.cells #[.int .i64 0,.int .i64 0,.int .i64 0,.int .i64 1] 102 (0,0)):=blk_alloc (blk_new w _) _
  have hv:vals (ofT l (.var 122))=#[.int .i64 0,.int .i64 0,.int .i64 0,.int .i64 1]:=by unfold vals;rw [ofT];rfl
  rw [hv]
  clear hv
  go_enter Tryz.func70,Tryz.ntmps70
  go_wp2
  refine bodyPost_ret (results_cell_row (P:=Tryz.prog) rfl _ _ w.heap.size 102 _ (0,0) _ rfl hh Tryz.underlying102 rfl (by kernel_rfl)) rfl ?_
  exact ⟨rfl,hB _ _⟩
set_option maxRecDepth 100000 in
set_option maxHeartbeats 4000000 in
theorem of_app (l:List (List Int)) (hrd:isRd l=true) (s:Int) (ts:List Tm) (ih:∀ x,x∈ts→OfOk l x) (A:Option Addr) (cap:Nat) (B:Option Addr) (capB:Nat) (w:World) (ok:Nat→Prop) (hC:Kd.C (Kd.slice 3 (Kd.int .i64)) w A l.length l) (hT:HasL w ok ts B 0) (hg:(Tm.app s ts).good) :
  Calls Tryz.prog 70 #[.slice A l.length cap,.iface 149 (.agg #[.int .u8 s,.slice B ts.length capB])] w fun e w'=>e=.returned (.agg (vals (ofT l (.app s ts))))∧Below w.heap.size w w':=by
 have hl2:=good_len hg
 rw [Tm.good] at hg
 have hrd2:l.length=6∧isRdF 0 l=true:=by
  unfold isRd at hrd
  simpa using hrd
 obtain ⟨hl6,hrF⟩:=hrd2
 have hsi:(s - 97).toNat < l.length:=by omega
 have hrow:=isRdF_at l 0 _ hrF hsi
 rw [Nat.zero_add] at hrow
 have hra:rowAt l s=l[(s - 97).toNat]:=by unfold rowAt;rw [List.getD_eq_getElem?_getD,List.getElem?_eq_getElem hsi];rfl
 obtain ⟨ad,A0,c0,rfl,hcell,hlc,hCr⟩:=at_L1 hC (s - 97) (by omega) (by omega)
 have hrd1:rd_L1 l (s - 97)=rowAt l s:=rfl
 rw [hrd1] at hcell hlc hCr
 have hrl:((rowAt l s).length:Int)=1+ts.length:=by
  rw [←hra] at hrow
  unfold rowOk at hrow
  simp only [Bool.and_eq_true,decide_eq_true_eq] at hrow
  have h1:=hrow.1
  have h2:=hg.2.1
  rw [show (97:Int)+((s - 97).toNat:Nat)=s by omega] at h1
  omega
 have hof:ofT l (.app s ts)=ofL l (rowAt l s) 0 ts (fun k=>if k=0 then (rowAt l s).getD 0 0 else 0):=by rw [ofT]
 rw [hof]
 obtain ⟨R,hR⟩:∃ R,R=ofL l (rowAt l s) 0 ts (fun k=>if k=0 then (rowAt l s).getD 0 0 else 0):=⟨_,rfl⟩
 rw [←hR]
 generalize rowAt l s=row at *
 obtain ⟨ad0,rfl,hc0⟩:=Kd.at_int hCr 0 (by omega) (by omega)
 have hc00:w.cell? ad0=some (.int .i64 (row.getD 0 0)):=by
  have:=hc0
  simpa [Addr.add,rd] using this
 have hs0:0≤s - 97∧s - 97≤255:=by omega
 have hws:IntKind.u8.wrap (s - 97)=s - 97:=Go.IntWalk.u8_in _ (by omega)
 have hslt:s - 97 < (l.length:Int):=by omega
 have hr0:0 < row.length:=by omega
 have hB3:∀ o1 o2 o3,Below w.heap.size w (((w.alloc o1).alloc o2).alloc o3):=fun o1 o2 o3=>below_alloc (below_alloc (below_alloc (Below.refl _ _) _) _) _
 have hadl:=(hB3 (.cells #[] 0) (.cells #[] 0) (.cells #[] 0))
 have hcellA:∀ o1 o2 o3,(((w.alloc o1).alloc o2).alloc o3).cell? (ad.add (s - 97).toNat)=some (.slice (some ad0) row.length c0):=fun o1 o2 o3=>((hB3 o1 o2 o3).cell (World.block_lt_of_cell? w _ hcell)).trans hcell
 have hRC:∀ i:Nat,1+i < row.length→∀ w',Below w.heap.size w w'→w'.cell? (ad0.add (1+i))=some (.int .i64 (row.getD (1+i) 0)):=by
  intro i hi w' hb
  obtain ⟨ad1,e1,hc1⟩:=Kd.at_int (Kd.C_below hCr hb) ((1+i:Nat):Int) (by omega) (by omega)
  obtain rfl:ad0=ad1:=by injection e1
  have h1:rd row ((1+i:Nat):Int)=row.getD (1+i) 0:=by simp only [rd,Int.toNat_natCast]
  rw [h1,Int.toNat_natCast] at hc1
  exact hc1
 obtain ⟨r0,hr0e⟩:∃ r0,r0=row.getD 0 0:=⟨_,rfl⟩
 rw [←hr0e] at hR hc00
 have hcellB:∀ o1 o2 o3,(((w.alloc o1).alloc o2).alloc o3).cell? ad0=some (.int .i64 r0):=fun o1 o2 o3=>((hB3 o1 o2 o3).cell (World.block_lt_of_cell? w _ hc00)).trans hc00
 have HRC:=Aside0.mk hRC
 have HW:=Aside0.mk (And.intro ih (And.intro hC (And.intro hT (And.intro hg (And.intro hR (And.intro hrl (And.intro hCr (And.intro hl2 hl6))))))))
 clear ih hC hT hg hR hrl hCr hl2 hl6 hof hrow hra hrF hrd hrd1 hc0 hB3 hadl hRC hr0e
 go_enter Tryz.func70,Tryz.ntmps70
 go_wp2
 go_loopw [37] (fun v37 wr=>∃ (i:Nat) (f:Nat→Int),v37=.int .i64 (i:Int)∧Aside0 (i≤ts.length)∧Aside0 (wr.heap[w.heap.size+1]?=some (.cells (vals f) 102 (0,0)))∧Aside0 (∀ k,k < 4→R k=ofL l row i (ts.drop i) f k)∧Aside0 (wr.heap[w.heap.size]?=some (.cells (vals (fun _=>0)) 102 (0,0)))∧Aside0 (Below w.heap.size w wr)) (fun v37 _=>ts.length - (intOf v37).toNat)
 case atStart =>
  refine ⟨0,fun k=>if k=0 then r0 else 0,rfl,⟨Nat.zero_le _⟩,⟨?_⟩,⟨?_⟩,⟨?_⟩,⟨?_⟩⟩
  ·refine (blk_alloc ?_ _)
   exact blk_new1 w _ _
  ·intro k _
   rw [HW.out.2.2.2.2.1,List.drop_zero]
  ·exact blk_alloc (blk_alloc (blk_new w _) _) _
  ·exact below_alloc (below_alloc (below_alloc (Below.refl _ _) _) _) _
 case round =>
  obtain ⟨i,f,rfl,HI,HO,HR,HRS,HB⟩:=hrel
  obtain ⟨ih,hC,hT,hg,hR,hrl,hCr,hl2,hl6⟩:=HW.out
  clear hcellA hcellB hcell hc00 hws hs0 hsi
  by_cases hlt:i < ts.length
  ·have hlb:decide ((i:Int) < (ts.length:Int))=true:=decide_eq_true (by omega)
   obtain ⟨g,cs,q,rfl,_,hgc,hcs,hq⟩:=hT.get i hlt
   rw [Nat.zero_add] at hcs
   have hgl:=(gl_ hgc)
   have hgb:=(HB.out.block g hgl).trans hgc
   have hcell:wr.cell? ⟨g,i,none⟩=some (encI q):=(blk_cell hgb i).trans hcs
   have HC:=Aside0.mk (ih ts[i] (List.getElem_mem hlt) _ cap q wr ok (Kd.C_below hC HB.out) (hq.below HB.out) (goods_mem hg.2.2 (List.getElem_mem hlt)))
   have hd:ts.drop i=ts[i] :: ts.drop (i+1):=List.drop_eq_getElem_cons hlt
   have hRn:=HR.out
   rw [hd] at hRn
   simp only [ofL] at hRn
   have HRN:=Aside0.mk hRn
   have hir:1+(i:Int) < (row.length:Int):=by omega
   have HRC2:Aside0 (∀ w',Below w.heap.size w w'→w'.cell? (ad0.add (1+(i:Int)).toNat)=some (.int .i64 (row.getD (1+i) 0))):=by
    refine ⟨fun w' hb=>?_⟩
    rw [show (1+(i:Int)).toNat=1+i by omega]
    exact HRC.out i (by omega) w' hb
   have w1:=wrO4 i (by omega)
   have wi1:=wr41 i (by omega)
   clear HRC
   have HN:=Aside0.mk (And.intro hrl hl2)
   clear ih hC hT hg hR hrl hCr hl2 hl6 hgb hgc hcs hgl hq hd hRn HR
   generalize ts[i]=x at *
   generalize ofT l x=vt at *
   obtain ⟨tid,pv⟩:=q
   unfold encI at HC hcell
   go_wp2_with (refine HC.out.mono ?_;rintro e w' ⟨rfl,hb⟩;have HBC:=Aside0.mk hb;clear hb)
   go_loopw [45] (fun v45 wi=>∃ (k:Nat) (f2:Nat→Int),v45=.int .i64 (k:Int)∧Aside0 (k≤4)∧Aside0 (wi.heap[w.heap.size+1]?=some (.cells (vals f2) 102 (0,0)))∧Aside0 (∀ j,f2 j=if j < k then wrap64 (f j+wrap64 (row.getD (1+i) 0 * vt j)) else f j)∧Aside0 (wi.heap[w.heap.size]?=some (.cells (vals (fun _=>0)) 102 (0,0)))∧Aside0 (Below w.heap.size w wi)) (fun v45 _=>4 - (intOf v45).toNat)
   case atStart =>
    exact ⟨0,f,rfl,⟨Nat.zero_le _⟩,⟨blk_below HO.out HBC.out⟩,⟨fun j=>by rw [if_neg (Nat.not_lt_zero j)]⟩,⟨blk_below HRS.out HBC.out⟩,⟨below_on HB.out HBC.out⟩⟩
   case round =>
    obtain ⟨k,f2,rfl,HK,HO4,HF,HRS4,HB4⟩:=hrel
    by_cases hk4:k < 4
    ·have hki:(k:Int) < 4:=Int.ofNat_lt.2 hk4
     have hi0:(0:Int)≤1+(i:Int):=Int.add_nonneg (by decide) (Int.natCast_nonneg i)
     have hvk:=index_vals vt k hk4
     have wk:=wrO4 k (Nat.lt_trans hk4 (by decide))
     have HRC2:=HRC2 
     obtain ⟨rv,hrv⟩:∃ rv,rv=row.getD (1+i) 0:=⟨_,rfl⟩
     rw [←hrv] at HRC2 HF HRN
     have HRV:=Aside0.mk hrv
     clear hrv
     have hfz:=blk_frozen HO4.out k
     go_wp2
     refine start_ (n:=13) (S:=fun w'=>w'.cell? ⟨w.heap.size+1,k,none⟩=some (.int .i64 (f2 k))∧w'.cell? (ad0.add (1+(i:Int)).toNat)=some (.int .i64 rv)) (ds:=[12]) (bm 13 0) (by kernel_rfl) rfl rfl ⟨((blk_cell (blk_drew HO4.out) k).trans (vals_at f2 k hk4)),(HRC2.out _ (below_on HB4.out (below_draw _)))⟩ (fun hHeld=>?_)
     refine pk_ 0 49 (bm 13 1) ?_
     refine pk_ 1 50 (bm 13 3) ?_
     refine pk_ 3 52 (bm 13 11) ?_
     refine pk_ 4 53 (bm 13 27) ?_
     refine pk_ 5 54 (bm 13 59) ?_
     refine pk_ 6 55 (bm 13 123) ?_
     refine pk_ 8 57 (bm 13 379) ?_
     refine take_ (i:=2) (N:=some 51) (v:=?_) (a':=?_) (bm 13 383) rfl rfl (by kernel_rfl) (fun _ _ _ h=>h) (Or.inl ⟨by rfl,?_⟩) hHeld ?_ ?_;rotate_left;(rintro w' ⟨s0,s1⟩;go_simp;with_reducible rfl);rotate_left;exact tP_
     refine take_ (i:=7) (N:=some 56) (v:=?_) (a':=?_) (bm 13 511) rfl rfl (by kernel_rfl) (fun _ _ _ h=>h) (Or.inl ⟨by rfl,?_⟩) hHeld ?_ ?_;rotate_left;(rintro w' ⟨s0,s1⟩;go_simp;with_reducible rfl);rotate_left;exact tP_
     refine pk_ 9 58 (bm 13 1023) ?_
     refine pk_ 10 59 (bm 13 2047) ?_
     refine pk_ 11 60 (bm 13 4095) ?_
     refine last_ (i:=12) (N:=none) (bm 13 8191) rfl rfl (by kernel_rfl) (by decide) (fun K hK=>?_)
     refine skip_ (w1:=?_) (by rfl) rfl ?_ ?_
     rotate_left
     ·go_simp
      rfl
     refine hK.out _ _ ?_
     clear hK K
     refine done_ (by kernel_rfl) ?_
     go_wp2
     refine ⟨⟨k+1,updN f2 k (wrap64 (f2 k+wrap64 (rv * vt k))),rfl,⟨hk4⟩,⟨vals_set HO4.out k hk4 _⟩,⟨fun j=>?_⟩,⟨(Below.heap_setCell _ _ _ _ (by show w.heap.size≠w.heap.size+1;omega)).trans HRS4.out⟩,⟨pw_below_drewN (below_set HB4.out (Nat.le_succ _)) 1⟩⟩,?_⟩
     ·rw [←HRV.out]
      have hf:=HF.out j
      have hfk:=HF.out k
      rw [if_neg (Nat.lt_irrefl k)] at hfk
      unfold updN
      by_cases hjk:j=k
      ·subst hjk
       rw [if_pos rfl,if_pos (Nat.lt_succ_self j),hfk]
      ·rw [if_neg hjk,hf]
       by_cases hj2:j < k
       ·rw [if_pos hj2,if_pos (Nat.lt_succ_of_lt hj2)]
       ·rw [if_neg hj2,if_neg (fun h=>hjk (Nat.le_antisymm (Nat.le_of_lt_succ h) (Nat.le_of_not_lt hj2)))]
     ·clear wk w1 wi1 hvk
      simp only [intOf]
      omega
    ·have hkb:decide ((k:Int) < 4)=false:=decide_eq_false (by omega)
     go_wp2
     refine ⟨⟨i+1,f2,by rw [w1];rfl,⟨hlt⟩,HO4,⟨fun j hj=>?_⟩,HRS4,HB4⟩,?_⟩
     ·rw [HRN.out j hj]
      refine ofL_congr l row _ _ _ _ (fun m hm=>?_) j hj
      rw [HF.out m,if_pos (by omega)]
     ·rw [w1]
      simp only [intOf]
      clear w1 wi1
      omega
  ·have hlb:decide ((i:Int) < (ts.length:Int))=false:=decide_eq_false (by omega)
   have hc0:wr.cell? ⟨w.heap.size+1,0,none⟩=some (.int .i64 (f 0)):=blk_cell HO.out 0
   have hc1:wr.cell? ⟨w.heap.size+1,1,none⟩=some (.int .i64 (f 1)):=blk_cell HO.out 1
   have hc2:wr.cell? ⟨w.heap.size+1,2,none⟩=some (.int .i64 (f 2)):=blk_cell HO.out 2
   have hc3:wr.cell? ⟨w.heap.size+1,3,none⟩=some (.int .i64 (f 3)):=blk_cell HO.out 3
   have hd0:wr.cell? ⟨w.heap.size,0,none⟩=some (.int .i64 0):=blk_cell HRS.out 0
   have hd1:wr.cell? ⟨w.heap.size,1,none⟩=some (.int .i64 0):=blk_cell HRS.out 1
   have hd2:wr.cell? ⟨w.heap.size,2,none⟩=some (.int .i64 0):=blk_cell HRS.out 2
   have hd3:wr.cell? ⟨w.heap.size,3,none⟩=some (.int .i64 0):=blk_cell HRS.out 3
   have hz0:=blk_frozen HRS.out 0
   have hz1:=blk_frozen HRS.out 1
   have hz2:=blk_frozen HRS.out 2
   have hz3:=blk_frozen HRS.out 3
   have HRF:=Aside0.mk (And.intro hrl hl2)
   clear ih hC hT hg hR hrl hCr hl2 hl6
   go_wp2
   refine bodyPost_ret (results_cell_row (P:=Tryz.prog) rfl _ _ w.heap.size 102 _ (0,0) _ rfl (vals_set4 f HRS.out) Tryz.underlying102 rfl (by kernel_rfl)) rfl ?_
   refine ⟨?_,?_⟩
   ·have hd:ts.drop i=[]:=List.drop_of_length_le (by omega)
    rw [vals_ext (fun k hk=>(HR.out k hk).trans (by rw [hd,ofL]))]
   ·exact below_set (below_set (below_set (below_set HB.out (Nat.le_refl _)) (Nat.le_refl _)) (Nat.le_refl _)) (Nat.le_refl _)
end
theorem of_calls (l:List (List Int)) (hrd:isRd l=true):∀ t,OfOk l t:=by
 refine Tm.ind (fun c A cap q w ok hC h hg=>?_) (fun s ts ih A cap q w ok hC h hg=>?_)
 ·rw [Has.var_] at h
  subst h
  rw [Tm.good] at hg
  exact of_var l c hg A cap w
 ·rw [Has.app_] at h
  obtain ⟨B,capB,rfl,hc,hL⟩:=h
  exact of_app l hrd s ts ih A cap B capB w ok hC hL hg
end Go.Proofs.YtaafeallcaiooaaGreat.Pr
