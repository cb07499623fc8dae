/- the reference's Apply. -/
import Derived.Test.YtaafeallcaiooaaGreatHPt
import Derived.Test.YtaafeallcaiooaaGreatHPn
namespace Go.Proofs.YtaafeallcaiooaaGreat.Pr
open Go.RowKit Go.Proofs.Zw Go.Proofs.Zl Go.Proofs.Zm
set_option linter.unusedVariables false
set_option linter.unusedSimpArgs false
def isVarI (c:Int):Bool:=decide (c≥120) && decide (c≤122)
theorem isvar_calls (c:Int) (w:World):Calls Tryz.prog 74 #[.int .u8 c] w fun e w'=>e=.returned (.bool (isVarI c))∧w'=w:=by
  unfold isVarI
  by_cases h1:c≥120
  · by_cases h2:c≤122
    · have d1:decide (c≥120)=true:=decide_eq_true h1
      have d2:decide (c≤122)=true:=decide_eq_true h2
      rw [d1,d2]
      clear h1 h2
      go_enter Tryz.func74,Tryz.ntmps74
      go_wp2
      go_ret
      exact ⟨rfl,rfl⟩
    · have d1:decide (c≥120)=true:=decide_eq_true h1
      have d2:decide (c≤122)=false:=decide_eq_false h2
      rw [d1,d2]
      clear h1 h2
      go_enter Tryz.func74,Tryz.ntmps74
      go_wp2
      go_ret
      exact ⟨rfl,rfl⟩
  · have d1:decide (c≥120)=false:=decide_eq_false h1
    rw [d1]
    clear h1
    go_enter Tryz.func74,Tryz.ntmps74
    go_wp2
    go_ret
    exact ⟨rfl,rfl⟩
def applyC (s0 s1 s2:List UInt8) (c:UInt8):List UInt8:=if c=120 then s0 else if c=121 then s1 else if c=122 then s2 else [c]
def applyL (s0 s1 s2 l:List UInt8):List UInt8:=l.flatMap (applyC s0 s1 s2)
theorem applyL_snoc (s0 s1 s2 l:List UInt8) (i:Nat) (h:i < l.length):applyL s0 s1 s2 (l.take (i+1))=applyL s0 s1 s2 (l.take i)++applyC s0 s1 s2 l[i]:=by
  unfold applyL
  rw [List.take_succ_eq_append_getElem h,List.flatMap_append]
  simp
theorem B8_app (a b:List UInt8):B8 a++B8 b=B8 (a++b):=by
  apply ByteArray.ext
  simp [B8]
theorem list_get (s:ByteArray) (i:Nat) (h:i < s.size):s.data.toList[i]'(by simpa using h)=s[i]:=by
  simp
  rfl
theorem slice1 (s:ByteArray) (i:Nat) (h:i < s.size) (w:World):(Instr.sliceAt 9 (.string s) (some (.int .i64 (i:Int))) (some (.int .i64 ((i:Int)+1))) none).run Tryz.prog w=.ok (.string ⟨#[s[i]]⟩) w:=by
  have h1:=run_slice_string (P:=Tryz.prog) w 9 s .i64 .i64 (i:Int) ((i:Int)+1) Tryz.underlying9 (by omega) (by omega) (by omega)
  have h2:s.extract (i:Int).toNat ((i:Int)+1).toNat=⟨#[s[i]]⟩:=by
    apply ByteArray.ext
    apply Array.ext'
    have e1:((i:Int)+1).toNat=i+1:=by omega
    rw [e1,Int.toNat_natCast,ByteArray.data_extract,Array.toList_extract]
    have h3:i < s.data.toList.length:=by simpa using h
    have h4:(s.data.toList.drop i).take (i+1 - i)=[s[i]]:=by
      rw [List.drop_eq_getElem_cons h3,show i+1 - i=1 by omega,list_get s i h]
      rfl
    first|exact h4|(rw [List.extract_eq_take_drop];exact h4)|(rw [List.extract_eq_drop_take];exact h4)|simpa using h4
  rw [h2] at h1
  simp [go_sem,Instr.sliceAt,run_underlying Tryz.underlying9,Sem.run_bind,h1]
set_option maxRecDepth 100000 in
set_option maxHeartbeats 2000000 in
theorem apply_calls (s s0 s1 s2:ByteArray) (hs:s.size≤1000000) (h0:s0.size≤1000000) (h1:s1.size≤1000000) (h2:s2.size≤1000000) (w:World) :
    Calls Tryz.prog 46 #[.string s,.agg #[.string s0,.string s1,.string s2]] w fun e w'=>e=.returned (.string (B8 (applyL s0.data.toList s1.data.toList s2.data.toList s.data.toList)))∧Below w.heap.size w w':=by
  have HP:=Aside0.mk (And.intro hs (And.intro h0 (And.intro h1 h2)))
  clear hs h0 h1 h2
  go_enter Tryz.func46,Tryz.ntmps46
  go_wp2
  go_loopw [5,6] (fun v5 v6 wr=>∃ (i:Nat) (acc:ByteArray),v5=.string acc∧v6=.int .i64 (i:Int)∧Aside0 (i≤s.size)∧Aside0 (acc=B8 (applyL s0.data.toList s1.data.toList s2.data.toList (s.data.toList.take i))∧acc.size≤i * 1000000)∧wr=w.alloc (.cells #[.string s0,.string s1,.string s2] 61)) (fun _ v6 _=>s.size - (intOf v6).toNat)
  case atStart=>exact ⟨0,⟨#[]⟩,rfl,rfl,⟨Nat.zero_le _⟩,⟨rfl,Nat.le_refl _⟩,rfl⟩
  case round =>
    obtain ⟨i,acc,rfl,rfl,HI,HA,rfl⟩:=hrel
    obtain ⟨hs,h0,h1,h2⟩:=HP.out
    have hx0:(w.alloc (.cells #[.string s0,.string s1,.string s2] 61)).cell? ⟨w.heap.size,0,none⟩=some (.string s0):=blk_cell (blk_new w _) 0
    have hx1:(w.alloc (.cells #[.string s0,.string s1,.string s2] 61)).cell? ⟨w.heap.size,1,none⟩=some (.string s1):=blk_cell (blk_new w _) 1
    have hx2:(w.alloc (.cells #[.string s0,.string s1,.string s2] 61)).cell? ⟨w.heap.size,2,none⟩=some (.string s2):=blk_cell (blk_new w _) 2
    by_cases hlt:i < s.size
    · have hlb:decide ((i:Int) < (s.size:Int))=true:=decide_eq_true (by omega)
      have w1i:wrap64 ((i:Int)+1)=(i:Int)+1:=wrS (by omega) (by omega)
      have hll:i < s.data.toList.length:=by simpa using hlt
      have hsn:=applyL_snoc s0.data.toList s1.data.toList s2.data.toList s.data.toList i hll
      rw [list_get s i hlt] at hsn
      have hsl:=slice1 s i hlt
      have hbt:∀ h,(((s[i]'h).toNat:Nat):Int)=((s[i]'hlt).toNat:Int):=fun h=>rfl
      obtain ⟨c,hc⟩:∃ c,c=s[i]'hlt:=⟨_,rfl⟩
      rw [←hc] at hsn hsl hbt
      have hcall:=isvar_calls (c.toNat:Int) (w.alloc (.cells #[.string s0,.string s1,.string s2] 61))
      have hb0:(9223372036854775807 < acc.size+s0.size)=False:=eq_false (by have:=HA.out.2;omega)
      have hb1:(9223372036854775807 < acc.size+s1.size)=False:=eq_false (by have:=HA.out.2;omega)
      have hb2:(9223372036854775807 < acc.size+s2.size)=False:=eq_false (by have:=HA.out.2;omega)
      have hb3:(9223372036854775807 < acc.size+1)=False:=eq_false (by have:=HA.out.2;omega)
      by_cases c0:c=120
      · subst c0
        have hiv:isVarI (((120:UInt8).toNat:Nat):Int)=true:=rfl
        rw [hiv] at hcall
        have HC:=Aside0.mk hcall
        have HN:Aside0 (acc++s0=B8 (applyL s0.data.toList s1.data.toList s2.data.toList (s.data.toList.take (i+1)))∧(acc++s0).size≤(i+1) * 1000000):=⟨by rw [hsn,←B8_app,←HA.out.1];exact congrArg (acc++·) (B8_of _).symm,by rw [ByteArray.size_append];have:=HA.out.2;omega⟩
        clear hcall hsn hc hs h0 h1 h2 hll
        go_wp2_with (go_at_call 74;refine HC.out.mono ?_;rintro e w1 ⟨rfl,h1⟩;subst w1)
        refine ⟨⟨i+1,acc++s0,rfl,by rw [w1i];rfl,⟨hlt⟩,HN,by first|rfl|trivial⟩,?_⟩
        rw [w1i]
        simp only [intOf]
        clear w1i
        omega
      by_cases c1:c=121
      · subst c1
        have hiv:isVarI (((121:UInt8).toNat:Nat):Int)=true:=rfl
        rw [hiv] at hcall
        have HC:=Aside0.mk hcall
        have HN:Aside0 (acc++s1=B8 (applyL s0.data.toList s1.data.toList s2.data.toList (s.data.toList.take (i+1)))∧(acc++s1).size≤(i+1) * 1000000):=⟨by rw [hsn,←B8_app,←HA.out.1];exact congrArg (acc++·) (B8_of _).symm,by rw [ByteArray.size_append];have:=HA.out.2;omega⟩
        clear hcall hsn hc hs h0 h1 h2 hll
        go_wp2_with (go_at_call 74;refine HC.out.mono ?_;rintro e w1 ⟨rfl,h1⟩;subst w1)
        refine ⟨⟨i+1,acc++s1,rfl,by rw [w1i];rfl,⟨hlt⟩,HN,by first|rfl|trivial⟩,?_⟩
        rw [w1i]
        simp only [intOf]
        clear w1i
        omega
      by_cases c2:c=122
      · subst c2
        have hiv:isVarI (((122:UInt8).toNat:Nat):Int)=true:=rfl
        rw [hiv] at hcall
        have HC:=Aside0.mk hcall
        have HN:Aside0 (acc++s2=B8 (applyL s0.data.toList s1.data.toList s2.data.toList (s.data.toList.take (i+1)))∧(acc++s2).size≤(i+1) * 1000000):=⟨by rw [hsn,←B8_app,←HA.out.1];exact congrArg (acc++·) (B8_of _).symm,by rw [ByteArray.size_append];have:=HA.out.2;omega⟩
        clear hcall hsn hc hs h0 h1 h2 hll
        go_wp2_with (go_at_call 74;refine HC.out.mono ?_;rintro e w1 ⟨rfl,h1⟩;subst w1)
        refine ⟨⟨i+1,acc++s2,rfl,by rw [w1i];rfl,⟨hlt⟩,HN,by first|rfl|trivial⟩,?_⟩
        rw [w1i]
        simp only [intOf]
        clear w1i
        omega
      have hiv:isVarI ((c.toNat:Nat):Int)=false:=by
        unfold isVarI
        by_cases h:((c.toNat:Nat):Int)≥120∧((c.toNat:Nat):Int)≤122
        · exfalso
          have h3:c.toNat=120∨c.toNat=121∨c.toNat=122:=by omega
          rcases h3 with h3|h3|h3
          · exact c0 (UInt8.toNat_inj.1 h3)
          · exact c1 (UInt8.toNat_inj.1 h3)
          · exact c2 (UInt8.toNat_inj.1 h3)
        · by_cases h4:((c.toNat:Nat):Int)≥120
          · rw [decide_eq_true h4,decide_eq_false (fun h5=>h ⟨h4,h5⟩)];rfl
          · rw [decide_eq_false h4];rfl
      rw [hiv] at hcall
      have HC:=Aside0.mk hcall
      have hac:applyC s0.data.toList s1.data.toList s2.data.toList c=[c]:=by unfold applyC;rw [if_neg c0,if_neg c1,if_neg c2]
      have HN:Aside0 (acc++(⟨#[c]⟩:ByteArray)=B8 (applyL s0.data.toList s1.data.toList s2.data.toList (s.data.toList.take (i+1)))∧(acc++(⟨#[c]⟩:ByteArray)).size≤(i+1) * 1000000):=⟨by rw [hsn,←B8_app,←HA.out.1,hac];rfl,by rw [ByteArray.size_append];have:=HA.out.2;have e:(⟨#[c]⟩:ByteArray).size=1:=rfl;omega⟩
      clear hcall hsn hc hs h0 h1 h2 hll c0 c1 c2 hac
      go_wp2_with (go_at_call 74;refine HC.out.mono ?_;rintro e w1 ⟨rfl,h1⟩;subst w1)
      refine ⟨⟨i+1,acc++(⟨#[c]⟩:ByteArray),rfl,by rw [w1i];rfl,⟨hlt⟩,HN,by first|rfl|trivial⟩,?_⟩
      rw [w1i]
      simp only [intOf]
      clear w1i
      omega
    · have hlb:decide ((i:Int) < (s.size:Int))=false:=decide_eq_false (by omega)
      have hi:i=s.size:=by have:=HI.out;omega
      have hfin:acc=B8 (applyL s0.data.toList s1.data.toList s2.data.toList s.data.toList):=by rw [HA.out.1,List.take_of_length_le (by simp [hi])]
      clear hs h0 h1 h2
      go_wp2
      go_ret
      exact ⟨congrArg (fun a=>Ending.returned (Value.string a)) hfin,below_alloc (Below.refl _ _) _⟩
def nr_Apply.f (a0 x0 x1 x2:ByteArray):Option ByteArray :=
  if a0.size≤1000000∧x0.size≤1000000∧x1.size≤1000000∧x2.size≤1000000 then some (B8 (applyL x0.data.toList x1.data.toList x2.data.toList a0.data.toList)) else none
theorem nr_Apply.calls (a0 x0 x1 x2:ByteArray) (r:ByteArray) (w:World) (h:nr_Apply.f a0 x0 x1 x2=some r) :
    Calls Tryz.prog 46 #[.string a0,.agg #[.string x0,.string x1,.string x2]] w fun e w'=>e=.returned (.string r)∧Below w.heap.size w w':=by
  unfold nr_Apply.f at h
  split at h
  · rename_i hs
    injection h with h
    subst h
    exact apply_calls a0 x0 x1 x2 hs.1 hs.2.1 hs.2.2.1 hs.2.2.2 w
  · cases h
end Go.Proofs.YtaafeallcaiooaaGreat.Pr
