/- The reader's term: what a string is read as. -/
import Derived.Test.YtaafeallcaiooaaGreatPr0
import Derived.Tactics2
import Derived.Defers
import Derived.Recover
import Derived.Laws.Pointers
import Derived.WalkLawsBesides
import Derived.Shelf.Abstract
import Derived.IntWalk
import Derived.RegionTactic
namespace Go.Proofs.YtaafeallcaiooaaGreat.Pr
open Go.RowKit Go.Proofs.Zw Go.Proofs.Zl Go.Proofs.Zm
set_option linter.unusedVariables false
set_option linter.unusedSimpArgs false
theorem as156 (v:Value) (w:World):(Instr.typeAssert (.iface 156 v) 20 156 true).run Tryz.prog w=.ok (.tuple #[v,.bool true]) w:=by kernel_rfl
theorem asVV (v:Value) (w:World):(Instr.typeAssert (.iface 131 v) 99 131 true).run Tryz.prog w=.ok (.tuple #[v,.bool true]) w:=by kernel_rfl
theorem asVC (v:Value) (w:World):(Instr.typeAssert (.iface 131 v) 99 149 true).run Tryz.prog w=.ok (.tuple #[.agg #[.int .u8 0,.slice none 0 0],.bool false]) w:=by kernel_rfl
theorem asCC (v:Value) (w:World):(Instr.typeAssert (.iface 149 v) 99 149 true).run Tryz.prog w=.ok (.tuple #[v,.bool true]) w:=by kernel_rfl
theorem asCV (v:Value) (w:World):(Instr.typeAssert (.iface 149 v) 99 131 true).run Tryz.prog w=.ok (.tuple #[.int .u8 0,.bool false]) w:=by kernel_rfl
def trouble (c:Int):Value:=.iface 156 (.agg #[.int .i64 c])
abbrev troubled (c:Int):Ending:=.panicked [{ v:=trouble c,recovered:=false }]
theorem demand_ok (c:Int) (w:World):Calls Tryz.prog 67 #[.bool true,.int .i64 c] w fun e w'=>e=.returned (.tuple #[])∧w'=w:=by
  go_enter Tryz.func67,Tryz.ntmps67
  go_wp2
  simp [bodyPost,results,Tryz.results67]
theorem demand_no (c:Int) (w:World):Calls Tryz.prog 67 #[.bool false,.int .i64 c] w fun e w'=>e=troubled c∧w'=w:=by
  unfold troubled
  go_enter Tryz.func67,Tryz.ntmps67
  go_wp2
  simp [bodyPost,trouble]
section
attribute [local go_sem] as156
set_option maxRecDepth 100000 in
theorem catch_panicking (g:Nat) (x c:Int) (older:List PanicEntry) (w:World) (hh:w.heap[g]?=some (.cells #[.int .i64 x] 26 (0,0))) :
    CallsD Tryz.prog 116 #[.pointer (some ⟨g,0,none⟩)] (.panicking ({ v:=trouble c,recovered:=false } :: older)) w fun e u' w' =>
      e=.returned (.tuple #[])∧u'=.panicking ({ v:=trouble c,recovered:=true } :: older)∧w'=(w.setCell ⟨g,0,none⟩ (.int .i64 c)).alloc (.cells #[.int .i64 c] 156):=by
  have hlt:g < w.heap.size:=(gl_ hh)
  have hh2:=blk_alloc hh (.cells #[.int .i64 c] 156)
  have hc2:(w.alloc (.cells #[.int .i64 c] 156)).cell? ⟨g,0,none⟩=some (.int .i64 x):=blk_cell hh2 0
  have hz2:(w.alloc (.cells #[.int .i64 c] 156)).frozen? ⟨g,0,none⟩=false:=by simp [World.frozen?,hh2]
  clear hh hh2
  refine callsD_of_wpS Tryz.func116 rfl fun c₀ cs hu=>?_
  apply wpS_seq
  apply wpS_region
  simp [wpOpsS,go_sem,recoverD,hu,Tryz.ntmps116,Exit.thenS]
  refine wpS_of_wp ?_
  have e:(#[Value.pointer (some ⟨g,0,none⟩)]++(Array.replicate 11 undef).setIfInBounds 3 (trouble c))=#[.pointer (some ⟨g,0,none⟩),undef,undef,undef,trouble c,undef,undef,undef,undef,undef,undef,undef]:=rfl
  rw [e]
  unfold trouble
  clear e
  go_wp2
  simp [bodyPostS,results,Tryz.results116]
end
theorem catch_idle (p:Addr) (w:World) :
    CallsD Tryz.prog 116 #[.pointer (some p)] .returning w fun e u' w'=>e=.returned (.tuple #[])∧u'=.returning∧w'=w:=by
  refine callsD_of_wpS Tryz.func116 rfl fun c₀ cs hu=>?_
  apply wpS_seq
  apply wpS_region
  simp [wpOpsS,go_sem,recoverD,hu,Tryz.ntmps116,Exit.thenS]
  refine wpS_of_wp ?_
  go_wp2
  cases c₀
  simp_all [bodyPostS,results,Tryz.results116]
theorem blk_setCell {w:World} {g:Nat} {x:Value} {t:TypeId} (h:w.heap[g]?=some (.cells #[x] t (0,0))) (v:Value):(w.setCell ⟨g,0,none⟩ v).heap[g]?=some (.cells #[v] t (0,0)):=by
  simp [World.setCell,Array.getElem?_modify,h]
set_option maxRecDepth 100000 in
theorem guard_calls (F:Nat) (he:Enters Tryz.prog F) (cap:Array Value) (w:World) (Q:Int→World→Prop)
    (h:Calls Tryz.prog F cap (w.alloc (.cells #[.int .i64 0] 26)) fun e w1=>w1.heap[w.heap.size]?=some (.cells #[.int .i64 0] 26 (0,0))∧((e=.returned (.tuple #[])∧Q 0 w1)∨∃ c,e=troubled c∧Q c w1)) :
    Calls Tryz.prog 65 #[.func (.func F) #[] cap] w fun e w'=>∃ c w1,e=.returned (.int .i64 c)∧Q c w1∧Below w.heap.size w1 w':=by
  have hmf:∀ (fn:Fn) (first cap:Array Value) (w:World),(Instr.makeFunc fn first cap).run Tryz.prog w=.ok (.func fn first cap) w:=fun _ _ _ _=>rfl
  have he2:∀ args w,(callFunc F args).run Tryz.prog w=.ok (.enter F args) w:=he
  go_enter_defers Tryz.func65,Tryz.ntmps65
  go_wp2_with (refine h.mono ?_;rintro e w1 ⟨hk,hq⟩;have hc:w1.cell? ⟨w.heap.size,0,none⟩=some (.int .i64 0):=blk_cell hk 0;have hz:w1.frozen? ⟨w.heap.size,0,none⟩=false:=(by simp [World.frozen?,hk]);rcases hq with ⟨rfl,hq⟩|⟨c,rfl,hq⟩)
  · refine leaves_cons (f:=116) (args:=#[.pointer (some ⟨w.heap.size,0,none⟩)]) (by simp) (by simp [go_sem]) ?_
    refine (catch_idle ⟨w.heap.size,0,none⟩ _).mono ?_
    rintro e u' w'' ⟨rfl,rfl,rfl⟩
    have hcc:(w1.setCell ⟨w.heap.size,0,none⟩ (.int .i64 0)).cell? ⟨w.heap.size,0,none⟩=some (.int .i64 0):=World.cell?_setCell_same' w1 _ _ (by rw [hc];rfl)
    simp [Leaves,settle,results,Tryz.results65,go_sem,hcc]
    have hb:Below w.heap.size w1 (w1.setCell ⟨w.heap.size,0,none⟩ (.int .i64 0)):=(Below.refl _ w1).setCell (p:=⟨w.heap.size,0,none⟩) (Nat.le_refl _) _
    exact ⟨w1,hq,hb⟩
  · have hlt:=(gl_ hk)
    have hh2:=blk_setCell hk (.int .i64 c)
    refine leaves_cons (f:=116) (args:=#[.pointer (some ⟨w.heap.size,0,none⟩)]) (by simp) (by simp [go_sem]) ?_
    refine (catch_panicking w.heap.size 0 c [] _ hk).mono ?_
    rintro e u' w'' ⟨rfl,rfl,rfl⟩
    have hcc:=blk_cell (blk_alloc hh2 (.cells #[.int .i64 c] 156)) 0
    simp only [List.getElem?_toArray] at hcc
    simp [Leaves,settle,results,Tryz.results65,go_sem,hcc]
    exact ⟨_,hq,((Below.refl w.heap.size _).setCell (p:=⟨w.heap.size,0,none⟩) (Nat.le_refl _) _).alloc (by simp;omega) _⟩
inductive Tm where
  | var (c:Int):Tm
  | app (s:Int) (l:List Tm):Tm
instance:Inhabited Tm:=⟨.var 0⟩
def encI (p:Nat × Value):Value:=.iface p.1 p.2
theorem encI_one (p:Nat × Value):(encI p).oneCell'=true:=rfl
mutual
def Has (w:World) (ok:Nat→Prop):Tm→Nat × Value→Prop
  | .var c,p=>p=(131,.int .u8 c)
  | .app s l,p=>∃ A cap,p=(149,.agg #[.int .u8 s,.slice A l.length cap])∧l.length≤cap∧HasL w ok l A 0
def HasL (w:World) (ok:Nat→Prop):List Tm→Option Addr→Nat→Prop
  | [],_,_=>True
  | t :: l,A,i=>(∃ g cs p,A=some ⟨g,0,none⟩∧ok g∧w.heap[g]?=some (.cells cs 99 (0,0))∧cs[i]?=some (encI p)∧Has w ok t p)∧HasL w ok l A (i+1)
end
mutual
theorem Has.step {w w':World} {ok ok':Nat→Prop} (h:∀ k,ok k→k < w.heap.size→ok' k∧w'.heap[k]?=w.heap[k]?):∀ {t:Tm} {p:Nat × Value},Has w ok t p→Has w' ok' t p
  | .var c,p,hh=>hh
  | .app s l,p,hh=>by
    rw [Has] at hh ⊢
    obtain ⟨A,cap,h1,h2,h3⟩:=hh
    exact ⟨A,cap,h1,h2,HasL.step h h3⟩
theorem HasL.step {w w':World} {ok ok':Nat→Prop} (h:∀ k,ok k→k < w.heap.size→ok' k∧w'.heap[k]?=w.heap[k]?):∀ {l:List Tm} {A:Option Addr} {i:Nat},HasL w ok l A i→HasL w' ok' l A i
  | [],_,_,_=>by rw [HasL];trivial
  | t :: l,A,i,hh=>by
    rw [HasL] at hh ⊢
    obtain ⟨⟨g,cs,p,h1,h2,h3,h4,h5⟩,h6⟩:=hh
    have hg:=h g h2 (gl_ h3)
    exact ⟨⟨g,cs,p,h1,hg.1,hg.2.trans h3,h4,Has.step h h5⟩,HasL.step h h6⟩
end
theorem Has.mono {w:World} {ok ok':Nat→Prop} {t:Tm} {p:Nat × Value} (hh:Has w ok t p) (h:∀ k,ok k→ok' k):Has w ok' t p:=Has.step (fun k hk _=>⟨h k hk,rfl⟩) hh
theorem Has.bound {w:World} {ok:Nat→Prop} {t:Tm} {p:Nat × Value} (hh:Has w ok t p):Has w (fun k=>ok k∧k < w.heap.size) t p:=Has.step (fun k hk hl=>⟨⟨hk,hl⟩,rfl⟩) hh
theorem Has.below {w w':World} {ok:Nat→Prop} {t:Tm} {p:Nat × Value} (hh:Has w ok t p) (h:Below w.heap.size w w'):Has w' ok t p:=Has.step (fun k hk hl=>⟨hk,h.block k hl⟩) hh
theorem Has.alloc {w:World} {ok:Nat→Prop} {t:Tm} {p:Nat × Value} (hh:Has w ok t p) (o:Obj):Has (w.alloc o) ok t p:=hh.below (below_alloc (Below.refl _ _) o)
theorem Has.drewN {w:World} {ok:Nat→Prop} {t:Tm} {p:Nat × Value} (hh:Has w ok t p) (n:Nat):Has (w.drewN n) ok t p:=hh.below (pw_below_drewN (Below.refl _ _) n)
theorem Has.var_ {w:World} {ok:Nat→Prop} {c:Int} {p:Nat × Value}:Has w ok (.var c) p↔p=(131,.int .u8 c):=by rw [Has]
theorem Has.app_ {w:World} {ok:Nat→Prop} {s:Int} {l:List Tm} {p:Nat × Value}:Has w ok (.app s l) p↔∃ A cap,p=(149,.agg #[.int .u8 s,.slice A l.length cap])∧l.length≤cap∧HasL w ok l A 0:=by rw [Has]
theorem HasL.get {w:World} {ok:Nat→Prop}:∀ {l:List Tm} {A:Option Addr} {i:Nat},HasL w ok l A i→∀ j (hj:j < l.length),∃ g cs p,A=some ⟨g,0,none⟩∧ok g∧w.heap[g]?=some (.cells cs 99 (0,0))∧cs[i+j]?=some (encI p)∧Has w ok l[j] p
  | t :: l,A,i,hh,0,hj=>by
    rw [HasL] at hh
    exact hh.1
  | t :: l,A,i,hh,j+1,hj=>by
    rw [HasL] at hh
    have:=HasL.get hh.2 j (by simpa using hj)
    rw [show i+(j+1)=i+1+j by omega]
    exact this
theorem HasL.of {w:World} {ok:Nat→Prop} {g:Nat} {cs:Array Value} (hg:ok g) (hh:w.heap[g]?=some (.cells cs 99 (0,0))):∀ (l:List Tm) (i:Nat),(∀ j (hj:j < l.length),∃ p,cs[i+j]?=some (encI p)∧Has w ok l[j] p)→HasL w ok l (some ⟨g,0,none⟩) i
  | [],i,_=>by rw [HasL];trivial
  | t :: l,i,h=>by
    rw [HasL]
    obtain ⟨p,h1,h2⟩:=h 0 (by simp)
    refine ⟨⟨g,cs,p,rfl,hg,hh,h1,h2⟩,HasL.of hg hh l (i+1) (fun j hj=>?_)⟩
    have:=h (j+1) (by simpa using hj)
    rw [show i+1+j=i+(j+1) by omega]
    exact this
section
variable {P:Program} {ops:Array Oper} {Q:Exit→Act→World→Prop}
theorem callD_ {oi:Oper} {N:Option Tmp} {a:Act} {w:World} {K:Act→World→Prop} (f:FuncId) (args:Array Value) (hw:Region.wanted oi (yielded ops a.tmps)=true) (hN:oi.dst=N) (hrun:(execOp a.eval oi).run P w=.ok (.enter f args) w)
    (h:Calls P f args w fun e w'=>(∃ v,e=.returned v∧K (a.put N v) w')∨∃ ch,e=.panicked ch∧Q (.panic ch) a w'):if Region.wanted oi (yielded ops a.tmps)=true then Oper.wp P oi a w K Q else K (a.put N undef) w:=by
  rw [if_pos hw]
  subst hN
  unfold Oper.wp
  rw [hrun,Oper.upon_enter]
  refine h.mono fun e w'' hh=>?_
  rcases hh with ⟨v,rfl,hk⟩|⟨ch,rfl,hk⟩
  · exact hk
  · exact hk
theorem goesD_ {oi:Oper} {N:Option Tmp} {a:Act} {w:World} {K:Act→World→Prop} {f:FuncId} {fn:Func} {aa:Array Operand} {ts:Array TypeId} (hf:P.funcs[f]?=some fn) (hname:(fn.name == "runtime.NumGoroutine")=false) (hb:fn.body.isSome=true) (args:Array Value)
    (hw:Region.wanted oi (yielded ops a.tmps)=true) (hN:oi.dst=N) (hop:oi.op=.call { callee:=.value (.func f),args:=aa,argTypes:=ts }) (hargs:aa.map a.eval=args)
    (h:Calls P f args w fun e w'=>(∃ v,e=.returned v∧K (a.put N v) w')∨∃ ch,e=.panicked ch∧Q (.panic ch) a w'):if Region.wanted oi (yielded ops a.tmps)=true then Oper.wp P oi a w K Q else K (a.put N undef) w:=by
  refine callD_ f args hw hN ?_ h
  have he:=enters_ hf hname hb args w
  unfold execOp
  simp [hop,resolve,Deferred.ofValue,invoke,Act.eval,hargs,he]
end
theorem info99:(Tryz.prog.info? 99).map (fun i=>(i.zero,i.size,i.bytes))=some (some .nilIface,1,16):=by kernel_rfl
def kI:Kd (Nat × Value):=Kd.scalar encI encI_one
theorem hasL_of_R {w:World} {base:Nat} {okr ok:Nat→Prop} {v:Value} {vs:List (Nat × Value)} {acc:List Tm} (h:Kd.R kI 99 w base okr v vs) (hl:acc.length=vs.length) (ht:∀ j (h1:j < acc.length) (h2:j < vs.length),Has w ok acc[j] vs[j]) (hk:∀ k,v.ownBlock=some k→ok k) :
    ∃ A cap,v=.slice A acc.length cap∧acc.length≤cap∧HasL w ok acc A 0:=by
  by_cases hz:0 < vs.length
  · obtain ⟨g,cap,rfl,hb,hlt,cells,hc⟩:=Kd.R_form h hz
    obtain ⟨e1,e2,hC⟩:=Kd.R_reads' h
    refine ⟨some ⟨g,0,none⟩,cap,by rw [hl],by omega,HasL.of (hk g (by simp [Value.ownBlock])) hc acc 0 (fun j hj=>?_)⟩
    have hj2:j < vs.length:=by omega
    obtain ⟨ad,c,ea,_,hK,hget⟩:=Kd.C_get hC (0,.nilIface) (j:Int) (by omega) (by omega)
    have ea2:ad=⟨g,0,none⟩:=by injection ea with ea;exact ea.symm
    subst ea2
    have hK2:c=[encI (vs.getD ((j:Int)).toNat (0,.nilIface))]:=hK
    rw [Int.toNat_natCast,List.getD_eq_getElem?_getD,List.getElem?_eq_getElem hj2] at hK2
    have:=hget 0 (encI vs[j]) (by rw [hK2];rfl)
    have h3:w.cell? ⟨g,j,none⟩=some (encI vs[j]):=by
      simp [Addr.add,kI,Kd.scalar] at this
      by_cases hj0:j=0
      · subst hj0
        simpa using this
      · simpa [hj0] using this
    have h4:w.cell? ⟨g,j,none⟩=cells[j]?:=blk_cell hc j
    refine ⟨vs[j],?_,ht j hj hj2⟩
    rw [Nat.zero_add,←h4,h3]
  · have e0:vs=[]:=List.length_eq_zero_iff.1 (by omega)
    subst e0
    have e1:acc=[]:=List.length_eq_zero_iff.1 (by simpa using hl)
    subst e1
    obtain ⟨A,c,rfl⟩:=Kd.R_slice h
    exact ⟨A,c,rfl,Nat.zero_le _,by rw [HasL];trivial⟩
structure But (g:Nat) (w w':World):Prop where
  os:w'.os=w.os
  tape:w'.tape=w.tape
  output:w'.output=w.output
  size:w.heap.size≤w'.heap.size
  block:∀ k,k < w.heap.size→k≠g→w'.heap[k]?=w.heap[k]?
theorem But.refl (g:Nat) (w:World):But g w w:=⟨rfl,rfl,rfl,Nat.le_refl _,fun _ _ _=>rfl⟩
theorem But.trans {g:Nat} {a b c:World} (h:But g a b) (k:But g b c):But g a c :=
  ⟨k.os.trans h.os,k.tape.trans h.tape,k.output.trans h.output,Nat.le_trans h.size k.size,fun i hi hg=>(k.block i (Nat.lt_of_lt_of_le hi h.size) hg).trans (h.block i hi hg)⟩
theorem But.of_below {g:Nat} {w w':World} (h:Below w.heap.size w w'):But g w w':=⟨h.os,h.tape,h.output,h.size,fun k hk _=>h.block k hk⟩
theorem But.set {g:Nat} (w:World) (j:Nat) (v:Value):But g w (w.setCell ⟨g,j,none⟩ v):=⟨rfl,rfl,rfl,by simp [World.setCell],fun k _ hg=>Below.heap_setCell w ⟨g,j,none⟩ v k hg⟩
theorem But.below {g B:Nat} {w w':World} (h:But g w w') (hg:B≤g) (hB:B≤w.heap.size):Below B w w':=⟨h.os,h.tape,h.output,h.size,fun k hk=>h.block k (by omega) (by omega)⟩
theorem Has.but {w w':World} {ok:Nat→Prop} {t:Tm} {p:Nat × Value} {g:Nat} (hh:Has w ok t p) (h:But g w w') (hg:∀ k,ok k→k≠g):Has w' ok t p:=Has.step (fun k hk hl=>⟨hk,h.block k hl (hg k hk)⟩) hh
def hdB (s:ByteArray):Int:=if s.size=0 then 0 else bt s 0
def tlB (s:ByteArray):ByteArray:=s.extract 1 s.size
def rdCells (s:ByteArray) (n:Int):Obj:=.cells #[.string s,.int .i64 n] 160 (0,0)
theorem toList_empty {s:ByteArray} (h:s.size=0):s.toList.isEmpty=true:=by
  have h2:s.data.toList.length=s.size:=Array.length_toList
  rw [ByteArray.toList_eq,List.isEmpty_iff,←List.length_eq_zero_iff];omega
theorem toList_nonempty {s:ByteArray} (h:0 < s.size):s.toList.isEmpty=false:=by
  have h2:s.data.toList.length=s.size:=Array.length_toList
  rw [ByteArray.toList_eq]
  cases hl:s.data.toList with
  | nil=>rw [hl] at h2;simp at h2;omega
  | cons=>rfl
theorem blk_set2 {w:World} {g:Nat} {x y:Value} {t:TypeId} (h:w.heap[g]?=some (.cells #[x,y] t (0,0))) (v:Value):(w.setCell ⟨g,0,none⟩ v).heap[g]?=some (.cells #[v,y] t (0,0))∧(w.setCell ⟨g,1,none⟩ v).heap[g]?=some (.cells #[x,v] t (0,0)):=by
  constructor<;>simp [World.setCell,Array.getElem?_modify,h]
theorem reader_next (g:Nat) (s:ByteArray) (n:Int) (w:World) (hh:w.heap[g]?=some (rdCells s n)) :
    Calls Tryz.prog 144 #[.pointer (some ⟨g,0,none⟩)] w fun e w'=>e=.returned (.int .u8 (hdB s))∧w'.heap[g]?=some (rdCells (tlB s) n)∧But g w w':=by
  have hc0:w.cell? ⟨g,0,none⟩=some (.string s):=blk_cell hh 0
  have hz:w.frozen? ⟨g,0,none⟩=false:=by simp [World.frozen?,hh,rdCells]
  by_cases hs:0 < s.size
  · have he:=toList_nonempty hs
    have hb:hdB s=((s[0]'hs).toNat:Int):=by
      rw [hdB,if_neg (by omega)]
      simp [bt,hs]
    have h2:=(blk_set2 hh (.string (s.extract 1 s.size))).1
    rw [hb]
    go_enter Tryz.func144,Tryz.ntmps144
    go_wp2
    go_ret
    exact ⟨rfl,h2,But.set w 0 _⟩
  · have hs0:s.size=0:=by omega
    have he:=toList_empty hs0
    have hb:hdB s=0:=by rw [hdB,if_pos hs0]
    have ht:tlB s=s:=by
      have:s=⟨#[]⟩:=by
        cases s with
        | mk d=>congr 1;exact Array.eq_empty_of_size_eq_zero hs0
      subst this
      rfl
    rw [hb,ht]
    go_enter Tryz.func144,Tryz.ntmps144
    go_wp2
    go_ret
    exact ⟨rfl,hh,But.refl g w⟩
theorem reader_want (g:Nat) (s:ByteArray) (n c:Int) (w:World) (hh:w.heap[g]?=some (rdCells s n)) :
    Calls Tryz.prog 145 #[.pointer (some ⟨g,0,none⟩),.int .u8 c] w fun e w'=>e=(if hdB s=c then .returned (.tuple #[]) else troubled 4)∧w'.heap[g]?=some (rdCells (tlB s) n)∧But g w w':=by
  by_cases hc:hdB s=c
  · rw [if_pos hc]
    have hb:(hdB s == c)=true:=beq_iff_eq.2 hc
    go_enter Tryz.func145,Tryz.ntmps145
    go_wp2_with (first|(go_at_call 144;refine (reader_next g s n _ hh).mono ?_;rintro e w' ⟨rfl,h1,h2⟩)|(go_at_call 67;refine (demand_ok 4 _).mono ?_;rintro e w' ⟨rfl,rfl⟩))
    simp [bodyPost,results,Tryz.results145]
    exact ⟨h1,h2⟩
  · rw [if_neg hc]
    have hb:(hdB s == c)=false:=beq_eq_false_iff_ne.2 hc
    go_enter Tryz.func145,Tryz.ntmps145
    go_wp2_with (first|(go_at_call 144;refine (reader_next g s n _ hh).mono ?_;rintro e w' ⟨rfl,h1,h2⟩)|(go_at_call 67;refine (demand_no 4 _).mono ?_;rintro e w' ⟨rfl,rfl⟩))
    simp [bodyPost,results,Tryz.results145]
    exact ⟨h1,h2⟩
theorem wr {x:Int} (h1:-9223372036854775808≤x) (h2:x≤9223372036854775807):wrap64 x=x:=by unfold wrap64;omega
theorem wrp (i:Nat) (h:i≤1000):wrap64 ((i:Int)+1)=(i:Int)+1:=wr (by omega) (by omega)
theorem But.far {g B:Nat} {a b c:World} (h:But g a b) (hB:a.heap.size≤B) (k:Below B b c):But g a c:=⟨k.os.trans h.os,k.tape.trans h.tape,k.output.trans h.output,Nat.le_trans h.size k.size,fun i hi hg=>(k.block i (by omega)).trans (h.block i hi hg)⟩
def mark (i:Nat):Int:=if i=0 then 40 else 44
def pL (f:ByteArray→Int→Option (Tm × ByteArray × Int)):Nat→Nat→ByteArray→Int→Option (List Tm × ByteArray × Int)
 | 0,_,s,n=>some ([],s,n)
 | m+1,i,s,n=>if hdB s=mark i then (f (tlB s) n).bind fun r=>(pL f m (i+1) r.2.1 r.2.2).map fun r'=>(r.1 :: r'.1,r'.2) else none
def nParts (c:Int):Int:=(c - 97) / 2
def pT:Nat→ByteArray→Int→Option (Tm × ByteArray × Int)
 | 0,_,_=>none
 | q+1,s,n =>
  if 60 < n+1 then none
  else if 120≤hdB s∧hdB s≤122 then some (.var (hdB s),tlB s,n+1)
  else if 97≤hdB s∧hdB s≤102 then
   (pL (pT q) (nParts (hdB s)).toNat 0 (tlB s) (n+1)).bind fun r=>if nParts (hdB s) > 0 then (if hdB r.2.1=41 then some (.app (hdB s) r.1,tlB r.2.1,r.2.2) else none) else some (.app (hdB s) r.1,r.2)
  else none
def finT (c:Int) (r:List Tm × ByteArray × Int):Option (Tm × ByteArray × Int):=if nParts c > 0 then (if hdB r.2.1=41 then some (.app c r.1,tlB r.2.1,r.2.2) else none) else some (.app c r.1,r.2)
theorem pL_step {f:ByteArray→Int→Option (Tm × ByteArray × Int)} {c:Int} {acc:List Tm} {m i:Nat} {s:ByteArray} {n:Int} {R:Option (Tm × ByteArray × Int)} (h:R=(pL f (m+1) i s n).bind fun r=>finT c (acc++r.1,r.2)) (hm:hdB s=mark i) {t:Tm} {s3:ByteArray} {n3:Int} (ht:f (tlB s) n=some (t,s3,n3)) :
  R=(pL f m (i+1) s3 n3).bind fun r=>finT c ((acc++[t])++r.1,r.2):=by
 rw [h,pL,if_pos hm,ht,Option.bind_some]
 cases pL f m (i+1) s3 n3 with
 | none=>rfl
 | some r=>simp
theorem pL_no1 {f:ByteArray→Int→Option (Tm × ByteArray × Int)} {c:Int} {acc:List Tm} {m i:Nat} {s:ByteArray} {n:Int} {R:Option (Tm × ByteArray × Int)} (h:R=(pL f (m+1) i s n).bind fun r=>finT c (acc++r.1,r.2)) (hm:¬ hdB s=mark i):R=none:=by
 rw [h,pL,if_neg hm];rfl
theorem pL_no2 {f:ByteArray→Int→Option (Tm × ByteArray × Int)} {c:Int} {acc:List Tm} {m i:Nat} {s:ByteArray} {n:Int} {R:Option (Tm × ByteArray × Int)} (h:R=(pL f (m+1) i s n).bind fun r=>finT c (acc++r.1,r.2)) (ht:f (tlB s) n=none):R=none:=by
 rw [h,pL]
 split
 ·rw [ht];rfl
 ·rfl
theorem pL_n {f:ByteArray→Int→Option (Tm × ByteArray × Int)} (hf:∀ s n t s' n',f s n=some (t,s',n')→n+1≤n'∧n'≤60):∀ m i s n l s' n',pL f m i s n=some (l,s',n')→n≤n'∧(n≤60→n'≤60)∧l.length=m
 | 0,i,s,n,l,s',n',h=>by
  rw [pL] at h
  injection h with h
  injection h with h1 h2
  injection h2 with h2 h3
  subst h1 h3
  exact ⟨Int.le_refl _,fun h=>h,rfl⟩
 | m+1,i,s,n,l,s',n',h=>by
  rw [pL] at h
  split at h
  ·cases hr:f (tlB s) n with
   | none=>rw [hr] at h;cases h
   | some r =>
    obtain ⟨t,s2,n2⟩:=r
    rw [hr,Option.bind_some] at h
    cases hr2:pL f m (i+1) s2 n2 with
    | none=>rw [hr2] at h;cases h
    | some r2 =>
     obtain ⟨l2,s3,n3⟩:=r2
     rw [hr2] at h
     injection h with h
     injection h with h1 h2
     injection h2 with h2 h3
     have a:=hf _ _ _ _ _ hr
     have b:=pL_n hf m (i+1) s2 n2 l2 s3 n3 hr2
     subst h1 h3
     refine ⟨by omega,fun _=>b.2.1 a.2,?_⟩
     rw [List.length_cons,b.2.2]
  ·cases h
theorem pT_n:∀ q s n t s' n',pT q s n=some (t,s',n')→n+1≤n'∧n'≤60
 | 0,s,n,t,s',n',h=>by cases h
 | q+1,s,n,t,s',n',h=>by
  rw [pT] at h
  split at h
  ·cases h
  ·split at h
   ·injection h with h
    injection h with h1 h2
    injection h2 with h2 h3
    omega
   ·split at h
    ·cases hr:pL (pT q) (nParts (hdB s)).toNat 0 (tlB s) (n+1) with
     | none=>rw [hr] at h;cases h
     | some r =>
      obtain ⟨l,s2,n2⟩:=r
      have a:=pL_n (pT_n q) _ _ _ _ _ _ _ hr
      rw [hr,Option.bind_some] at h
      dsimp only at h
      split at h
      ·split at h
       ·injection h with h
        injection h with h1 h2
        injection h2 with h2 h3
        omega
       ·cases h
      ·injection h with h
       injection h with h1 h2
       injection h2 with h2 h3
       omega
    ·cases h
theorem hdB_range (s:ByteArray):0≤hdB s∧hdB s≤255:=by
 unfold hdB
 split
 ·omega
 ·have:=(s[0]'(by omega)).toNat_lt
  have e:bt s 0=((s[0]'(by omega)).toNat:Int):=by simp [bt,show 0 < s.size by omega]
  rw [e];omega
theorem parts_calls (c:Int) (hc:97≤c∧c≤102) (w:World):Calls Tryz.prog 114 #[.int .u8 c] w fun e w'=>e=.returned (.int .i64 (nParts c))∧w'=w:=by
 have h1:IntKind.u8.wrap (c - 97)=c - 97:=by unfold IntKind.wrap;simp [IntKind.bits,IntKind.signed];omega
 have h2:wrap64 (c - 97)=c - 97:=wr (by omega) (by omega)
 have h3:Int.tdiv (c - 97) 2=nParts c:=by unfold nParts;rw [Int.tdiv_eq_ediv_of_nonneg (by omega)]
 have h4:wrap64 (nParts c)=nParts c:=by unfold nParts;exact wr (by omega) (by omega)
 go_enter Tryz.func114,Tryz.ntmps114
 go_wp2
 go_ret
 rw [h4]
 exact ⟨rfl,rfl⟩
def OutT (g:Nat) (ok:Nat→Prop) (w:World) (R:Option (Tm × ByteArray × Int)) (e:Ending) (w':World):Prop :=
 match R with
 | none=>e=troubled 4∧But g w w'
 | some (t,s',n')=>∃ p,e=.returned (encI p)∧Has w' ok t p∧w'.heap[g]?=some (rdCells s' n')∧But g w w'
set_option maxHeartbeats 2000000 in
set_option maxRecDepth 100000 in
theorem term_calls:∀ (q:Nat) (g:Nat) (ok:Nat→Prop) (s:ByteArray) (n:Int) (w:World),w.heap[g]?=some (rdCells s n)→(∀ k,w.heap.size≤k→ok k)→0≤n→n≤60→61≤n+q →
  Calls Tryz.prog 119 #[.pointer (some ⟨g,0,none⟩)] w (OutT g ok w (pT q s n))
 | 0,g,ok,s,n,w,hh,hok,hn0,hn,hq=>by omega
 | q+1,g,ok,s,n,w,hh,hok,hn0,hn,hq=>by
  have hr:=hdB_range s
  have w1:wrap64 (n+1)=n+1:=wr (by omega) (by omega)
  by_cases h60:60 < n+1
  ·have hb:decide (n+1≤60)=false:=decide_eq_false (by omega)
   have hR:pT (q+1) s n=none:=by rw [pT,if_pos h60]
   rw [hR]
   unfold OutT
   go_enter Tryz.func119,Tryz.ntmps119
   go_wp2_with (first|(go_at_call 144;refine (reader_next g s n _ hh).mono ?_;rintro e wa ⟨rfl,ha,hba⟩;have hc1:wa.cell? ⟨g,1,none⟩=some (.int .i64 n):=blk_cell ha 1;have hz:wa.frozen? ⟨g,1,none⟩=false:=(by simp [World.frozen?,ha,rdCells]);have hs2:=(blk_set2 ha (.int .i64 (n+1))).2;have hc2:(wa.setCell ⟨g,1,none⟩ (.int .i64 (n+1))).cell? ⟨g,1,none⟩=some (.int .i64 (n+1)):=blk_cell hs2 1)|(go_at_call 67;refine (demand_no 4 _).mono ?_;rintro e w' ⟨rfl,rfl⟩))
   simp [bodyPost]
   exact hba.trans (But.set wa 1 _)
  ·have hb:decide (n+1≤60)=true:=decide_eq_true (by omega)
   by_cases hv:120≤hdB s∧hdB s≤122
   ·have hR:pT (q+1) s n=some (.var (hdB s),tlB s,n+1):=by rw [pT,if_neg h60,if_pos hv]
    have hb1:decide (hdB s≥120)=true:=decide_eq_true hv.1
    have hb2:decide (hdB s≤122)=true:=decide_eq_true hv.2
    rw [hR]
    unfold OutT
    go_enter Tryz.func119,Tryz.ntmps119
    go_wp2_with (first|(go_at_call 144;refine (reader_next g s n _ hh).mono ?_;rintro e wa ⟨rfl,ha,hba⟩;have hc1:wa.cell? ⟨g,1,none⟩=some (.int .i64 n):=blk_cell ha 1;have hz:wa.frozen? ⟨g,1,none⟩=false:=(by simp [World.frozen?,ha,rdCells]);have hs2:=(blk_set2 ha (.int .i64 (n+1))).2;have hc2:(wa.setCell ⟨g,1,none⟩ (.int .i64 (n+1))).cell? ⟨g,1,none⟩=some (.int .i64 (n+1)):=blk_cell hs2 1)|(go_at_call 67;refine (demand_ok 4 _).mono ?_;rintro e w' ⟨rfl,rfl⟩))
    go_ret
    exact ⟨(131,.int .u8 (hdB s)),rfl,Has.var_.2 rfl,hs2,hba.trans (But.set wa 1 _)⟩
   ·have hb1:(decide (hdB s≥120) && decide (hdB s≤122))=false:=by
     by_cases c1:hdB s≥120
     ·rw [decide_eq_false (show ¬ hdB s≤122 from fun h=>hv ⟨c1,h⟩),Bool.and_false]
     ·rw [decide_eq_false c1,Bool.false_and]
    by_cases hl:97≤hdB s∧hdB s≤102
    ·have hb5:decide (hdB s≥120)=false:=decide_eq_false (by omega)
     have hb3:decide (hdB s≥97)=true:=decide_eq_true hl.1
     have hb4:decide (hdB s≤102)=true:=decide_eq_true hl.2
     have hp:=parts_calls (hdB s) hl
     have hN:0≤nParts (hdB s)∧nParts (hdB s)≤2:=by unfold nParts;omega
     have hR:pT (q+1) s n=(pL (pT q) (nParts (hdB s)).toNat 0 (tlB s) (n+1)).bind fun r=>finT (hdB s) ([]++r.1,r.2):=by rw [pT,if_neg h60,if_neg hv,if_pos hl];rfl
     obtain ⟨R,hRR⟩:∃ R,R=pT (q+1) s n:=⟨_,rfl⟩
     rw [←hRR] at hR ⊢
     have HR:=Aside0.mk hR
     clear hR hRR hb1
     clear hv hr
     go_enter Tryz.func119,Tryz.ntmps119
     go_wp2_with (first|(go_at_call 144;refine (reader_next g s n _ hh).mono ?_;rintro e wa ⟨rfl,ha,hba⟩;have hc1:wa.cell? ⟨g,1,none⟩=some (.int .i64 n):=blk_cell ha 1;have hz:wa.frozen? ⟨g,1,none⟩=false:=(by simp [World.frozen?,ha,rdCells]);have hs2:=(blk_set2 ha (.int .i64 (n+1))).2;have hc2:(wa.setCell ⟨g,1,none⟩ (.int .i64 (n+1))).cell? ⟨g,1,none⟩=some (.int .i64 (n+1)):=blk_cell hs2 1)|(go_at_call 67;refine (demand_ok 4 _).mono ?_;rintro e w' ⟨rfl,rfl⟩)|(go_at_call 114;refine (hp _).mono ?_;rintro e w' ⟨rfl,rfl⟩))
     have hlt:g < w.heap.size:=(gl_ hh)
     have hBg:But g w ((wa.setCell ⟨g,1,none⟩ (.int .i64 (n+1))).alloc (.cells #[.int .u8 (hdB s),.slice none 0 0] 149)):=(hba.trans (But.set wa 1 _)).trans (But.of_below (below_alloc (Below.refl _ _) _))
     have hsz:(wa.setCell ⟨g,1,none⟩ (.int .i64 (n+1))).heap.size=wa.heap.size:=by simp [World.setCell]
     have hBk:((wa.setCell ⟨g,1,none⟩ (.int .i64 (n+1))).alloc (.cells #[.int .u8 (hdB s),.slice none 0 0] 149)).heap[wa.heap.size]?=some (.cells #[.int .u8 (hdB s),.slice none 0 0] 149 (0,0)):=by rw [←hsz];exact blk_new _ _
     have hgk:=blk_alloc hs2 (.cells #[.int .u8 (hdB s),.slice none 0 0] 149)
     have hws:w.heap.size≤wa.heap.size:=hba.size
     go_loopw [40] (fun v40 wr=>∃ (i:Nat) (acc:List Tm) (s2:ByteArray) (n2:Int) (vs:List (Nat × Value)) (v2:Value),v40=.int .i64 (i:Int)∧Aside0 ((i:Int)≤nParts (hdB s))∧Aside0 (R=(pL (pT q) ((nParts (hdB s)).toNat - i) i s2 n2).bind fun r=>finT (hdB s) (acc++r.1,r.2))∧Aside0 (1≤n2∧n+1≤n2∧n2≤60)∧Aside0 (wr.heap[g]?=some (rdCells s2 n2))∧Aside0 (wr.heap[wa.heap.size]?=some (.cells #[.int .u8 (hdB s),v2] 149 (0,0)))∧Aside0 (Kd.R kI 99 wr wa.heap.size (fun k=>k≠g∧k≠wa.heap.size) v2 vs)∧Aside0 (acc.length=i∧vs.length=i∧∀ j (h1:j < acc.length) (h2:j < vs.length),Has wr (fun k=>ok k∧k≠g∧k≠wa.heap.size∧some k≠v2.ownBlock) acc[j] vs[j])∧Aside0 (But g w wr)) (fun v40 _=>(nParts (hdB s)).toNat - (intOf v40).toNat)
     case atStart=>exact ⟨0,[],tlB s,n+1,[],.slice none 0 0,rfl,⟨hN.1⟩,HR,⟨by omega,by omega,by omega⟩,⟨hgk⟩,⟨hBk⟩,⟨Kd.R_nil _ _ _ _ _⟩,⟨rfl,rfl,fun j h=>absurd h (by simp)⟩,⟨hBg⟩⟩
     case round =>
      clear hBg hBk hgk hs2 hc1 hc2 hz HR
      obtain ⟨i,acc,s2,n2,vs,v2,rfl,HI,HR,HN2,HG2,HB2,HO,HT,HW⟩:=hrel
      by_cases hi:(i:Int) < nParts (hdB s)
      ·have hib:decide ((i:Int) < nParts (hdB s))=true:=decide_eq_true hi
       obtain ⟨m,hm⟩:∃ m,(nParts (hdB s)).toNat - i=m+1:=⟨(nParts (hdB s)).toNat - i - 1,by omega⟩
       have HM:=Aside0.mk hm
       clear hm
       have hi2:i=0∨i=1:=by omega
       have hmv:∀ h,((((⟨#[40,44]⟩:ByteArray)[i]'h).toNat:Nat):Int)=mark i:=by
        intro h
        rcases hi2 with rfl|rfl<;>rfl
       have hgl:g < wr.heap.size:=(gl_ HG2.out)
       have hBl:wa.heap.size < wr.heap.size:=(gl_ HB2.out)
       have hBne:wa.heap.size≠g:=by omega
       by_cases hmk:hdB s2=mark i
       ·go_wp2_with (first|(go_at_call 145;refine (reader_want g s2 n2 (mark i) _ HG2.out).mono ?_;rintro e w4 ⟨he,hg3,hb3⟩;rw [if_pos hmk] at he;subst he))
        have HG3:=Aside0.mk hg3
        have n0_:=Aside0.mk ((hb3.block _ hBl hBne).trans HB2.out)
        have n1_:=Aside0.mk (Kd.R_step HO.out (fun k hk hl=>hb3.block k hl hk.1))
        have n2_:Aside0 (acc.length=i∧vs.length=i∧∀ j (h1:j < acc.length) (h2:j < vs.length),Has w4 (fun k=>ok k∧k≠g∧k≠wa.heap.size∧some k≠v2.ownBlock) acc[j] vs[j]):=⟨HT.out.1,HT.out.2.1,fun j h1 h2=>(HT.out.2.2 j h1 h2).but hb3 (fun k hk=>hk.2.1)⟩
        have n3_:=Aside0.mk (HW.out.trans hb3)
        clear HB2 HO HT HW hg3 hb3 HG2
        have HB2:=n0_
        have HO:=n1_
        have HT:=n2_
        have HW:=n3_
        have hgl:g < w4.heap.size:=(gl_ HG3.out)
        have hBl:wa.heap.size < w4.heap.size:=(gl_ HB2.out)
        have HOK:Aside0 (∀ k,w4.drew.heap.size≤k→ok k∧k≠g∧k≠wa.heap.size∧some k≠v2.ownBlock):=⟨fun k hk=>⟨hok k (Nat.le_trans HW.out.size hk),by have h2:w4.heap.size≤k:=hk;omega,by have h2:w4.heap.size≤k:=hk;omega,fun e=>by have h2:w4.heap.size≤k:=hk;have:=Kd.R_lt HO.out k e.symm;omega⟩⟩
        clear n0_ n1_ n2_ n3_
        refine start_ (n:=8) (S:=fun w'=>w'.cell? ⟨wa.heap.size,1,none⟩=some v2) (ds:=[7]) (bm 8 0) (by kernel_rfl) rfl rfl ((blk_cell (blk_drew HB2.out) 1)) (fun hHeld=>?_)
        refine pk_ 0 47 (bm 8 1) ?_
        refine pk_ 2 49 (bm 8 5) ?_
        refine take_ (i:=1) (N:=some 48) (v:=?_) (a':=?_) (bm 8 7) rfl rfl (by kernel_rfl) (fun _ _ _ h=>h) (Or.inl ⟨by rfl,?_⟩) hHeld ?_ ?_;rotate_left
        ·intro w' s0
         go_simp
         with_reducible rfl
        rotate_left;exact tP_
        refine one_ (i:=3) (N:=some 50) (bm 8 15) rfl rfl (by kernel_rfl) (by decide) (fun K hK=>?_)
        refine goesD_ Tryz.func119 (by kernel_rfl) rfl #[.pointer (some ⟨g,0,none⟩)] (by rfl) rfl rfl (by simp only [List.map_toArray,List.map_cons,List.map_nil];rfl) ?_
        refine (term_calls q g (fun k=>ok k∧k≠g∧k≠wa.heap.size∧some k≠v2.ownBlock) (tlB s2) n2 _ (blk_drew HG3.out) HOK.out (by have:=HN2.out;omega) (by have:=HN2.out;omega) (by have:=HN2.out;omega)).mono ?_
        rintro e w5 hh5
        rcases hR2:pT q (tlB s2) n2 with _|⟨t,s3,n3⟩
        ·rw [hR2] at hh5
         obtain ⟨rfl,hb5⟩:=hh5
         refine .inr ⟨_,rfl,?_⟩
         have hR0:R=none:=pL_no2 (f:=pT q) (c:=hdB s) (acc:=acc) (m:=m) (i:=i) (s:=s2) (n:=n2) (by have h:=HR.out;rw [HM.out] at h;exact h) hR2
         have hbb:But g w w5:=HW.out.trans (b:=w4) ⟨hb5.os,hb5.tape,hb5.output,hb5.size,hb5.block⟩
         subst hR0
         exact ⟨rfl,rfl,hbb⟩
        rw [hR2] at hh5
        obtain ⟨⟨tid,pv⟩,rfl,ht,hg4,hb4⟩:=hh5
        refine .inl ⟨.iface tid pv,rfl,?_⟩
        have hB45:But g w4 w5:=⟨hb4.os,hb4.tape,hb4.output,hb4.size,hb4.block⟩
        have HB3:=(hB45.block _ hBl hBne).trans HB2.out
        have HO3:=Kd.R_step HO.out (fun k hk hl=>hB45.block k hl hk.1)
        have hBl5:wa.heap.size < w5.heap.size:=(gl_ HB3)
        have hgl5:g < w5.heap.size:=(gl_ hg4)
        have hc3:=blk_cell HB3 1
        refine hK.out _ _ (hc3) (fun hHeld=>?_)
        clear hK K
        refine norm_ (a':=?_) ?_ ?_;rotate_left;(show Act.put _ (some 50) _=_;exact tP_)
        refine one_ (i:=4) (N:=some 51) (bm 8 31) rfl rfl (by kernel_rfl) (by decide) (fun K hK=>?_)
        refine value_ (w1:=?_) (v:=?_) (by rfl) rfl ?_ ?_
        rotate_left 2
        ·go_simp
         constructor
         ·rfl
         ·rfl
        have hc4:=blk_cell (blk_alloc HB3 (.cells #[.iface tid pv] 99)) 1
        refine hK.out _ _ (hc4) (fun hHeld=>?_)
        clear hK K
        refine norm_ (a':=?_) ?_ ?_;rotate_left;(show Act.put _ (some 51) _=_;exact tP_)
        refine one_ (i:=5) (N:=some 52) (bm 8 63) rfl rfl (by kernel_rfl) (by decide) (fun K hK=>?_)
        refine Kd.R_append_step kI (w0:=w5) wa.heap.size (by rfl) (.tmp 48) (.tmp 51) 111 99 .nilIface 16 rfl Tryz.underlying111 info99 rfl (by decide) (by omega) v2 vs (tid,pv) [.iface tid pv] (fun k=>k≠g∧k≠wa.heap.size) (fun _=>False) rfl (by simp [Act.eval]) rfl (fun _ hk=>hk.elim) (fun k hk=>⟨by omega,by omega⟩) HO3 (Below.refl _ _) (by omega) (by have:=HT.out.2.1;omega) ?_
        intro v3 w6 ho6 hb6 hg6 hat6
        obtain ⟨A3,c3,hv3⟩:=Kd.R_slice ho6
        subst hv3
        have HB6:=(hg6.block _ hBl5 (fun e=>(HO3.1 _ e.symm).2 rfl)).trans HB3
        have hz6:w6.frozen? ⟨wa.heap.size,1,none⟩=false:=by simp [World.frozen?,HB6]
        have hc5:w6.cell? ⟨wa.heap.size,1,none⟩=some v2:=blk_cell HB6 1
        refine hK.out _ _ (hc5) (fun hHeld=>?_)
        clear hK K
        refine norm_ (a':=?_) ?_ ?_;rotate_left;(show Act.put _ (some 52) _=_;exact tP_)
        refine pk_ 6 53 (bm 8 127) ?_
        refine last_ (i:=7) (N:=none) (bm 8 255) rfl rfl (by kernel_rfl) (by decide) (fun K hK=>?_)
        refine skip_ (w1:=?_) (by rfl) rfl ?_ ?_
        rotate_left
        ·go_simp
         rfl
        refine hK.out _ _ ?_
        clear hK K
        refine done_ (by kernel_rfl) ?_
        have w1i:wrap64 ((i:Int)+1)=(i:Int)+1:=wrp i (by omega)
        have HH:=Aside0.mk (And.intro ho6 (And.intro hb6 (And.intro hg6 (And.intro hat6 (And.intro HO3 (And.intro HB6 (And.intro hg4 (And.intro ht (And.intro hB45 (And.intro hBl5 (And.intro hgl5 (And.intro hR2 (And.intro hmk (And.intro hmv (And.intro hi (And.intro hgl (And.intro hBl (And.intro hBne hi2))))))))))))))))))
        clear ho6 hb6 hg6 hat6 hc5 hz6 hc4 hc3 HB6 HO3 HB3 hg4 hb4 ht hB45 hBl5 hgl5 hR2 hmk hmv hi hib hgl hBl hBne hi2 HOK
        go_wp2
        go_roundw
        case rel =>
         obtain ⟨ho6,hb6,hg6,hat6,HO3,HB6,hg4,ht,hB45,hBl5,hgl5,hR2,hmk,hmv,hi,hgl,hBl,hBne,hi2⟩:=HH.out
         have hG6:=(hg6.block g hgl5 (fun e=>(HO3.1 _ e.symm).1 rfl)).trans hg4
         have hn:=pT_n _ _ _ _ _ _ hR2
         have hp2:=pL_step (f:=pT q) (c:=hdB s) (acc:=acc) (m:=m) (i:=i) (s:=s2) (n:=n2) (R:=R) (by have h:=HR.out;rw [HM.out] at h;exact h) hmk hR2
         have hm2:(nParts (hdB s)).toNat - (i+1)=m:=by have:=HM.out;omega
         have hst:∀ {t':Tm} {p':Nat × Value},Has w5 (fun k=>ok k∧k≠g∧k≠wa.heap.size∧some k≠v2.ownBlock) t' p'→Has (w6.setCell ⟨wa.heap.size,1,none⟩ (.slice A3 (vs++[(tid,pv)]).length c3)) (fun k=>ok k∧k≠g∧k≠wa.heap.size∧some k≠(Value.slice A3 (vs++[(tid,pv)]).length c3).ownBlock) t' p':=by
          intro t' p' hh
          refine Has.step (fun k hk hl=>⟨⟨hk.1,hk.2.1,hk.2.2.1,?_⟩,?_⟩) hh
          ·exact (Below.heap_setCell w6 ⟨wa.heap.size,1,none⟩ _ k hk.2.2.1).trans (hg6.block k hl hk.2.2.2)
          ·intro e
           rcases hat6 with h6|⟨b,h6,h7⟩
           ·exact hk.2.2.2 (e.trans h6)
           ·rw [h6] at e
            injection e with e
            omega
         have hB7:But g w (w6.setCell ⟨wa.heap.size,1,none⟩ (.slice A3 (vs++[(tid,pv)]).length c3)):=((HW.out.trans hB45).far hws hb6).far hws ((Below.refl wa.heap.size w6).setCell (p:=⟨wa.heap.size,1,none⟩) (Nat.le_refl _) _)
         refine ⟨i+1,acc++[t],s3,n3,vs++[(tid,pv)],.slice A3 (vs++[(tid,pv)]).length c3,by rw [w1i];rfl,⟨by omega⟩,⟨by rw [hm2];exact hp2⟩,⟨by have:=HN2.out;omega⟩,⟨?_⟩,⟨?_⟩,⟨?_⟩,⟨?_⟩,⟨?_⟩⟩
         ·have h:=(Below.heap_setCell w6 ⟨wa.heap.size,1,none⟩ (.slice A3 (vs++[(tid,pv)]).length c3) g (fun e=>hBne e.symm)).trans hG6
          simpa using h
         ·have h:=(blk_set2 HB6 (.slice A3 (vs++[(tid,pv)]).length c3)).2
          simpa using h
         ·have h:=Kd.R_far ho6 (p:=⟨wa.heap.size,1,none⟩) (fun k hk=>hk.2) (.slice A3 (vs++[(tid,pv)]).length c3)
          simpa using h
         ·refine ⟨by rw [List.length_append,HT.out.1];rfl,by rw [List.length_append,HT.out.2.1];rfl,fun j h1 h2=>?_⟩
          have ex:∀ (x:Nat),x=(vs++[(tid,pv)]).length→x=vs.length+1:=fun x hx=>by rw [hx,List.length_append];rfl
          rw [←ex _ rfl]
          by_cases hj:j < acc.length
          ·have hj2:j < vs.length:=by have:=HT.out;omega
           rw [List.getElem_append_left hj,List.getElem_append_left hj2]
           exact hst ((HT.out.2.2 j hj hj2).but hB45 (fun k hk=>hk.2.1))
          ·have hj1:j=acc.length:=by rw [List.length_append] at h1;simp at h1;omega
           have hj2:j=vs.length:=by have:=HT.out;omega
           rw [List.getElem_append_right (by omega),List.getElem_append_right (by omega)]
           simp only [hj1,Nat.sub_self,show acc.length - vs.length=0 by omega,List.getElem_cons_zero]
           exact hst ht
         ·have h:=hB7
          simpa using h
        case measure =>
         obtain ⟨ho6,hb6,hg6,hat6,HO3,HB6,hg4,ht,hB45,hBl5,hgl5,hR2,hmk,hmv,hi,hgl,hBl,hBne,hi2⟩:=HH.out
         rw [w1i]
         simp only [intOf]
         omega
       ·have hR0:R=none:=pL_no1 (f:=pT q) (c:=hdB s) (acc:=acc) (m:=m) (i:=i) (s:=s2) (n:=n2) (by have h:=HR.out;rw [HM.out] at h;exact h) hmk
        go_wp2_with (first|(go_at_call 145;refine (reader_want g s2 n2 (mark i) _ HG2.out).mono ?_;rintro e w4 ⟨he,hg3,hb3⟩;rw [if_neg hmk] at he;subst he))
        rw [hR0]
        simp [bodyPost,OutT,Exit.inBlock,Exit.then]
        exact HW.out.trans hb3
      ·have hib:decide ((i:Int) < nParts (hdB s))=false:=decide_eq_false hi
       have hi3:(nParts (hdB s)).toNat - i=0:=by omega
       have hfin:R=finT (hdB s) (acc,s2,n2):=by
        have h:=HR.out
        rw [hi3] at h
        simpa [pL] using h
       have hBl:wa.heap.size < wr.heap.size:=(gl_ HB2.out)
       have hBne:wa.heap.size≠g:=by omega
       have hal:acc.length=vs.length:=by have:=HT.out;omega
       by_cases hpos:nParts (hdB s) > 0
       ·have hpb:decide (nParts (hdB s) > 0)=true:=decide_eq_true hpos
        by_cases h41:hdB s2=41
        ·have hR3:R=some (.app (hdB s) acc,tlB s2,n2):=by rw [hfin];unfold finT;rw [if_pos hpos,if_pos h41]
         clear hfin
         go_wp2_with (first|(go_at_call 114;refine (hp _).mono ?_;rintro e w' ⟨rfl,rfl⟩)|(go_at_call 145;refine (reader_want g s2 n2 41 _ HG2.out).mono ?_;rintro e w4 ⟨he,hg3,hb3⟩;rw [if_pos h41] at he;subst he;have hB4:=(hb3.block _ hBl hBne).trans HB2.out;have hc40:w4.cell? ⟨wa.heap.size,0,none⟩=some (.int .u8 (hdB s)):=blk_cell hB4 0;have hc41:w4.cell? ⟨wa.heap.size,1,none⟩=some v2:=blk_cell hB4 1))
         have hO4:=Kd.R_step HO.out (fun k hk hl=>hb3.block k hl hk.1)
         obtain ⟨A,cap,e2,l2,hL⟩:=hasL_of_R (ok:=ok) hO4 hal (fun j h1 h2=>((HT.out.2.2 j h1 h2).but hb3 (fun k hk=>hk.2.1)).mono (fun k hk=>hk.1)) (fun k hk=>hok k (by have:=Kd.R_base hO4 k hk;omega))
         have hout:OutT g ok w R (.returned (.iface 149 (.agg #[.int .u8 (hdB s),v2]))) w4:=by
          rw [hR3]
          exact ⟨(149,.agg #[.int .u8 (hdB s),v2]),rfl,Has.app_.2 ⟨A,cap,by rw [e2],l2,hL⟩,hg3,HW.out.trans hb3⟩
         go_ret
         exact hout
        ·have hR3:R=none:=by rw [hfin];unfold finT;rw [if_pos hpos,if_neg h41]
         clear hfin
         go_wp2_with (first|(go_at_call 114;refine (hp _).mono ?_;rintro e w' ⟨rfl,rfl⟩)|(go_at_call 145;refine (reader_want g s2 n2 41 _ HG2.out).mono ?_;rintro e w4 ⟨he,hg3,hb3⟩;rw [if_neg h41] at he;subst he))
         first|exact ⟨rfl,rfl,HW.out.trans hb3⟩|(rw [hR3];exact ⟨rfl,rfl,HW.out.trans hb3⟩)
       ·have hpb:decide (nParts (hdB s) > 0)=false:=decide_eq_false hpos
        have hR3:R=some (.app (hdB s) acc,s2,n2):=by rw [hfin];unfold finT;rw [if_neg hpos]
        clear hfin
        have hc40:wr.cell? ⟨wa.heap.size,0,none⟩=some (.int .u8 (hdB s)):=blk_cell HB2.out 0
        have hc41:wr.cell? ⟨wa.heap.size,1,none⟩=some v2:=blk_cell HB2.out 1
        go_wp2_with (first|(go_at_call 114;refine (hp _).mono ?_;rintro e w' ⟨rfl,rfl⟩))
        obtain ⟨A,cap,e2,l2,hL⟩:=hasL_of_R (ok:=ok) HO.out hal (fun j h1 h2=>(HT.out.2.2 j h1 h2).mono (fun k hk=>hk.1)) (fun k hk=>hok k (by have:=Kd.R_base HO.out k hk;omega))
        go_ret
        first|exact ⟨(149,.agg #[.int .u8 (hdB s),v2]),rfl,Has.app_.2 ⟨A,cap,by rw [e2],l2,hL⟩,HG2.out,HW.out⟩|(rw [hR3];exact ⟨(149,.agg #[.int .u8 (hdB s),v2]),rfl,Has.app_.2 ⟨A,cap,by rw [e2],l2,hL⟩,HG2.out,HW.out⟩)
    ·have hR:pT (q+1) s n=none:=by rw [pT,if_neg h60,if_neg hv,if_neg hl]
     rw [hR]
     unfold OutT
     obtain hlo|hhi:¬ 97≤hdB s∨(97≤hdB s∧¬ hdB s≤102):=by omega
     ·have hb5:decide (hdB s≥120)=false:=decide_eq_false (by omega)
      have hb3:decide (hdB s≥97)=false:=decide_eq_false hlo
      go_enter Tryz.func119,Tryz.ntmps119
      go_wp2_with (first|(go_at_call 144;refine (reader_next g s n _ hh).mono ?_;rintro e wa ⟨rfl,ha,hba⟩;have hc1:wa.cell? ⟨g,1,none⟩=some (.int .i64 n):=blk_cell ha 1;have hz:wa.frozen? ⟨g,1,none⟩=false:=(by simp [World.frozen?,ha,rdCells]);have hs2:=(blk_set2 ha (.int .i64 (n+1))).2;have hc2:(wa.setCell ⟨g,1,none⟩ (.int .i64 (n+1))).cell? ⟨g,1,none⟩=some (.int .i64 (n+1)):=blk_cell hs2 1)|(go_at_call 67;first|(refine (demand_ok 4 _).mono ?_;rintro e w' ⟨rfl,rfl⟩)|(refine (demand_no 4 _).mono ?_;rintro e w' ⟨rfl,rfl⟩)))
      simp [bodyPost]
      exact hba.trans (But.set wa 1 _)
     ·have hb3:decide (hdB s≥97)=true:=decide_eq_true hhi.1
      have hb4:decide (hdB s≤102)=false:=decide_eq_false hhi.2
      by_cases c1:hdB s≥120
      ·have hb5:decide (hdB s≥120)=true:=decide_eq_true c1
       have hb6:decide (hdB s≤122)=false:=decide_eq_false (fun h=>hv ⟨c1,h⟩)
       go_enter Tryz.func119,Tryz.ntmps119
       go_wp2_with (first|(go_at_call 144;refine (reader_next g s n _ hh).mono ?_;rintro e wa ⟨rfl,ha,hba⟩;have hc1:wa.cell? ⟨g,1,none⟩=some (.int .i64 n):=blk_cell ha 1;have hz:wa.frozen? ⟨g,1,none⟩=false:=(by simp [World.frozen?,ha,rdCells]);have hs2:=(blk_set2 ha (.int .i64 (n+1))).2;have hc2:(wa.setCell ⟨g,1,none⟩ (.int .i64 (n+1))).cell? ⟨g,1,none⟩=some (.int .i64 (n+1)):=blk_cell hs2 1)|(go_at_call 67;first|(refine (demand_ok 4 _).mono ?_;rintro e w' ⟨rfl,rfl⟩)|(refine (demand_no 4 _).mono ?_;rintro e w' ⟨rfl,rfl⟩)))
       simp [bodyPost]
       exact hba.trans (But.set wa 1 _)
      ·have hb5:decide (hdB s≥120)=false:=decide_eq_false c1
       go_enter Tryz.func119,Tryz.ntmps119
       go_wp2_with (first|(go_at_call 144;refine (reader_next g s n _ hh).mono ?_;rintro e wa ⟨rfl,ha,hba⟩;have hc1:wa.cell? ⟨g,1,none⟩=some (.int .i64 n):=blk_cell ha 1;have hz:wa.frozen? ⟨g,1,none⟩=false:=(by simp [World.frozen?,ha,rdCells]);have hs2:=(blk_set2 ha (.int .i64 (n+1))).2;have hc2:(wa.setCell ⟨g,1,none⟩ (.int .i64 (n+1))).cell? ⟨g,1,none⟩=some (.int .i64 (n+1)):=blk_cell hs2 1)|(go_at_call 67;first|(refine (demand_ok 4 _).mono ?_;rintro e w' ⟨rfl,rfl⟩)|(refine (demand_no 4 _).mono ?_;rintro e w' ⟨rfl,rfl⟩)))
       simp [bodyPost]
       exact hba.trans (But.set wa 1 _)
end Go.Proofs.YtaafeallcaiooaaGreat.Pr
