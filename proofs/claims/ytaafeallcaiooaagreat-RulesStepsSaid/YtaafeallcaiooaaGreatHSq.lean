import Derived.Shelf.SlIter.Collect
import Derived.RangeFuncBox
import Derived.RangeFuncLeaves
import Derived.Shelf.Abstract
import Derived.WalkKit
import Derived.OwnWalkIn
import Derived.TacticsInMore
import Derived.LoopNIn
import Derived.LoopIn
import Derived.RangeFuncBound
import Derived.Sort.OwnSorted
import Derived.Test.YtaafeallcaiooaaGreatIter
namespace Go.Proofs
open Go.RowKit Go.Shelf Go.Maps Go.Sort
attribute [local go_sem] Oper.semAt_some
theorem Sq.infoE:(Tryz.prog.info? 9).map (fun i=>(i.zero,i.size,i.bytes))=some (some (.string ⟨#[]⟩),1,16):=by kernel_rfl
theorem Sq.below_both {B:Nat} {w A C:World} (h:Below B w A) (h':Below B w C) (hs:A.heap.size≤C.heap.size):Below B A C :=
  ⟨h'.os.trans h.os.symm,h'.tape.trans h.tape.symm,h'.output.trans h.output.symm,hs,fun k hk=>(h'.block k hk).trans (h.block k hk).symm⟩
def Sq.upto {α:Type} (f:Nat→α) (k:Nat):List α:=(List.range k).map f
theorem Sq.upto_succ {α:Type} (f:Nat→α) (k:Nat):Sq.upto f (k+1)=Sq.upto f k++[f k]:=by simp [Sq.upto,List.range_succ]
theorem Sq.upto_length {α:Type} (f:Nat→α) (k:Nat):(Sq.upto f k).length=k:=by simp [Sq.upto]
theorem Sq.upto_all (zs:List (List UInt8)):Sq.upto (fun j=>zs[j]?.getD []) zs.length=zs:=by
  apply List.ext_getElem
  · simp [Sq.upto]
  · intro i h1 h2
    simp [Sq.upto,h2]
set_option maxRecDepth 100000 in
set_option maxHeartbeats 2000000 in
theorem Sq.values1_in (F:Fence) (n:Nat) (h7:F.fn 152) (hro:F.round=none) (hn:1≤n) (l Bs n₀ b off len cap:Nat) (zs:List (List UInt8)) (hreach:len * 16≤140737488351232) (hb:b < n₀) (J Jx:List (List UInt8)→World→Prop)
    (hY:∀ pre x W,J pre W→pre.length < len→YieldAt F (n - 1) Tryz.prog l #[encStr x] W fun e W' =>
      (e=.returned (.bool true)∧J (pre++[x]) W'∧Below n₀ W W')∨(e=.returned (.bool false)∧Jx (pre++[x]) W'))
    (W:World) (hBs:W.cell? ⟨Bs,0,none⟩=some (.slice (some ⟨b,off,none⟩) len cap)) (hc:∀ j,j < len→W.cell? ⟨b,off+j,none⟩=some (encStr (zs[j]?.getD []))) (h0:J [] W) :
    CallsIn F n Tryz.prog 152 #[.func (.yield l) #[] #[],.pointer (some ⟨Bs,0,none⟩)] W fun e W'=>(∃ v,e=.returned v) ∧
      ((∃ ys,ys=Sq.upto (fun j=>zs[j]?.getD []) len∧J ys W')∨(∃ pre,(∃ k,k≤len∧pre=Sq.upto (fun j=>zs[j]?.getD []) k)∧Jx pre W')):=by
  refine callsIn_of_wp Tryz.func152 rfl h7 ?_ hro
  simp only [Tryz.ntmps152,List.size_toArray,List.length_cons,List.length_nil,Nat.reduceAdd,Nat.reduceSub,Array.replicate_succ,Array.replicate_zero,List.push_toArray,List.append_toArray,List.nil_append,List.cons_append]
  gi_wp2
  gi_loopw [7] (fun i wr=>∃ k:Nat,k≤len∧i=.int .i64 k∧J (Sq.upto (fun j=>zs[j]?.getD []) k) wr∧Below n₀ W wr)
    (fun i _=>len - (intOf i).toNat)
  case atStart=>exact ⟨0,Nat.zero_le _,rfl,h0,Below.refl _ _⟩
  case round =>
    obtain ⟨k,hk,rfl,hJs,hnx⟩:=hrel
    have hcx:k < len→wr.cell? ⟨b,off+k,none⟩=some (encStr (zs[k]?.getD [])):=fun h=>(hnx.cell (p:=⟨b,off+k,none⟩) hb).trans (hc k h)
    by_cases hlt:k < len
    · obtain ⟨fn,tmps,assign,body,hy,hR⟩:=hY _ (zs[k]?.getD []) wr hJs (by rw [Sq.upto_length];exact hlt)
      have hcx':=hcx hlt
      gi_wp2
      refine hR.mono ?_
      rintro e W3 (⟨rfl,hJ3,hk3⟩|⟨rfl,hJx3⟩)
      · -- THE ROUND GOES ON
        gi_wp2
        go_roundw
        case rel=>exact ⟨k+1,by omega,by simp,by rw [Sq.upto_succ];exact hJ3,hnx.trans hk3⟩
        case measure=>simp [intOf];omega
      · gi_wp2
        refine bodyPost_ret (results_none rfl _ _ _) rfl ?_
        exact ⟨⟨_,rfl⟩,.inr ⟨_,⟨k+1,by omega,(Sq.upto_succ _ _).symm⟩,hJx3⟩⟩
    · obtain rfl:k=len:=by omega
      gi_wp2
      go_end0
      exact ⟨⟨_,rfl⟩,.inl ⟨_,rfl,hJs⟩⟩
theorem Sq.upto_take (zs:List (List UInt8)) {k:Nat} (hk:k≤zs.length):Sq.upto (fun j=>zs[j]?.getD []) k=zs.take k:=by
  apply List.ext_getElem
  · simp [Sq.upto,hk]
  · intro i h1 h2
    have:i < zs.length:=by simp [Sq.upto] at h1;omega
    simp [Sq.upto,this]
def Sq.Ints (n₀:Nat) (W:World) (sv:Value) (zs:List (List UInt8)):Prop :=
  (sv=.slice none 0 0∧zs=[])∨∃ b off cap,sv=.slice (some ⟨b,off,none⟩) zs.length cap∧b < n₀∧∀ j,j < zs.length→W.cell? ⟨b,off+j,none⟩=some (encStr (zs[j]?.getD []))
theorem Sq.Ints.below {n₀:Nat} {A B:World} (h:Below n₀ A B) {sv:Value} {zs:List (List UInt8)}:Sq.Ints n₀ A sv zs→Sq.Ints n₀ B sv zs
  | .inl e=>.inl e
  | .inr ⟨b,off,cap,e,hb,hc⟩=>.inr ⟨b,off,cap,e,hb,fun j hj=>(h.cell (p:=⟨b,off+j,none⟩) hb).trans (hc j hj)⟩
set_option maxRecDepth 100000 in
set_option maxHeartbeats 1000000 in
theorem Sq.values1_nil_in (F:Fence) (n:Nat) (h7:F.fn 152) (hro:F.round=none) (l Bs:Nat) (J:List (List UInt8)→World→Prop) (W:World) (hBs:W.cell? ⟨Bs,0,none⟩=some (.slice none 0 0)) (h0:J [] W) :
    CallsIn F n Tryz.prog 152 #[.func (.yield l) #[] #[],.pointer (some ⟨Bs,0,none⟩)] W fun e W'=>(∃ v,e=.returned v)∧J [] W':=by
  refine callsIn_of_wp Tryz.func152 rfl h7 ?_ hro
  simp only [Tryz.ntmps152,List.size_toArray,List.length_cons,List.length_nil,Nat.reduceAdd,Nat.reduceSub,Array.replicate_succ,Array.replicate_zero,List.push_toArray,List.append_toArray,List.nil_append,List.cons_append]
  gi_wp2
  gi_loopw [7] (fun i wr=>i=.int .i64 0∧J [] wr) (fun _ _=>0)
  case atStart=>exact ⟨rfl,h0⟩
  case round =>
    obtain ⟨rfl,hJs⟩:=hrel
    gi_wp2
    go_end0
    exact ⟨⟨_,rfl⟩,hJs⟩
set_option maxHeartbeats 1000000 in
theorem Sq.values_in (F:Fence) (n:Nat) (h5:F.fn 135) (hro:F.round=none) (a:Option Addr) (len cap:Nat) (w:World) :
    CallsIn F n Tryz.prog 135 #[.slice a len cap] w fun e w'=>e=.returned (.func (.func 152) #[] #[.pointer (some ⟨w.heap.size,0,none⟩)])∧w'=w.alloc (.cells #[.slice a len cap] 36):=by
  refine callsIn_of_wp Tryz.func135 rfl h5 ?_ hro
  simp only [Tryz.ntmps135,List.size_toArray,List.length_cons,List.length_nil,Nat.reduceAdd,Nat.reduceSub,Array.replicate_succ,Array.replicate_zero,List.push_toArray,List.append_toArray,List.nil_append,List.cons_append]
  gi_wp2
  go_ret
  exact ⟨rfl,rfl⟩
theorem Sq.values_stops (F:Fence) (n:Nat) (h7:F.fn 152) (hro:F.round=none) (hn:1≤n) (Bs n₀:Nat) (sv:Value) (zs:List (List UInt8)) (hreach:zs.length * 16≤140737488351232) (w:World) (hBs:Bs < w.heap.size) (hn₀:n₀≤w.heap.size)
    (hc:w.cell? ⟨Bs,0,none⟩=some sv) (hI:Sq.Ints n₀ w sv zs) :
    SeqStopsK F n Tryz.prog 152 #[.pointer (some ⟨Bs,0,none⟩)] (fun x:List UInt8=>#[encStr x]) (Below n₀) (fun ys=>ys=zs) (fun pre=>pre <+: zs) zs.length w:=fun l J Jx W hW _ _ hY h0=>by
  have hc':=(hW.cell (p:=⟨Bs,0,none⟩) hBs).trans hc
  rcases hI.below (hW.mono hn₀) with ⟨rfl,rfl⟩|⟨b,off,cap,rfl,hb,hcs⟩
  · exact (Sq.values1_nil_in F n h7 hro l Bs J W hc' h0).mono fun e W' ⟨he,hj⟩=>⟨he,.inl ⟨_,rfl,hj⟩⟩
  · refine (Sq.values1_in F n h7 hro hn l Bs n₀ b off zs.length cap zs hreach hb J Jx hY W hc' hcs h0).mono ?_
    rintro e W' ⟨he,⟨ys,rfl,hj⟩|⟨pre,⟨k,hk,rfl⟩,hj⟩⟩
    · exact ⟨he,.inl ⟨_,Sq.upto_all zs,hj⟩⟩
    · exact ⟨he,.inr ⟨_,by rw [Sq.upto_take zs hk];exact List.take_prefix _ _,hj⟩⟩
def Sq.apAssign:Code:=(Code.region 2 #[{ dst:=some 5,op:=Op.assign (Operand.tmp 7),type:=9,pos := "iter.go:51",after:=#[],guard:=none }] false)
def Sq.apBody:Code:=(Code.block 1 (Code.region 3 #[{ dst:=some 8,op:=Op.load 36 (Operand.tmp 2),type:=36,pos := "iter.go:52",after:=#[],guard:=none },{ dst:=some 9,op:=Op.move (Operand.tmp 5),type:=9,pos := "iter.go:52",after:=#[],guard:=none },{ dst:=some 10,op:=Op.buildSlice 36 1 #[(0,Operand.tmp 9)],type:=36,pos := "iter.go:52",after:=#[{ on:=1,ground:=Ground.data }],guard:=none },{ dst:=some 11,op:=Op.call { callee:=Callee.builtin Builtin.append,args:=#[Operand.tmp 8,Operand.tmp 10],argTypes:=#[36,36] },type:=36,pos := "iter.go:52",after:=#[{ on:=0,ground:=Ground.data },{ on:=2,ground:=Ground.data }],guard:=none },{ dst:=none,op:=Op.store 36 (Operand.tmp 2) (Operand.tmp 11),type:=0,pos := "iter.go:52",after:=#[{ on:=3,ground:=Ground.data },{ on:=3,ground:=Ground.chain },{ on:=0,ground:=Ground.phase },{ on:=1,ground:=Ground.phase },{ on:=2,ground:=Ground.phase },{ on:=3,ground:=Ground.phase }],guard:=none }] false))
def Sq.apRec (fn:FuncId) (sv:Value) (Bs D:Nat) (st:LoopState) (pend:Option Code):Loop :=
  { state:=st,pending:=pend,fn,tmps:=#[.slice none 0 0,sv,.pointer (some ⟨Bs,0,none⟩),undef,.slice none 0 0,undef,sv,undef,undef,undef,undef,undef,undef],params:=#[7],assign:=Sq.apAssign,body:=Sq.apBody,defers:=D }
structure Sq.ApAt (w0:World) (fn:FuncId) (sv:Value) (Bs l D:Nat) (ss:List (List UInt8)) (W:World):Prop where
  box:∃ v,W.heap[Bs]?=some (.cells #[v] 36 (0,0))∧W.ownsRow w0.heap.size 9 1 v ss.length (ss.map encStr)∧(v=.slice none 0 0↔ss=[])
  L:W.heap[l]?=some (.loop (Sq.apRec fn sv Bs D .ready none))
  K:W.heap[D]?=some (.deferred (some []))
  below:Below w0.heap.size w0 W
theorem Sq.ap_abides (w0:World) (fn:FuncId) (sv:Value) (Bs l D B:Nat) (hB:w0.heap.size≤B):AbidesFrom B (Sq.ApAt w0 fn sv Bs l D):=fun s W W' row h hg hrow=>by
  have hrow':∀ r,row=some r→∃ o:Obj,W.heap[r]?=some o∧o.isWalk=true:=fun r e=>(hrow r e).2
  obtain ⟨v,hv,hr,hn⟩:=h.box
  exact ⟨⟨v,(grownBy_keeps hg hrow' hv rfl).trans hv,ownsRow_abides_a hr hg hrow',hn⟩,(grownBy_keeps hg hrow' h.L rfl).trans h.L,(grownBy_keeps hg hrow' h.K rfl).trans h.K,
    h.below.grown hg h.below.size (fun k e=>Nat.le_trans hB (hrow k e).1)⟩
set_option maxRecDepth 100000 in
set_option maxHeartbeats 2000000 in
theorem Sq.apYield (F:Fence) (m:Nat) (w0:World) (fn:FuncId) (hfn:F.fn fn) (sv:Value) (Bs l D:Nat) (hBl:Bs≠l) (hDl:D≠l) (hDB:D≠Bs) (h0B:w0.heap.size≤Bs) (h0l:w0.heap.size≤l)
    (N:Nat) (hN:N≤maxLen) (hNb:N * 16≤140737488355328) (ss:List (List UInt8)) (x:List UInt8) (W:World) (h:Sq.ApAt w0 fn sv Bs l D ss W) (hlen:ss.length < N) :
    YieldAt F m Tryz.prog l #[encStr x] W fun e W'=>e=.returned (.bool true)∧Sq.ApAt w0 fn sv Bs l D (ss++[x]) W'∧KeepsWalks W W':=by
  have hne:(36:TypeId)≠9:=by decide
  obtain ⟨i0,hi,hz0,hz1,hz2⟩:=info_parts Sq.infoE
  obtain ⟨v,hv,hrow,_⟩:=h.box
  refine ⟨fn,#[.slice none 0 0,sv,.pointer (some ⟨Bs,0,none⟩),undef,.slice none 0 0,undef,sv,encStr x,undef,undef,undef,undef,undef],Sq.apAssign,Sq.apBody,by simpa [Sq.apRec] using run_yield (P:=Tryz.prog) (args:=#[encStr x]) h.L rfl,roundIn_of_wpIn hfn ?_⟩
  have hl:l < W.heap.size:=(Array.getElem?_eq_some_iff.1 h.L).1
  have hbr:=run_beginRound (P:=Tryz.prog) h.L rfl
  obtain ⟨W2,hW2⟩:∃ W2,W.putObj l (.loop { Sq.apRec fn sv Bs D .ready none with state:=.busy })=W2:=⟨_,rfl⟩
  rw [hW2] at hbr
  have hg2:W.grownBy W2 (some l):=by rw [←hW2];exact grownBy_putObj_a _ _ _
  have hk2:KeepsWalks W W2:=by rw [←hW2];exact KeepsWalks.putObj _ h.L rfl
  have hv2:W2.heap[Bs]?=some (.cells #[v] 36 (0,0)):=by rw [←hW2];exact (World.putObj_heap_other hBl).trans hv
  have hK2:W2.heap[D]?=some (.deferred (some [])):=by rw [←hW2];exact (World.putObj_heap_other hDl).trans h.K
  have hL2:W2.heap[l]?=some (.loop { Sq.apRec fn sv Bs D .ready none with state:=.busy }):=by rw [←hW2];exact World.putObj_heap_same hl
  have hrow2:W2.ownsRow w0.heap.size 9 1 v ss.length (ss.map encStr):=hrow.kept hg2 (ownsRow_ne_a hrow h.L (fun cur e=>by first|cases e|exact hne (Obj.cells.inj e).2.1))
  have hb2:Below w0.heap.size w0 W2:=h.below.grown hg2 h.below.size (fun k e=>by cases e;exact h0l)
  obtain ⟨hc2,hf2⟩:=cell_of_box_a hv2
  have hBlt:Bs < W2.heap.size:=(Array.getElem?_eq_some_iff.1 hv2).1
  have hl2:l < W2.heap.size:=(Array.getElem?_eq_some_iff.1 hL2).1
  have hDlt:D < W2.heap.size:=(Array.getElem?_eq_some_iff.1 hK2).1
  have ne_of:∀ {j:Nat} {o:Obj},W2.heap[j]?=some o→(∀ cur,o≠.cells cur 9 (0,0))→some j≠v.ownBlock:=fun hj hno=>by
    rcases ownsRow_ne_a hrow2 hj hno with e|e
    · rw [e];simp
    · exact fun e'=>e e'.symm
  clear hW2
  unfold Sq.apAssign
  gi_wp2_with (rw [Oper.semAt_eq _ _ _ (fun c h=>by cases h)];go_simp;try go_bits)
  unfold Sq.apBody
  gi_wp2_with (first
    | (gi_at_builtin;refine wpListIn_append_own _ rfl _ _ 36 rfl w0.heap.size 9 i0 (.string ⟨#[]⟩) 1 16 Tryz.underlying36 hi hz0 hz1 hz2 rfl (by decide) _ _ _ rfl (hrow2.alloc _) ⟨W2.heap.size,0,none⟩ 1 1 [encStr x] rfl rfl (cell_one_new _ _ _) (by simp [Value.oneCell',encStr]) (by omega) (by omega) (by have:=hb2.size;simp;omega) ?_;intro v' w3 hown' hg3 hnil3
       have hv3:w3.heap[Bs]?=some (.cells #[v] 36 (0,0)):=(hg3.block Bs (by simp;omega) (ne_of hv2 (fun cur e=>by first|cases e|exact hne (Obj.cells.inj e).2.1))).trans ((Below.heap_alloc _ _ Bs hBlt).trans hv2)
       obtain ⟨hc3,hf3⟩:=cell_of_box_a hv3
       obtain ⟨g',cap',cur',rfl,hbase',hgb',hr1,hr2,hr3,hr4⟩:∃ g' cap' cur',v'=.slice (some ⟨g',0,none⟩) (ss.length+1) cap'∧w0.heap.size≤g'∧w3.heap[g']?=some (.cells cur' 9 (0,0))∧ss.length+1≤cap'∧cap'≤maxLen∧cur'.size=cap' * 1∧cur'.toList.take ((ss.length+1) * 1)=ss.map encStr++[encStr x]:=by
         rcases hown'.2 with ⟨_,h0⟩|h'
         · exact absurd h0 (by omega)
         · exact h'
       go_frame)
    | (rw [Oper.semAt_eq _ _ _ (fun c h=>by cases h)];go_simp;try go_bits))
  have hg3':(W2.alloc (.cells #[encStr x] 9)).grownBy w3 v.ownBlock:=hg3
  have hL3:w3.heap[l]?=some (.loop { Sq.apRec fn sv Bs D .ready none with state:=.busy }):=(hg3'.block l (by simp;omega) (ne_of hL2 (fun cur e=>by first|cases e|exact hne (Obj.cells.inj e).2.1))).trans ((Below.heap_alloc _ _ l hl2).trans hL2)
  have hK3:w3.heap[D]?=some (.deferred (some [])):=(hg3'.block D (by simp;omega) (ne_of hK2 (fun cur e=>by first|cases e|exact hne (Obj.cells.inj e).2.1))).trans ((Below.heap_alloc _ _ D hDlt).trans hK2)
  obtain ⟨w4,hw4⟩:∃ w4,w3.setCell ⟨Bs,0,none⟩ (.slice (some ⟨g',0,none⟩) (ss.length+1) cap')=w4:=⟨_,rfl⟩
  rw [hw4]
  have hg4:w3.grownBy w4 (some Bs):=by rw [←hw4];exact grownBy_setCell0_a _ _ _
  have hv4:w4.heap[Bs]?=some (.cells #[.slice (some ⟨g',0,none⟩) (ss.length+1) cap'] 36 (0,0)):=by rw [←hw4];exact heap_setCell_box_a _ hv3
  have hL4:w4.heap[l]?=some (.loop { Sq.apRec fn sv Bs D .ready none with state:=.busy }):=(hg4.block l (Array.getElem?_eq_some_iff.1 hL3).1 (fun e=>hBl (by cases e;rfl))).trans hL3
  have hK4:w4.heap[D]?=some (.deferred (some [])):=(hg4.block D (Array.getElem?_eq_some_iff.1 hK3).1 (fun e=>hDB (by cases e;rfl))).trans hK3
  have hrow4:=hown'.kept hg4 (ownsRow_ne_a hown' hv3 (fun cur e=>by first|cases e|exact hne (Obj.cells.inj e).2.1))
  have hl4:l < w4.heap.size:=(Array.getElem?_eq_some_iff.1 hL4).1
  have hb3:Below w0.heap.size w0 w3:=(hb2.alloc hb2.size _).grown hg3' (by have:=hb2.size;simp;omega) (fun k e=>(hrow2.lt k e).1)
  have hb4:Below w0.heap.size w0 w4:=hb3.grown hg4 hb3.size (fun k e=>by cases e;exact h0B)
  have hk4:KeepsWalks W w4:=((hk2.trans (KeepsWalks.alloc _ _)).trans (KeepsWalks.of_grownBy hg3' (ownsRow_not_walk_a (hrow2.alloc _)))).trans (by rw [←hw4];exact KeepsWalks.setCell _ _ _)
  clear hw4
  refine ⟨_,_,run_endRound none hL4,rfl,⟨⟨_,(World.putObj_heap_other hBl).trans hv4,?_,by simp⟩,World.putObj_heap_same hl4,(World.putObj_heap_other hDl).trans hK4,hb4.grown (grownBy_putObj_a _ _ _) hb4.size (fun k e=>by cases e;exact h0l)⟩,hk4.trans (KeepsWalks.putObj _ hL4 rfl)⟩
  have:=hrow4.kept (grownBy_putObj_a w4 l (.loop { { Sq.apRec fn sv Bs D .ready none with state:=.busy } with state:=if (none:Option Code).isNone then .ready else .done,pending:=none })) (ownsRow_ne_a hrow4 hL4 (fun cur e=>by first|cases e|exact hne (Obj.cells.inj e).2.1))
  simpa using this
set_option maxRecDepth 100000 in
set_option maxHeartbeats 2000000 in
theorem Sq.appendSeq_in (F:Fence) (n:Nat) (h11:F.fn 153) (hro:F.round=none) (hn:2≤n) (g:Nat) (lb:Array Value) (hFg:F.fn g) (eg:∀ args w,(callFunc g args).run Tryz.prog w=.ok (.enter g args) w)
    (S Sp:List (List UInt8)→Prop) (N:Nat) (hN:N≤maxLen) (hNb:N * 16≤140737488355328) (w:World) (hseq:SeqStopsK F (n - 1) Tryz.prog g lb (fun x:List UInt8=>#[encStr x]) (Below w.heap.size) S Sp N w) :
    CallsIn F n Tryz.prog 153 #[.slice none 0 0,.func (.func g) #[] lb] w fun e w'=>∃ (v:Value) (ss:List (List UInt8)),e=.returned v∧S ss∧w'.ownsRow w.heap.size 9 1 v ss.length (ss.map encStr)∧(v=.slice none 0 0↔ss=[])∧Below w.heap.size w w':=by
  have h1:1≤n:=by omega
  have hne:(36:TypeId)≠9:=by decide
  refine callsIn_of_wp_marks Tryz.func153 rfl h11 ?_ hro
  simp only [Tryz.ntmps153,List.size_toArray,List.length_cons,List.length_nil,Nat.reduceAdd,Nat.reduceSub,Array.replicate_succ,Array.replicate_zero,List.push_toArray,List.append_toArray,List.nil_append,List.cons_append]
  gi_wp2
  refine wpIn_rangeFunc ?_
  intro fn hfn
  rw [hro]
  obtain ⟨W0,hW0⟩:∃ W0,w.alloc (.cells #[.slice none 0 0] 36)=W0:=⟨_,rfl⟩
  have hs0:W0.heap.size=w.heap.size+1:=by rw [←hW0];simp
  have hv0:W0.heap[w.heap.size]?=some (.cells #[.slice none 0 0] 36 (0,0)):=by rw [←hW0];exact World.alloc_heap_new w _
  have hb0:Below w.heap.size w W0:=by rw [←hW0];exact (Below.refl _ w).alloc (Nat.le_refl _) _
  rw [hW0]
  obtain ⟨W1,hW1⟩:∃ W1,(W0.alloc (.deferred (some []))).alloc (.loop (Sq.apRec fn (.func (.func g) #[] lb) w.heap.size W0.heap.size .ready none))=W1:=⟨_,rfl⟩
  have hold:∀ k,k < W0.heap.size→W1.heap[k]?=W0.heap[k]?:=fun k hk=>by
    rw [←hW1];exact (Below.heap_alloc _ _ k (by simp;omega)).trans (Below.heap_alloc _ _ k hk)
  have hb1:Below w.heap.size w W1:=by rw [←hW1];exact (hb0.alloc hb0.size _).alloc (by have:=hb0.size;simp;omega) _
  have hs1:W1.heap.size=W0.heap.size+2:=by rw [←hW1];simp
  have hM:Sq.ApAt w fn (.func (.func g) #[] lb) w.heap.size (W0.heap.size+1) W0.heap.size [] W1 :=
    ⟨⟨_,(hold w.heap.size (by omega)).trans hv0,⟨rfl,.inl ⟨rfl,rfl⟩⟩,by simp⟩,
     by rw [←hW1];have:=World.alloc_heap_new (W0.alloc (.deferred (some []))) (.loop (Sq.apRec fn (.func (.func g) #[] lb) w.heap.size W0.heap.size .ready none));rwa [World.size_alloc] at this,
     by rw [←hW1];exact (Below.heap_alloc _ _ _ (by simp)).trans (World.alloc_heap_new W0 _),hb1⟩
  refine ⟨W0.heap.size+1,[{ target:=.collected W0.heap.size,args:=#[] }],W1,{ target:=.fn (.func g) lb,args:=#[.func (.yield (W0.heap.size+1)) #[] #[]] },W1,g,
    #[.func (.yield (W0.heap.size+1)) #[] #[]]++lb,W1,?_,?_,?_,?_,fun _=>h1,?_⟩
  · rw [←hW1];exact run_enterLoop_outer _ _ _ _ _
  · simp [resolve,go_sem]
  · intro f' hf';simp [Target.leads] at hf';subst hf';exact hFg
  · simp [invoke,go_sem,eg]
  · refine (hseq (W0.heap.size+1) (Sq.ApAt w fn (.func (.func g) #[] lb) w.heap.size (W0.heap.size+1) W0.heap.size) (fun _ _=>False) W1 hb1 (Sq.ap_abides _ _ _ _ _ _ _ hb1.size) (fun _ _ _ _ h _ _=>h)
      (fun pre x W hJ hl=>(Sq.apYield F (n - 1 - 1) w fn hfn _ w.heap.size (W0.heap.size+1) W0.heap.size (by omega) (by omega) (by omega) (Nat.le_refl _) (by omega) N hN hNb pre x W hJ hl).mono fun e W' ⟨he,ha,hk⟩=>.inl ⟨he,ha,Sq.below_both hJ.below ha.below hk.size⟩) hM).mono ?_
    rintro e W2 ⟨⟨v0,rfl⟩,⟨ss,hS,h2⟩|⟨_,_,h2⟩⟩
    rotate_left
    · exact h2.elim
    obtain ⟨v,hv,hrow,hnil⟩:=h2.box
    have hend:=run_endLoop (P:=Tryz.prog) h2.L (by simp [Sq.apRec])
    obtain ⟨W3,hW3⟩:∃ W3,W2.putObj (W0.heap.size+1) (.loop { Sq.apRec fn (.func (.func g) #[] lb) w.heap.size W0.heap.size .ready none with state:=.exhausted })=W3:=⟨_,rfl⟩
    rw [hW3] at hend
    have hg3:W2.grownBy W3 (some (W0.heap.size+1)):=by rw [←hW3];exact grownBy_putObj_a _ _ _
    have hv3:W3.heap[w.heap.size]?=some (.cells #[v] 36 (0,0)):=by rw [←hW3];exact (World.putObj_heap_other (by omega)).trans hv
    have hK3:W3.heap[W0.heap.size]?=some (.deferred (some [])):=by rw [←hW3];exact (World.putObj_heap_other (by omega)).trans h2.K
    have hrow3:=hrow.kept hg3 (ownsRow_ne_a hrow h2.L (fun cur e=>by first|cases e|exact hne (Obj.cells.inj e).2.1))
    have hb3:Below w.heap.size w W3:=h2.below.grown hg3 h2.below.size (fun k e=>by cases e;omega)
    obtain ⟨hc3,hf3⟩:=cell_of_box_a hv3
    clear hW3
    refine ⟨none,W3,hend,?_⟩
    gi_wp2
    rw [←hs0]
    refine ⟨by simp,.inl ⟨_,_,rfl,run_takeDeferred hK3,?_⟩⟩
    exact ⟨_,results_tmp rfl _ _ _,v,ss,rfl,hS,hrow3.kept (grownBy_putObj_a _ _ _) (ownsRow_ne_a hrow3 hK3 (fun cur e=>by first|cases e|exact hne (Obj.cells.inj e).2.1)),hnil,hb3.grown (grownBy_putObj_a _ _ _) hb3.size (fun k e=>by cases e;omega)⟩
set_option maxHeartbeats 1000000 in
theorem Sq.collect_in (F:Fence) (n:Nat) (h8:F.fn 149) (h11:F.fn 153) (hro:F.round=none) (hn:3≤n) (g:Nat) (lb:Array Value) (hFg:F.fn g) (eg:∀ args w,(callFunc g args).run Tryz.prog w=.ok (.enter g args) w)
    (S Sp:List (List UInt8)→Prop) (N:Nat) (hN:N≤maxLen) (hNb:N * 16≤140737488355328) (w:World) (hseq:SeqStopsK F (n - 1 - 1) Tryz.prog g lb (fun x:List UInt8=>#[encStr x]) (Below w.heap.size) S Sp N w) :
    CallsIn F n Tryz.prog 149 #[.func (.func g) #[] lb] w fun e w'=>∃ (v:Value) (ss:List (List UInt8)),e=.returned v∧S ss∧w'.ownsRow w.heap.size 9 1 v ss.length (ss.map encStr)∧(v=.slice none 0 0↔ss=[])∧Below w.heap.size w w':=by
  have h1:1≤n:=by omega
  refine callsIn_of_wp Tryz.func149 rfl h8 ?_ hro
  simp only [Tryz.ntmps149,List.size_toArray,List.length_cons,List.length_nil,Nat.reduceAdd,Nat.reduceSub,Array.replicate_succ,Array.replicate_zero,List.push_toArray,List.append_toArray,List.nil_append,List.cons_append]
  gi_wp2_with (gi_at_call 153;refine (Sq.appendSeq_in F (n - 1) h11 hro (by omega) g lb hFg eg S Sp N hN hNb _ hseq).mono ?_;rintro e w' ⟨v,ss,rfl,hS,hrow,hnil,hb⟩)
  go_ret
  exact ⟨v,ss,rfl,hS,hrow,hnil,hb⟩
set_option maxHeartbeats 4000000 in
theorem Sq.sorted_any (sv:Value) (zs:List (List UInt8)) (w:World) (hreach:zs.length * 16≤140737488351232) (hI:Sq.Ints w.heap.size w sv zs) :
    Calls Tryz.prog 132 #[.func (.func 152) #[] #[.pointer (some ⟨w.heap.size,0,none⟩)]] (w.alloc (.cells #[sv] 36)) fun e w'=>∃ v:Value,e=.returned v ∧
      w'.ownsRow (w.heap.size+1) 9 1 v zs.length ((zs.mergeSort (fun x y=>decide (x≤y))).map encStr)∧(v=.slice none 0 0↔zs=[])∧Below (w.heap.size+1) (w.alloc (.cells #[sv] 36)) w':=by
  have hmax:zs.length≤maxLen:=by unfold maxLen;omega
  obtain ⟨w1,hw1⟩:∃ w1,w1=w.alloc (.cells #[sv] 36):=⟨_,rfl⟩
  have hsz:w1.heap.size=w.heap.size+1:=by rw [hw1];simp
  have hbox:w1.cell? ⟨w.heap.size,0,none⟩=some sv:=by rw [hw1];simp
  have hI1:Sq.Ints w1.heap.size w1 sv zs:=by
    have h2:Sq.Ints w.heap.size w1 sv zs:=hI.below (by rw [hw1];exact (Below.refl _ w).alloc (Nat.le_refl _) _)
    rcases h2 with h|⟨b,off,cap,h1,h2,h3⟩
    · exact .inl h
    · exact .inr ⟨b,off,cap,h1,by omega,h3⟩
  rw [←hw1,←hsz]
  have hseq:∀ n,1≤n→SeqStopsK Fence.wide n Tryz.prog 152 #[.pointer (some ⟨w.heap.size,0,none⟩)] (fun x:List UInt8=>#[encStr x]) (Below w1.heap.size) (fun ys=>ys=zs) (fun pre=>pre <+: zs) zs.length w1 :=
    fun n hn=>Sq.values_stops Fence.wide n trivial rfl hn w.heap.size w1.heap.size sv zs hreach w1 (by omega) (Nat.le_refl _) hbox hI1
  clear hw1 hI hI1 hbox
  have e7:=enters_of (P:=Tryz.prog) Tryz.func152 (by kernel_rfl) rfl
  have cC:=Sq.collect_in Fence.wide 5 trivial trivial rfl (by omega) 152 #[.pointer (some ⟨w.heap.size,0,none⟩)] trivial e7 _ _ zs.length hmax (by omega) w1 (hseq _ (by omega))
  have cC:=callsIn_wide.1 cC
  clear hseq e7 hsz
  go_enter Tryz.func132,Tryz.ntmps132
  go_wp2_with (go_at_call 149;refine cC.mono ?_;rintro e W ⟨v,ss,rfl,rfl,hrow,hnil,hb⟩)
  rcases hrow.2 with ⟨rfl,hz⟩|⟨gb,cap,cur,rfl,hbase,hgb,r1,r2,r3,r4⟩
  · have hss:ss=[]:=List.eq_nil_of_length_eq_zero hz
    subst hss
    go_wp2_with (go_at_call 150;refine (callsIn_wide.1 ((Tryz.sorts132 5).2 none 0 W)).mono ?_;rintro e w' ⟨rfl,rfl⟩)
    go_ret
    exact ⟨.slice none 0 0,rfl,by simpa using hrow,by simp,hb⟩
  · have hH:Holds encStr W gb 0 ss.toArray:=holds_of_block hgb (by simpa using r4)
    have hgl:gb < W.heap.size:=(Array.getElem?_eq_some_iff.1 hgb).1
    have cS:=callsIn_wide.1 ((Tryz.sorts132 5).1 gb 0 cap ss W hH hgl (by omega))
    go_wp2_with (go_at_call 150;refine cS.mono ?_;rintro e w' ⟨rfl,nn,os,rfl⟩)
    go_ret
    exact ⟨_,rfl,ownsRow_sorted (by simp) hbase hgb r1 r2 r3,hnil,hb.grown (grownBy_sorted _) hb.size (fun j hj=>by cases hj;exact hbase)⟩
end Go.Proofs
