/- Reach. -/
import Derived.Shelf.SlIter.Collect
import Derived.RangeFuncBox
import Derived.RangeFuncLeaves
import Derived.Shelf.Abstract
import Derived.WalkKit
import Derived.OwnWalkIn
import Derived.TacticsInMore
import Derived.LoopNIn
import Derived.LoopIn
import Derived.RangeFuncBound
import Derived.Sort.OwnSorted
import Derived.Test.YtaafeallcaiooaaGreatHNe
import Derived.Test.YtaafeallcaiooaaGreatHOt
import Derived.Test.YtaafeallcaiooaaGreatHQa
namespace Go.Proofs
open Go.RowKit Go.Shelf Go.Maps Go.Sort
attribute [local go_sem] Oper.semAt_some
theorem Sq.infoE:(Tryz.prog.info? 9).map (fun i=>(i.zero,i.size,i.bytes))=some (some (.string ⟨#[]⟩),1,16):=by kernel_rfl
theorem Sq.below_both {B:Nat} {w A C:World} (h:Below B w A) (h':Below B w C) (hs:A.heap.size≤C.heap.size):Below B A C :=
  ⟨h'.os.trans h.os.symm,h'.tape.trans h.tape.symm,h'.output.trans h.output.symm,hs,fun k hk=>(h'.block k hk).trans (h.block k hk).symm⟩
def Sq.upto {α:Type} (f:Nat→α) (k:Nat):List α:=(List.range k).map f
theorem Sq.upto_succ {α:Type} (f:Nat→α) (k:Nat):Sq.upto f (k+1)=Sq.upto f k++[f k]:=by simp [Sq.upto,List.range_succ]
theorem Sq.upto_length {α:Type} (f:Nat→α) (k:Nat):(Sq.upto f k).length=k:=by simp [Sq.upto]
theorem Sq.upto_all (zs:List (List UInt8)):Sq.upto (fun j=>zs[j]?.getD []) zs.length=zs:=by
  apply List.ext_getElem
  · simp [Sq.upto]
  · intro i h1 h2
    simp [Sq.upto,h2]
set_option maxRecDepth 100000 in
set_option maxHeartbeats 2000000 in
theorem Sq.values1_in (F:Fence) (n:Nat) (h7:F.fn 152) (hro:F.round=none) (hn:1≤n) (l Bs n₀ b off len cap:Nat) (zs:List (List UInt8)) (hreach:len * 16≤140737488351232) (hb:b < n₀) (J Jx:List (List UInt8)→World→Prop)
    (hY:∀ pre x W,J pre W→pre.length < len→YieldAt F (n - 1) Tryz.prog l #[encStr x] W fun e W' =>
      (e=.returned (.bool true)∧J (pre++[x]) W'∧Below n₀ W W')∨(e=.returned (.bool false)∧Jx (pre++[x]) W'))
    (W:World) (hBs:W.cell? ⟨Bs,0,none⟩=some (.slice (some ⟨b,off,none⟩) len cap)) (hc:∀ j,j < len→W.cell? ⟨b,off+j,none⟩=some (encStr (zs[j]?.getD []))) (h0:J [] W) :
    CallsIn F n Tryz.prog 152 #[.func (.yield l) #[] #[],.pointer (some ⟨Bs,0,none⟩)] W fun e W'=>(∃ v,e=.returned v) ∧
      ((∃ ys,ys=Sq.upto (fun j=>zs[j]?.getD []) len∧J ys W')∨(∃ pre,(∃ k,k≤len∧pre=Sq.upto (fun j=>zs[j]?.getD []) k)∧Jx pre W')):=by
  refine callsIn_of_wp Tryz.func152 rfl h7 ?_ hro
  simp only [Tryz.ntmps152,List.size_toArray,List.length_cons,List.length_nil,Nat.reduceAdd,Nat.reduceSub,Array.replicate_succ,Array.replicate_zero,List.push_toArray,List.append_toArray,List.nil_append,List.cons_append]
  gi_wp2
  gi_loopw [7] (fun i wr=>∃ k:Nat,k≤len∧i=.int .i64 k∧J (Sq.upto (fun j=>zs[j]?.getD []) k) wr∧Below n₀ W wr)
    (fun i _=>len - (intOf i).toNat)
  case atStart=>exact ⟨0,Nat.zero_le _,rfl,h0,Below.refl _ _⟩
  case round =>
    obtain ⟨k,hk,rfl,hJs,hnx⟩:=hrel
    have hcx:k < len→wr.cell? ⟨b,off+k,none⟩=some (encStr (zs[k]?.getD [])):=fun h=>(hnx.cell (p:=⟨b,off+k,none⟩) hb).trans (hc k h)
    by_cases hlt:k < len
    · obtain ⟨fn,tmps,assign,body,hy,hR⟩:=hY _ (zs[k]?.getD []) wr hJs (by rw [Sq.upto_length];exact hlt)
      have hcx':=hcx hlt
      gi_wp2
      refine hR.mono ?_
      rintro e W3 (⟨rfl,hJ3,hk3⟩|⟨rfl,hJx3⟩)
      · -- THE ROUND GOES ON
        gi_wp2
        go_roundw
        case rel=>exact ⟨k+1,by omega,by simp,by rw [Sq.upto_succ];exact hJ3,hnx.trans hk3⟩
        case measure=>simp [intOf];omega
      · gi_wp2
        refine bodyPost_ret (results_none rfl _ _ _) rfl ?_
        exact ⟨⟨_,rfl⟩,.inr ⟨_,⟨k+1,by omega,(Sq.upto_succ _ _).symm⟩,hJx3⟩⟩
    · obtain rfl:k=len:=by omega
      gi_wp2
      go_end0
      exact ⟨⟨_,rfl⟩,.inl ⟨_,rfl,hJs⟩⟩
theorem Sq.upto_take (zs:List (List UInt8)) {k:Nat} (hk:k≤zs.length):Sq.upto (fun j=>zs[j]?.getD []) k=zs.take k:=by
  apply List.ext_getElem
  · simp [Sq.upto,hk]
  · intro i h1 h2
    have:i < zs.length:=by simp [Sq.upto] at h1;omega
    simp [Sq.upto,this]
def Sq.Ints (n₀:Nat) (W:World) (sv:Value) (zs:List (List UInt8)):Prop :=
  (sv=.slice none 0 0∧zs=[])∨∃ b off cap,sv=.slice (some ⟨b,off,none⟩) zs.length cap∧b < n₀∧∀ j,j < zs.length→W.cell? ⟨b,off+j,none⟩=some (encStr (zs[j]?.getD []))
theorem Sq.Ints.below {n₀:Nat} {A B:World} (h:Below n₀ A B) {sv:Value} {zs:List (List UInt8)}:Sq.Ints n₀ A sv zs→Sq.Ints n₀ B sv zs
  | .inl e=>.inl e
  | .inr ⟨b,off,cap,e,hb,hc⟩=>.inr ⟨b,off,cap,e,hb,fun j hj=>(h.cell (p:=⟨b,off+j,none⟩) hb).trans (hc j hj)⟩
set_option maxRecDepth 100000 in
set_option maxHeartbeats 1000000 in
theorem Sq.values1_nil_in (F:Fence) (n:Nat) (h7:F.fn 152) (hro:F.round=none) (l Bs:Nat) (J:List (List UInt8)→World→Prop) (W:World) (hBs:W.cell? ⟨Bs,0,none⟩=some (.slice none 0 0)) (h0:J [] W) :
    CallsIn F n Tryz.prog 152 #[.func (.yield l) #[] #[],.pointer (some ⟨Bs,0,none⟩)] W fun e W'=>(∃ v,e=.returned v)∧J [] W':=by
  refine callsIn_of_wp Tryz.func152 rfl h7 ?_ hro
  simp only [Tryz.ntmps152,List.size_toArray,List.length_cons,List.length_nil,Nat.reduceAdd,Nat.reduceSub,Array.replicate_succ,Array.replicate_zero,List.push_toArray,List.append_toArray,List.nil_append,List.cons_append]
  gi_wp2
  gi_loopw [7] (fun i wr=>i=.int .i64 0∧J [] wr) (fun _ _=>0)
  case atStart=>exact ⟨rfl,h0⟩
  case round =>
    obtain ⟨rfl,hJs⟩:=hrel
    gi_wp2
    go_end0
    exact ⟨⟨_,rfl⟩,hJs⟩
set_option maxHeartbeats 1000000 in
theorem Sq.values_in (F:Fence) (n:Nat) (h5:F.fn 135) (hro:F.round=none) (a:Option Addr) (len cap:Nat) (w:World) :
    CallsIn F n Tryz.prog 135 #[.slice a len cap] w fun e w'=>e=.returned (.func (.func 152) #[] #[.pointer (some ⟨w.heap.size,0,none⟩)])∧w'=w.alloc (.cells #[.slice a len cap] 36):=by
  refine callsIn_of_wp Tryz.func135 rfl h5 ?_ hro
  simp only [Tryz.ntmps135,List.size_toArray,List.length_cons,List.length_nil,Nat.reduceAdd,Nat.reduceSub,Array.replicate_succ,Array.replicate_zero,List.push_toArray,List.append_toArray,List.nil_append,List.cons_append]
  gi_wp2
  go_ret
  exact ⟨rfl,rfl⟩
theorem Sq.values_stops (F:Fence) (n:Nat) (h7:F.fn 152) (hro:F.round=none) (hn:1≤n) (Bs n₀:Nat) (sv:Value) (zs:List (List UInt8)) (hreach:zs.length * 16≤140737488351232) (w:World) (hBs:Bs < w.heap.size) (hn₀:n₀≤w.heap.size)
    (hc:w.cell? ⟨Bs,0,none⟩=some sv) (hI:Sq.Ints n₀ w sv zs) :
    SeqStopsK F n Tryz.prog 152 #[.pointer (some ⟨Bs,0,none⟩)] (fun x:List UInt8=>#[encStr x]) (Below n₀) (fun ys=>ys=zs) (fun pre=>pre <+: zs) zs.length w:=fun l J Jx W hW _ _ hY h0=>by
  have hc':=(hW.cell (p:=⟨Bs,0,none⟩) hBs).trans hc
  rcases hI.below (hW.mono hn₀) with ⟨rfl,rfl⟩|⟨b,off,cap,rfl,hb,hcs⟩
  · exact (Sq.values1_nil_in F n h7 hro l Bs J W hc' h0).mono fun e W' ⟨he,hj⟩=>⟨he,.inl ⟨_,rfl,hj⟩⟩
  · refine (Sq.values1_in F n h7 hro hn l Bs n₀ b off zs.length cap zs hreach hb J Jx hY W hc' hcs h0).mono ?_
    rintro e W' ⟨he,⟨ys,rfl,hj⟩|⟨pre,⟨k,hk,rfl⟩,hj⟩⟩
    · exact ⟨he,.inl ⟨_,Sq.upto_all zs,hj⟩⟩
    · exact ⟨he,.inr ⟨_,by rw [Sq.upto_take zs hk];exact List.take_prefix _ _,hj⟩⟩
def Sq.apAssign:Code:=(Code.region 2 #[{ dst:=some 5,op:=Op.assign (Operand.tmp 7),type:=9,pos := "iter.go:51",after:=#[],guard:=none }] false)
def Sq.apBody:Code:=(Code.block 1 (Code.region 3 #[{ dst:=some 8,op:=Op.load 36 (Operand.tmp 2),type:=36,pos := "iter.go:52",after:=#[],guard:=none },{ dst:=some 9,op:=Op.move (Operand.tmp 5),type:=9,pos := "iter.go:52",after:=#[],guard:=none },{ dst:=some 10,op:=Op.buildSlice 36 1 #[(0,Operand.tmp 9)],type:=36,pos := "iter.go:52",after:=#[{ on:=1,ground:=Ground.data }],guard:=none },{ dst:=some 11,op:=Op.call { callee:=Callee.builtin Builtin.append,args:=#[Operand.tmp 8,Operand.tmp 10],argTypes:=#[36,36] },type:=36,pos := "iter.go:52",after:=#[{ on:=0,ground:=Ground.data },{ on:=2,ground:=Ground.data }],guard:=none },{ dst:=none,op:=Op.store 36 (Operand.tmp 2) (Operand.tmp 11),type:=0,pos := "iter.go:52",after:=#[{ on:=3,ground:=Ground.data },{ on:=3,ground:=Ground.chain },{ on:=0,ground:=Ground.phase },{ on:=1,ground:=Ground.phase },{ on:=2,ground:=Ground.phase },{ on:=3,ground:=Ground.phase }],guard:=none }] false))
def Sq.apRec (fn:FuncId) (sv:Value) (Bs D:Nat) (st:LoopState) (pend:Option Code):Loop :=
  { state:=st,pending:=pend,fn,tmps:=#[.slice none 0 0,sv,.pointer (some ⟨Bs,0,none⟩),undef,.slice none 0 0,undef,sv,undef,undef,undef,undef,undef,undef],params:=#[7],assign:=Sq.apAssign,body:=Sq.apBody,defers:=D }
structure Sq.ApAt (w0:World) (fn:FuncId) (sv:Value) (Bs l D:Nat) (ss:List (List UInt8)) (W:World):Prop where
  box:∃ v,W.heap[Bs]?=some (.cells #[v] 36 (0,0))∧W.ownsRow w0.heap.size 9 1 v ss.length (ss.map encStr)∧(v=.slice none 0 0↔ss=[])
  L:W.heap[l]?=some (.loop (Sq.apRec fn sv Bs D .ready none))
  K:W.heap[D]?=some (.deferred (some []))
  below:Below w0.heap.size w0 W
theorem Sq.ap_abides (w0:World) (fn:FuncId) (sv:Value) (Bs l D B:Nat) (hB:w0.heap.size≤B):AbidesFrom B (Sq.ApAt w0 fn sv Bs l D):=fun s W W' row h hg hrow=>by
  have hrow':∀ r,row=some r→∃ o:Obj,W.heap[r]?=some o∧o.isWalk=true:=fun r e=>(hrow r e).2
  obtain ⟨v,hv,hr,hn⟩:=h.box
  exact ⟨⟨v,(grownBy_keeps hg hrow' hv rfl).trans hv,ownsRow_abides_a hr hg hrow',hn⟩,(grownBy_keeps hg hrow' h.L rfl).trans h.L,(grownBy_keeps hg hrow' h.K rfl).trans h.K,
    h.below.grown hg h.below.size (fun k e=>Nat.le_trans hB (hrow k e).1)⟩
set_option maxRecDepth 100000 in
set_option maxHeartbeats 2000000 in
theorem Sq.apYield (F:Fence) (m:Nat) (w0:World) (fn:FuncId) (hfn:F.fn fn) (sv:Value) (Bs l D:Nat) (hBl:Bs≠l) (hDl:D≠l) (hDB:D≠Bs) (h0B:w0.heap.size≤Bs) (h0l:w0.heap.size≤l)
    (N:Nat) (hN:N≤maxLen) (hNb:N * 16≤140737488355328) (ss:List (List UInt8)) (x:List UInt8) (W:World) (h:Sq.ApAt w0 fn sv Bs l D ss W) (hlen:ss.length < N) :
    YieldAt F m Tryz.prog l #[encStr x] W fun e W'=>e=.returned (.bool true)∧Sq.ApAt w0 fn sv Bs l D (ss++[x]) W'∧KeepsWalks W W':=by
  have hne:(36:TypeId)≠9:=by decide
  obtain ⟨i0,hi,hz0,hz1,hz2⟩:=info_parts Sq.infoE
  obtain ⟨v,hv,hrow,_⟩:=h.box
  refine ⟨fn,#[.slice none 0 0,sv,.pointer (some ⟨Bs,0,none⟩),undef,.slice none 0 0,undef,sv,encStr x,undef,undef,undef,undef,undef],Sq.apAssign,Sq.apBody,by simpa [Sq.apRec] using run_yield (P:=Tryz.prog) (args:=#[encStr x]) h.L rfl,roundIn_of_wpIn hfn ?_⟩
  have hl:l < W.heap.size:=(Array.getElem?_eq_some_iff.1 h.L).1
  have hbr:=run_beginRound (P:=Tryz.prog) h.L rfl
  obtain ⟨W2,hW2⟩:∃ W2,W.putObj l (.loop { Sq.apRec fn sv Bs D .ready none with state:=.busy })=W2:=⟨_,rfl⟩
  rw [hW2] at hbr
  have hg2:W.grownBy W2 (some l):=by rw [←hW2];exact grownBy_putObj_a _ _ _
  have hk2:KeepsWalks W W2:=by rw [←hW2];exact KeepsWalks.putObj _ h.L rfl
  have hv2:W2.heap[Bs]?=some (.cells #[v] 36 (0,0)):=by rw [←hW2];exact (World.putObj_heap_other hBl).trans hv
  have hK2:W2.heap[D]?=some (.deferred (some [])):=by rw [←hW2];exact (World.putObj_heap_other hDl).trans h.K
  have hL2:W2.heap[l]?=some (.loop { Sq.apRec fn sv Bs D .ready none with state:=.busy }):=by rw [←hW2];exact World.putObj_heap_same hl
  have hrow2:W2.ownsRow w0.heap.size 9 1 v ss.length (ss.map encStr):=hrow.kept hg2 (ownsRow_ne_a hrow h.L (fun cur e=>by first|cases e|exact hne (Obj.cells.inj e).2.1))
  have hb2:Below w0.heap.size w0 W2:=h.below.grown hg2 h.below.size (fun k e=>by cases e;exact h0l)
  obtain ⟨hc2,hf2⟩:=cell_of_box_a hv2
  have hBlt:Bs < W2.heap.size:=(Array.getElem?_eq_some_iff.1 hv2).1
  have hl2:l < W2.heap.size:=(Array.getElem?_eq_some_iff.1 hL2).1
  have hDlt:D < W2.heap.size:=(Array.getElem?_eq_some_iff.1 hK2).1
  have ne_of:∀ {j:Nat} {o:Obj},W2.heap[j]?=some o→(∀ cur,o≠.cells cur 9 (0,0))→some j≠v.ownBlock:=fun hj hno=>by
    rcases ownsRow_ne_a hrow2 hj hno with e|e
    · rw [e];simp
    · exact fun e'=>e e'.symm
  clear hW2
  unfold Sq.apAssign
  gi_wp2_with (rw [Oper.semAt_eq _ _ _ (fun c h=>by cases h)];go_simp;try go_bits)
  unfold Sq.apBody
  gi_wp2_with (first
    | (gi_at_builtin;refine wpListIn_append_own _ rfl _ _ 36 rfl w0.heap.size 9 i0 (.string ⟨#[]⟩) 1 16 Tryz.underlying36 hi hz0 hz1 hz2 rfl (by decide) _ _ _ rfl (hrow2.alloc _) ⟨W2.heap.size,0,none⟩ 1 1 [encStr x] rfl rfl (cell_one_new _ _ _) (by simp [Value.oneCell',encStr]) (by omega) (by omega) (by have:=hb2.size;simp;omega) ?_;intro v' w3 hown' hg3 hnil3
       have hv3:w3.heap[Bs]?=some (.cells #[v] 36 (0,0)):=(hg3.block Bs (by simp;omega) (ne_of hv2 (fun cur e=>by first|cases e|exact hne (Obj.cells.inj e).2.1))).trans ((Below.heap_alloc _ _ Bs hBlt).trans hv2)
       obtain ⟨hc3,hf3⟩:=cell_of_box_a hv3
       obtain ⟨g',cap',cur',rfl,hbase',hgb',hr1,hr2,hr3,hr4⟩:∃ g' cap' cur',v'=.slice (some ⟨g',0,none⟩) (ss.length+1) cap'∧w0.heap.size≤g'∧w3.heap[g']?=some (.cells cur' 9 (0,0))∧ss.length+1≤cap'∧cap'≤maxLen∧cur'.size=cap' * 1∧cur'.toList.take ((ss.length+1) * 1)=ss.map encStr++[encStr x]:=by
         rcases hown'.2 with ⟨_,h0⟩|h'
         · exact absurd h0 (by omega)
         · exact h'
       go_frame)
    | (rw [Oper.semAt_eq _ _ _ (fun c h=>by cases h)];go_simp;try go_bits))
  have hg3':(W2.alloc (.cells #[encStr x] 9)).grownBy w3 v.ownBlock:=hg3
  have hL3:w3.heap[l]?=some (.loop { Sq.apRec fn sv Bs D .ready none with state:=.busy }):=(hg3'.block l (by simp;omega) (ne_of hL2 (fun cur e=>by first|cases e|exact hne (Obj.cells.inj e).2.1))).trans ((Below.heap_alloc _ _ l hl2).trans hL2)
  have hK3:w3.heap[D]?=some (.deferred (some [])):=(hg3'.block D (by simp;omega) (ne_of hK2 (fun cur e=>by first|cases e|exact hne (Obj.cells.inj e).2.1))).trans ((Below.heap_alloc _ _ D hDlt).trans hK2)
  obtain ⟨w4,hw4⟩:∃ w4,w3.setCell ⟨Bs,0,none⟩ (.slice (some ⟨g',0,none⟩) (ss.length+1) cap')=w4:=⟨_,rfl⟩
  rw [hw4]
  have hg4:w3.grownBy w4 (some Bs):=by rw [←hw4];exact grownBy_setCell0_a _ _ _
  have hv4:w4.heap[Bs]?=some (.cells #[.slice (some ⟨g',0,none⟩) (ss.length+1) cap'] 36 (0,0)):=by rw [←hw4];exact heap_setCell_box_a _ hv3
  have hL4:w4.heap[l]?=some (.loop { Sq.apRec fn sv Bs D .ready none with state:=.busy }):=(hg4.block l (Array.getElem?_eq_some_iff.1 hL3).1 (fun e=>hBl (by cases e;rfl))).trans hL3
  have hK4:w4.heap[D]?=some (.deferred (some [])):=(hg4.block D (Array.getElem?_eq_some_iff.1 hK3).1 (fun e=>hDB (by cases e;rfl))).trans hK3
  have hrow4:=hown'.kept hg4 (ownsRow_ne_a hown' hv3 (fun cur e=>by first|cases e|exact hne (Obj.cells.inj e).2.1))
  have hl4:l < w4.heap.size:=(Array.getElem?_eq_some_iff.1 hL4).1
  have hb3:Below w0.heap.size w0 w3:=(hb2.alloc hb2.size _).grown hg3' (by have:=hb2.size;simp;omega) (fun k e=>(hrow2.lt k e).1)
  have hb4:Below w0.heap.size w0 w4:=hb3.grown hg4 hb3.size (fun k e=>by cases e;exact h0B)
  have hk4:KeepsWalks W w4:=((hk2.trans (KeepsWalks.alloc _ _)).trans (KeepsWalks.of_grownBy hg3' (ownsRow_not_walk_a (hrow2.alloc _)))).trans (by rw [←hw4];exact KeepsWalks.setCell _ _ _)
  clear hw4
  refine ⟨_,_,run_endRound none hL4,rfl,⟨⟨_,(World.putObj_heap_other hBl).trans hv4,?_,by simp⟩,World.putObj_heap_same hl4,(World.putObj_heap_other hDl).trans hK4,hb4.grown (grownBy_putObj_a _ _ _) hb4.size (fun k e=>by cases e;exact h0l)⟩,hk4.trans (KeepsWalks.putObj _ hL4 rfl)⟩
  have:=hrow4.kept (grownBy_putObj_a w4 l (.loop { { Sq.apRec fn sv Bs D .ready none with state:=.busy } with state:=if (none:Option Code).isNone then .ready else .done,pending:=none })) (ownsRow_ne_a hrow4 hL4 (fun cur e=>by first|cases e|exact hne (Obj.cells.inj e).2.1))
  simpa using this
set_option maxRecDepth 100000 in
set_option maxHeartbeats 2000000 in
theorem Sq.appendSeq_in (F:Fence) (n:Nat) (h11:F.fn 153) (hro:F.round=none) (hn:2≤n) (g:Nat) (lb:Array Value) (hFg:F.fn g) (eg:∀ args w,(callFunc g args).run Tryz.prog w=.ok (.enter g args) w)
    (S Sp:List (List UInt8)→Prop) (N:Nat) (hN:N≤maxLen) (hNb:N * 16≤140737488355328) (w:World) (hseq:SeqStopsK F (n - 1) Tryz.prog g lb (fun x:List UInt8=>#[encStr x]) (Below w.heap.size) S Sp N w) :
    CallsIn F n Tryz.prog 153 #[.slice none 0 0,.func (.func g) #[] lb] w fun e w'=>∃ (v:Value) (ss:List (List UInt8)),e=.returned v∧S ss∧w'.ownsRow w.heap.size 9 1 v ss.length (ss.map encStr)∧(v=.slice none 0 0↔ss=[])∧Below w.heap.size w w':=by
  have h1:1≤n:=by omega
  have hne:(36:TypeId)≠9:=by decide
  refine callsIn_of_wp_marks Tryz.func153 rfl h11 ?_ hro
  simp only [Tryz.ntmps153,List.size_toArray,List.length_cons,List.length_nil,Nat.reduceAdd,Nat.reduceSub,Array.replicate_succ,Array.replicate_zero,List.push_toArray,List.append_toArray,List.nil_append,List.cons_append]
  gi_wp2
  refine wpIn_rangeFunc ?_
  intro fn hfn
  rw [hro]
  obtain ⟨W0,hW0⟩:∃ W0,w.alloc (.cells #[.slice none 0 0] 36)=W0:=⟨_,rfl⟩
  have hs0:W0.heap.size=w.heap.size+1:=by rw [←hW0];simp
  have hv0:W0.heap[w.heap.size]?=some (.cells #[.slice none 0 0] 36 (0,0)):=by rw [←hW0];exact World.alloc_heap_new w _
  have hb0:Below w.heap.size w W0:=by rw [←hW0];exact (Below.refl _ w).alloc (Nat.le_refl _) _
  rw [hW0]
  obtain ⟨W1,hW1⟩:∃ W1,(W0.alloc (.deferred (some []))).alloc (.loop (Sq.apRec fn (.func (.func g) #[] lb) w.heap.size W0.heap.size .ready none))=W1:=⟨_,rfl⟩
  have hold:∀ k,k < W0.heap.size→W1.heap[k]?=W0.heap[k]?:=fun k hk=>by
    rw [←hW1];exact (Below.heap_alloc _ _ k (by simp;omega)).trans (Below.heap_alloc _ _ k hk)
  have hb1:Below w.heap.size w W1:=by rw [←hW1];exact (hb0.alloc hb0.size _).alloc (by have:=hb0.size;simp;omega) _
  have hs1:W1.heap.size=W0.heap.size+2:=by rw [←hW1];simp
  have hM:Sq.ApAt w fn (.func (.func g) #[] lb) w.heap.size (W0.heap.size+1) W0.heap.size [] W1 :=
    ⟨⟨_,(hold w.heap.size (by omega)).trans hv0,⟨rfl,.inl ⟨rfl,rfl⟩⟩,by simp⟩,
     by rw [←hW1];have:=World.alloc_heap_new (W0.alloc (.deferred (some []))) (.loop (Sq.apRec fn (.func (.func g) #[] lb) w.heap.size W0.heap.size .ready none));rwa [World.size_alloc] at this,
     by rw [←hW1];exact (Below.heap_alloc _ _ _ (by simp)).trans (World.alloc_heap_new W0 _),hb1⟩
  refine ⟨W0.heap.size+1,[{ target:=.collected W0.heap.size,args:=#[] }],W1,{ target:=.fn (.func g) lb,args:=#[.func (.yield (W0.heap.size+1)) #[] #[]] },W1,g,
    #[.func (.yield (W0.heap.size+1)) #[] #[]]++lb,W1,?_,?_,?_,?_,fun _=>h1,?_⟩
  · rw [←hW1];exact run_enterLoop_outer _ _ _ _ _
  · simp [resolve,go_sem]
  · intro f' hf';simp [Target.leads] at hf';subst hf';exact hFg
  · simp [invoke,go_sem,eg]
  · refine (hseq (W0.heap.size+1) (Sq.ApAt w fn (.func (.func g) #[] lb) w.heap.size (W0.heap.size+1) W0.heap.size) (fun _ _=>False) W1 hb1 (Sq.ap_abides _ _ _ _ _ _ _ hb1.size) (fun _ _ _ _ h _ _=>h)
      (fun pre x W hJ hl=>(Sq.apYield F (n - 1 - 1) w fn hfn _ w.heap.size (W0.heap.size+1) W0.heap.size (by omega) (by omega) (by omega) (Nat.le_refl _) (by omega) N hN hNb pre x W hJ hl).mono fun e W' ⟨he,ha,hk⟩=>.inl ⟨he,ha,Sq.below_both hJ.below ha.below hk.size⟩) hM).mono ?_
    rintro e W2 ⟨⟨v0,rfl⟩,⟨ss,hS,h2⟩|⟨_,_,h2⟩⟩
    rotate_left
    · exact h2.elim
    obtain ⟨v,hv,hrow,hnil⟩:=h2.box
    have hend:=run_endLoop (P:=Tryz.prog) h2.L (by simp [Sq.apRec])
    obtain ⟨W3,hW3⟩:∃ W3,W2.putObj (W0.heap.size+1) (.loop { Sq.apRec fn (.func (.func g) #[] lb) w.heap.size W0.heap.size .ready none with state:=.exhausted })=W3:=⟨_,rfl⟩
    rw [hW3] at hend
    have hg3:W2.grownBy W3 (some (W0.heap.size+1)):=by rw [←hW3];exact grownBy_putObj_a _ _ _
    have hv3:W3.heap[w.heap.size]?=some (.cells #[v] 36 (0,0)):=by rw [←hW3];exact (World.putObj_heap_other (by omega)).trans hv
    have hK3:W3.heap[W0.heap.size]?=some (.deferred (some [])):=by rw [←hW3];exact (World.putObj_heap_other (by omega)).trans h2.K
    have hrow3:=hrow.kept hg3 (ownsRow_ne_a hrow h2.L (fun cur e=>by first|cases e|exact hne (Obj.cells.inj e).2.1))
    have hb3:Below w.heap.size w W3:=h2.below.grown hg3 h2.below.size (fun k e=>by cases e;omega)
    obtain ⟨hc3,hf3⟩:=cell_of_box_a hv3
    clear hW3
    refine ⟨none,W3,hend,?_⟩
    gi_wp2
    rw [←hs0]
    refine ⟨by simp,.inl ⟨_,_,rfl,run_takeDeferred hK3,?_⟩⟩
    exact ⟨_,results_tmp rfl _ _ _,v,ss,rfl,hS,hrow3.kept (grownBy_putObj_a _ _ _) (ownsRow_ne_a hrow3 hK3 (fun cur e=>by first|cases e|exact hne (Obj.cells.inj e).2.1)),hnil,hb3.grown (grownBy_putObj_a _ _ _) hb3.size (fun k e=>by cases e;omega)⟩
set_option maxHeartbeats 1000000 in
theorem Sq.collect_in (F:Fence) (n:Nat) (h8:F.fn 149) (h11:F.fn 153) (hro:F.round=none) (hn:3≤n) (g:Nat) (lb:Array Value) (hFg:F.fn g) (eg:∀ args w,(callFunc g args).run Tryz.prog w=.ok (.enter g args) w)
    (S Sp:List (List UInt8)→Prop) (N:Nat) (hN:N≤maxLen) (hNb:N * 16≤140737488355328) (w:World) (hseq:SeqStopsK F (n - 1 - 1) Tryz.prog g lb (fun x:List UInt8=>#[encStr x]) (Below w.heap.size) S Sp N w) :
    CallsIn F n Tryz.prog 149 #[.func (.func g) #[] lb] w fun e w'=>∃ (v:Value) (ss:List (List UInt8)),e=.returned v∧S ss∧w'.ownsRow w.heap.size 9 1 v ss.length (ss.map encStr)∧(v=.slice none 0 0↔ss=[])∧Below w.heap.size w w':=by
  have h1:1≤n:=by omega
  refine callsIn_of_wp Tryz.func149 rfl h8 ?_ hro
  simp only [Tryz.ntmps149,List.size_toArray,List.length_cons,List.length_nil,Nat.reduceAdd,Nat.reduceSub,Array.replicate_succ,Array.replicate_zero,List.push_toArray,List.append_toArray,List.nil_append,List.cons_append]
  gi_wp2_with (gi_at_call 153;refine (Sq.appendSeq_in F (n - 1) h11 hro (by omega) g lb hFg eg S Sp N hN hNb _ hseq).mono ?_;rintro e w' ⟨v,ss,rfl,hS,hrow,hnil,hb⟩)
  go_ret
  exact ⟨v,ss,rfl,hS,hrow,hnil,hb⟩
set_option maxHeartbeats 4000000 in
theorem Sq.sorted_any (sv:Value) (zs:List (List UInt8)) (w:World) (hreach:zs.length * 16≤140737488351232) (hI:Sq.Ints w.heap.size w sv zs) :
    Calls Tryz.prog 132 #[.func (.func 152) #[] #[.pointer (some ⟨w.heap.size,0,none⟩)]] (w.alloc (.cells #[sv] 36)) fun e w'=>∃ v:Value,e=.returned v ∧
      w'.ownsRow (w.heap.size+1) 9 1 v zs.length ((zs.mergeSort (fun x y=>decide (x≤y))).map encStr)∧(v=.slice none 0 0↔zs=[])∧Below (w.heap.size+1) (w.alloc (.cells #[sv] 36)) w':=by
  have hmax:zs.length≤maxLen:=by unfold maxLen;omega
  obtain ⟨w1,hw1⟩:∃ w1,w1=w.alloc (.cells #[sv] 36):=⟨_,rfl⟩
  have hsz:w1.heap.size=w.heap.size+1:=by rw [hw1];simp
  have hbox:w1.cell? ⟨w.heap.size,0,none⟩=some sv:=by rw [hw1];simp
  have hI1:Sq.Ints w1.heap.size w1 sv zs:=by
    have h2:Sq.Ints w.heap.size w1 sv zs:=hI.below (by rw [hw1];exact (Below.refl _ w).alloc (Nat.le_refl _) _)
    rcases h2 with h|⟨b,off,cap,h1,h2,h3⟩
    · exact .inl h
    · exact .inr ⟨b,off,cap,h1,by omega,h3⟩
  rw [←hw1,←hsz]
  have hseq:∀ n,1≤n→SeqStopsK Fence.wide n Tryz.prog 152 #[.pointer (some ⟨w.heap.size,0,none⟩)] (fun x:List UInt8=>#[encStr x]) (Below w1.heap.size) (fun ys=>ys=zs) (fun pre=>pre <+: zs) zs.length w1 :=
    fun n hn=>Sq.values_stops Fence.wide n trivial rfl hn w.heap.size w1.heap.size sv zs hreach w1 (by omega) (Nat.le_refl _) hbox hI1
  clear hw1 hI hI1 hbox
  have e7:=enters_of (P:=Tryz.prog) Tryz.func152 (by kernel_rfl) rfl
  have cC:=Sq.collect_in Fence.wide 5 trivial trivial rfl (by omega) 152 #[.pointer (some ⟨w.heap.size,0,none⟩)] trivial e7 _ _ zs.length hmax (by omega) w1 (hseq _ (by omega))
  have cC:=callsIn_wide.1 cC
  clear hseq e7 hsz
  go_enter Tryz.func132,Tryz.ntmps132
  go_wp2_with (go_at_call 149;refine cC.mono ?_;rintro e W ⟨v,ss,rfl,rfl,hrow,hnil,hb⟩)
  rcases hrow.2 with ⟨rfl,hz⟩|⟨gb,cap,cur,rfl,hbase,hgb,r1,r2,r3,r4⟩
  · have hss:ss=[]:=List.eq_nil_of_length_eq_zero hz
    subst hss
    go_wp2_with (go_at_call 150;refine (callsIn_wide.1 ((Tryz.sorts132 5).2 none 0 W)).mono ?_;rintro e w' ⟨rfl,rfl⟩)
    go_ret
    exact ⟨.slice none 0 0,rfl,by simpa using hrow,by simp,hb⟩
  · have hH:Holds encStr W gb 0 ss.toArray:=holds_of_block hgb (by simpa using r4)
    have hgl:gb < W.heap.size:=(Array.getElem?_eq_some_iff.1 hgb).1
    have cS:=callsIn_wide.1 ((Tryz.sorts132 5).1 gb 0 cap ss W hH hgl (by omega))
    go_wp2_with (go_at_call 150;refine cS.mono ?_;rintro e w' ⟨rfl,nn,os,rfl⟩)
    go_ret
    exact ⟨_,rfl,ownsRow_sorted (by simp) hbase hgb r1 r2 r3,hnil,hb.grown (grownBy_sorted _) hb.size (fun j hj=>by cases hj;exact hbase)⟩
end Go.Proofs
namespace Go.Proofs.YtaafeallcaiooaaGreat.Pr
open Go.RowKit Go.Proofs.Zw Go.Proofs.Zl Go.Proofs.Zm
set_option linter.unusedVariables false
set_option linter.unusedSimpArgs false
theorem keyd9:Keyd (α:=ByteArray) Tryz.prog 9 Value.string:=by
  refine keyd_of_now Tryz.underlying9 (fun a b=>?_) (fun a em w=>?_) (fun a=>?_)
  · simp [Instr.sameNow,bs_beq]
  · exact checkS em 9999 a w
  · simp [Instr.sameBits,bs_beq]
def SetAt (w:World) (m:Nat) (kn:List ByteArray):Prop:=∃ L,MapIs Value.string w m L∧∀ x,getL L x=if x∈kn then some (.bool true) else none
theorem SetAt.move {w w':World} {m:Nat} {kn:List ByteArray} (h:SetAt w m kn) (hb:w'.heap[m]?=w.heap[m]?):SetAt w' m kn:=by
  obtain ⟨L,h1,h2⟩:=h
  exact ⟨L,h1.move hb,h2⟩
theorem SetAt.lt {w:World} {m:Nat} {kn:List ByteArray} (h:SetAt w m kn):m < w.heap.size:=by
  obtain ⟨L,h1,h2⟩:=h
  exact h1.lt
theorem SetAt.below {w w':World} {m:Nat} {kn:List ByteArray} (h:SetAt w m kn) (hb:Below w.heap.size w w'):SetAt w' m kn:=h.move (hb.block _ h.lt)
theorem SetAt.look {w:World} {m:Nat} {kn:List ByteArray} (h:SetAt w m kn) (x:ByteArray):(Instr.lookup 141 (.map (some m)) (.string x) false).run Tryz.prog w=.ok (.bool (decide (x∈kn))) w:=by
  obtain ⟨L,h1,h2⟩:=h
  have:=MapIs.lookup keyd9 Tryz.underlying141 zero4 h1 x false
  rw [h2] at this
  by_cases hx:x∈kn
  · rw [if_pos hx] at this
    rw [decide_eq_true hx]
    simpa using this
  · rw [if_neg hx] at this
    rw [decide_eq_false hx]
    simpa using this
theorem SetAt.put {w:World} {m:Nat} {kn:List ByteArray} (h:SetAt w m kn) (x:ByteArray):∃ o,(Instr.mapUpdate 141 (.map (some m)) (.string x) (.bool true)).run Tryz.prog w=.ok () (blockSet w m o)∧SetAt (blockSet w m o) m (kn++[x]):=by
  obtain ⟨L,h1,h2⟩:=h
  obtain ⟨o,ho,hm⟩:=MapIs.update keyd9 Tryz.underlying141 h1 x (.bool true)
  refine ⟨o,ho,_,hm,fun y=>?_⟩
  rw [getL_putG,h2]
  by_cases h1:y=x
  · rw [if_pos h1,if_pos (by simp [h1])]
  · rw [if_neg h1]
    by_cases h2:y∈kn
    · rw [if_pos h2,if_pos (by simp [h2])]
    · rw [if_neg h2,if_neg (by simp [h2,h1])]
theorem SetAt.new (w:World):SetAt (w.alloc (.map #[] 0)) w.heap.size []:=⟨[],⟨#[],0,blk_new w _,rfl⟩,fun x=>by simp [getL]⟩
theorem own_blockSet {w:World} {base:Nat} {e:TypeId} {sz:Nat} {v:Value} {n m:Nat} {cells:List Value} {o:Obj} (h:w.ownsRow base e sz v n cells) (hm:∀ k,v.ownBlock=some k→k≠m):(blockSet w m o).ownsRow base e sz v n cells :=
  own_move h fun k hk=>set_other o (hm k hk)
open Go.Maps Go.Sort
theorem sort_sorted {M:List ByteArray} (hM:M.Pairwise ltS) {ss:List (List UInt8)} (h:ss.Perm (M.map bytesS)):ss.mergeSort (fun x y=>decide (x≤y))=M.map bytesS:=by
  have h1:=List.pairwise_mergeSort (le:=fun x y:List UInt8=>decide (x≤y)) (fun a b c h1 h2=>by simp at h1 h2 ⊢;exact List.le_trans h1 h2) (fun a b=>by simp;exact List.le_total a b) ss
  have h2:(ss.mergeSort (fun x y=>decide (x≤y))).Pairwise (fun x y:List UInt8=>x≤y):=h1.imp (fun h=>by simpa using h)
  have h3:(M.map bytesS).Pairwise (fun x y:List UInt8=>x≤y):=List.pairwise_map.2 (hM.imp (fun h=>((ltS_iff _ _).1 h).1))
  exact List.Perm.eq_of_pairwise (le:=fun x y:List UInt8=>x≤y) (fun a b _ _ h1 h2=>List.le_antisymm h1 h2) h2 h3 ((List.mergeSort_perm _ _).trans h)
theorem ints_of_own {w:World} {base:Nat} {ok:Nat→Prop} {v:Value} {l:List ByteArray} (h:Kd.R Kd.string 9 w base ok v l):Sq.Ints w.heap.size w v (l.map bytesS):=by
  have ho:=Kd.own_of_R h
  rcases ho.2 with ⟨rfl,hz⟩|⟨gb,cap,cur,rfl,hbase,hgb,r1,r2,r3,r4⟩
  · have hl:l=[]:=List.length_eq_zero_iff.1 hz
    subst hl
    exact .inl ⟨rfl,rfl⟩
  · refine .inr ⟨gb,0,cap,by rw [List.length_map],(gl_ hgb),fun j hj=>?_⟩
    rw [List.length_map] at hj
    obtain ⟨ad,e,hc⟩:=Kd.at_string (Kd.R_reads' h).2.2 (j:Int) (by omega) (by omega)
    have e2:ad=⟨gb,0,none⟩:=by injection e with e;exact e.symm
    subst e2
    rw [rdOf_at l j hj] at hc
    rw [List.getElem?_map,List.getElem?_eq_getElem hj]
    simp [Addr.add,bytesS,encStr] at hc ⊢
    by_cases h0:j=0
    · subst h0
      simpa using hc
    · simpa [h0] using hc
theorem sortedV_calls (v:Value) (l:List ByteArray) (base:Nat) (ok:Nat→Prop) (w:World) (h:Kd.R Kd.string 9 w base ok v l) (hn:l.Nodup) (hl:l.length≤1000000000) :
    Calls Tryz.prog 132 #[.func (.func 152) #[] #[.pointer (some ⟨w.heap.size,0,none⟩)]] (w.alloc (.cells #[v] 36)) fun e w'=>∃ u:Value,e=.returned u∧Kd.R Kd.string 9 w' (w.heap.size+1) (fun k=>w.heap.size+1≤k) u (sortS l)∧Below (w.heap.size+1) (w.alloc (.cells #[v] 36)) w':=by
  refine (Sq.sorted_any v (l.map bytesS) w (by rw [List.length_map];omega) (ints_of_own h)).mono ?_
  rintro e w' ⟨u,rfl,ho,_,hb⟩
  have hs:=sort_sorted (sortS_sorted l) (ss:=l.map bytesS) ((sortS_perm hn).symm.map bytesS)
  rw [hs,List.length_map,←sortS_len hn,List.map_map,show (fun l=>encStr l) ∘ bytesS=Value.string from rfl] at ho
  exact ⟨u,rfl,Kd.R_of_own (enc:=Value.string) (h1:=fun _=>rfl) ho (fun k hk=>own_base ho k hk),hb⟩
def OutRc (w:World) (R:Option (List ByteArray)) (e:Ending) (w':World):Prop:=match R with
  | none=>e=troubled 5∧Below w.heap.size w w'
  | some l=>∃ v,e=.returned v∧Kd.R Kd.string 9 w' w.heap.size (fun k=>w.heap.size≤k) v l∧Below w.heap.size w w'
theorem below_bs {B m:Nat} {w wa:World} (h:Below B w wa) (hm:B≤m) (hB:B≤wa.heap.size) (o:Obj):Below B w (blockSet wa m o):=h.trans ((but_blockSet wa m o).below hm hB)
theorem R_side {W w1:World} {base:Nat} {ok:Nat→Prop} {u v:Value} {xs:List ByteArray} (h:Kd.R Kd.string 9 W base ok u xs) (hg:W.grownBy w1 v.ownBlock) (hne:∀ k,u.ownBlock=some k→some k≠v.ownBlock):Kd.R Kd.string 9 w1 base ok u xs :=
 Kd.R_of_own (enc:=Value.string) (h1:=fun _=>rfl) (own_move (Kd.own_of_R h) fun k hk=>hg.block k (own_lt (Kd.own_of_R h) k hk) (hne k hk)) h.1
theorem R_bs {W:World} {base m:Nat} {ok:Nat→Prop} {u:Value} {xs:List ByteArray} (h:Kd.R Kd.string 9 W base ok u xs) (hne:∀ k,u.ownBlock=some k→k≠m) (o:Obj):Kd.R Kd.string 9 (blockSet W m o) base ok u xs :=
 Kd.R_of_own (enc:=Value.string) (h1:=fun _=>rfl) (own_blockSet (Kd.own_of_R h) hne) h.1
theorem SetAt.grown {W w1:World} {m:Nat} {kn:List ByteArray} {v:Value} (h:SetAt W m kn) (hg:W.grownBy w1 v.ownBlock) (hne:some m≠v.ownBlock):SetAt w1 m kn:=h.move (hg.block m h.lt hne)
def MB (w:World) (k:Nat):Prop:=w.heap.size≤k∧k≠w.heap.size
theorem Has.bs {w wa:World} {ok:Nat→Prop} {t:Tm} {p:Nat × Value} (h:Has w ok t p) (hb:Below w.heap.size w wa) (o:Obj):Has (blockSet wa w.heap.size o) ok t p:=h.below (below_bs hb (Nat.le_refl _) hb.size o)
set_option maxRecDepth 100000 in
set_option maxHeartbeats 4000000 in
theorem reach_calls (ls:List (Tm × Tm)) (hls:LawsGood ls) (hln:ls.length≤1000) (T:Tm) (hg:T.good) (hs:T.size≤60) (q:Nat × Value) (w:World) (ok okL:Nat→Prop) (AL:Option Addr) (capL:Nat) (hL:HasW w okL ls AL) (hT:Has w ok T q) (n:Nat) (hn:n≤5) :
  Calls Tryz.prog 106 #[.slice AL ls.length capL,encI q,.int .i64 (n:Int)] w (OutRc w (reachS ls n [] [T.text])):=by
 obtain ⟨RR,hRR⟩:∃ r,reachS ls n [] [T.text]=r:=⟨_,rfl⟩
 rw [hRR]
 have hmm:=@run_makeMap Tryz.prog
 obtain ⟨tid,pv⟩:=q
 obtain ⟨F,hF⟩:∃ F,F=txF (tid,pv):=⟨_,rfl⟩
 have hm1:∀ w,(method 337 tid pv "numnah/rules.text").run Tryz.prog w=.ok (F,pv) w:=hF ▸ meth_text hT
 have hm2:∀ args w,(callFunc F args).run Tryz.prog w=.ok (.enter F args) w:=hF ▸ enters_text hT
 have htx:=fun w' h=>text_calls T (tid,pv) w' ok h hg (by omega)
 rw [←hF] at htx
 have htxs:isTx T.text:=⟨T,hg,hs,rfl⟩
 have HTX:=Aside0.mk htx
 have HT:=Aside0.mk hT
 have HP:=Aside0.mk (And.intro hls (And.intro hln (And.intro hL (And.intro hRR (And.intro hn htxs)))))
 clear htx hT hls hln hL hRR hn htxs hF hg hs
 unfold encI
 generalize T.text=x0 at *
 go_enter Tryz.func106,Tryz.ntmps106
 go_wp2_with (first
  | (with_reducible refine (HTX.out (w.alloc (.map #[] 0)) (HT.out.alloc _)).mono ?_;rintro e wa ⟨rfl,hb⟩;obtain ⟨o,ho,hs1⟩:=((SetAt.new w).below hb).put x0;have H1:=Aside0.mk (And.intro (below_step (below_alloc (Below.refl _ _) _) hb) hs1);clear hb hs1)
  | (with_reducible refine (HTX.out _ (HT.out.bs H1.out.1 o)).mono ?_;rintro e wb ⟨rfl,hb⟩;have H2:=Aside0.mk (And.intro (below_step (below_bs H1.out.1 (Nat.le_refl _) H1.out.1.size o) hb) (H1.out.2.below hb));clear hb))
 go_loopw [8,9,23] (fun v8 v9 v23 wr=>∃ (k f:Nat) (done last out kn:List ByteArray),v9=.int .i64 (f:Int)∧v23=.int .i64 (k:Int)∧Aside0 (k≤n)∧Aside0 (out=done++last∧f=done.length)∧Aside0 (reachS ls (n - k) done last=RR)∧Aside0 (Kd.R Kd.string 9 wr w.heap.size (MB w) v8 out)∧Aside0 (SetAt wr w.heap.size kn∧∀ x,x∈kn↔x∈out)∧Aside0 ((∀ s,s∈last→isTx s)∧out.length≤300)∧Aside0 (Below w.heap.size w wr)) (fun _ _ v23 _=>n - (intOf v23).toNat)
 case atStart =>
  obtain ⟨hls,hln,hL,hRR,hn,htxs⟩:=HP.out
  have hb:=H2.out.1
  have ho1:=World.ownsRow_lit (base:=w.heap.size) (e:=9) (size:=1) wb #[.string x0] 1 hb.size (by unfold maxLen;decide) (by simp)
  refine ⟨0,0,[],[x0],[x0],[x0],rfl,rfl,⟨Nat.zero_le _⟩,⟨rfl,rfl⟩,⟨hRR⟩,⟨Kd.R_of_own (enc:=Value.string) (h1:=fun _=>rfl) ho1 (fun k hk=>?_)⟩,⟨H2.out.2.below (below_alloc (Below.refl _ _) _),fun x=>Iff.rfl⟩,⟨fun s hs=>?_,by simp⟩,⟨below_alloc hb _⟩⟩
  ·have hlt:=H2.out.2.lt
   have:wb.heap.size=k:=by simpa [Value.ownBlock] using hk
   exact ⟨by omega,by omega⟩
  ·obtain rfl:=List.mem_singleton.1 hs
   exact htxs
 case round =>
  obtain ⟨k,f,done,last,out,kn,rfl,rfl,HK,HF,HE,HO,HS,HQ,HB⟩:=hrel
  obtain ⟨A8,c8,rfl⟩:=Kd.R_slice HO.out
  by_cases hkn:k < n
  ·have hkb:decide ((k:Int) < (n:Int))=true:=decide_eq_true (by omega)
   obtain ⟨hls,hln,hL,hRR,hn,htxs⟩:=HP.out
   have hE2:=HE.out
   obtain ⟨ho1,ho2⟩:=HF.out
   rw [show n - k=(n - (k+1))+1 by omega,reachS,←ho1] at hE2
   obtain ⟨RL,hRL⟩:∃ r,levelS ls out [] last=r:=⟨_,rfl⟩
   rw [hRL] at hE2
   have hol:out.length=f+last.length:=by rw [ho1,ho2,List.length_append]
   obtain ⟨i9,hi9,_,hsz9,_⟩:=info_parts info9
   have hcut:=cut_from (P:=Tryz.prog) 36 9 .i64 Tryz.underlying36 hi9 1 hsz9 A8 out.length c8 (f:Int) (by omega) (by omega)
   rw [Int.toNat_natCast,show out.length - f=last.length by omega] at hcut
   obtain ⟨A27,hA27⟩:∃ A,A=(if c8=f then A8 else A8.map (·.add (f * 1))):=⟨_,rfl⟩
   rw [←hA27] at hcut
   have hC27:∀ W (oo:Nat→Prop),Kd.R Kd.string 9 W w.heap.size oo (.slice A8 out.length c8) out→Kd.C Kd.string W A27 last.length last:=by
    intro W oo h
    have h1:=Kd.C_drop (m:=f) (c:=c8) (Kd.R_reads' h).2.2 (by omega) (Kd.R_reads' h).2.1
    have h2:out.drop f=last:=by rw [ho1,ho2,List.drop_left]
    rw [h2] at h1
    rw [hA27]
    exact h1
   have hlast:last.length≤300:=by have:=HQ.out.2;omega
   have HC:=Aside0.mk (And.intro hC27 (And.intro hRL (And.intro hE2 (And.intro hol (And.intro hlast hkn)))))
   clear hls hln hL hRR hn htxs hE2 ho1 ho2 hRL hol hi9 hsz9 hA27 hC27 hlast
   go_wp2
   go_loopw [10,29] (fun v10 v29 wm=>∃ (i:Nat) (fr km:List ByteArray),v29=.int .i64 (i:Int)∧Aside0 (i≤last.length)∧Aside0 (levelS ls out fr (last.drop i)=RL)∧Aside0 (Kd.R Kd.string 9 wm w.heap.size (fun k=>MB w k∧some k≠(Value.slice A8 out.length c8).ownBlock) v10 fr)∧Aside0 (Kd.R Kd.string 9 wm w.heap.size (MB w) (.slice A8 out.length c8) out)∧Aside0 (SetAt wm w.heap.size km∧∀ x,x∈km↔x∈out++fr)∧Aside0 (fr.length≤i * 60000)∧Aside0 (Below w.heap.size w wm)) (fun _ v29 _=>last.length - (intOf v29).toNat)
   case atStart =>
    exact ⟨0,[],kn,rfl,⟨Nat.zero_le _⟩,⟨by rw [List.drop_zero];exact HC.out.2.1⟩,⟨Kd.R_nil _ _ _ _ _⟩,HO,⟨HS.out.1,fun x=>by rw [List.append_nil];exact HS.out.2 x⟩,⟨Nat.zero_le _⟩,HB⟩
   case round =>
    obtain ⟨i,fr,km,rfl,HI,HV,HO10,HO8,HS2,HL2,HB2⟩:=hrel
    by_cases hlt:i < last.length
    ·have hib:decide ((i:Int) < (last.length:Int))=true:=decide_eq_true (by omega)
     obtain ⟨hls,hln,hL,hRR,hn,htxs⟩:=HP.out
     obtain ⟨hC27,hRL,hE2,hol,hlast,_⟩:=HC.out
     obtain ⟨ad,e27,hx⟩:=Kd.at_string (hC27 _ _ HO8.out) (i:Int) (by omega) (by omega)
     rw [rdOf_at last i hlt,Int.toNat_natCast] at hx
     have htx:=HQ.out.1 _ (List.getElem_mem hlt)
     have hv:=HV.out
     rw [List.drop_eq_getElem_cons hlt,levelS] at hv
     generalize last[i]=s at *
     subst e27
     obtain ⟨t,hr,hgt,hst,hsx⟩:=isTx_read htx
     clear hsx
     have hrc:=fun w':World=>read_calls (fun _=>True) s w' (fun _ _=>trivial)
     rw [hr] at hrc
     have hnx:=fun (q:Nat × Value) (w':World) (hW:HasW w' okL ls AL) (hq:Has w' (fun _=>True) t q)=>next_calls ls hls hln t q w' (fun _=>True) okL AL capL hW hq hgt hst (fun _ _=>trivial)
     have hLm:=hL.below HB2.out
     have hns:nextS ls s=(nextT ls t).map textsT:=by unfold nextS;rw [hr,Option.bind_some]
     rw [hns] at hv
     cases hN:nextT ls t with
     | none =>
      rw [hN] at hnx hv
      have hRLn:RL=none:=hv.symm
      rw [hRLn] at hE2
      have hRRn:RR=none:=hE2.symm
      have HR:=Aside0.mk hrc
      have HX:=Aside0.mk hnx
      have HLM:=Aside0.mk (And.intro hLm hRRn)
      clear hls hln hL hRR hn htxs hC27 hRL hE2 hol hlast htx hv hr hgt hst hrc hnx hLm hns hN hRLn hRRn
      go_wp2_with (first
       | (go_at_call 69;refine (HR.out _).mono ?_;rintro e w2 ⟨hb,⟨t2,p2⟩,he,hp⟩;obtain rfl:e=.returned (.iface t2 p2):=he;have H3:=Aside0.mk (And.intro hb hp);clear hb hp)
       | (go_at_call 99;refine (HX.out (t2,p2) _ (HLM.out.1.below H3.out.1) H3.out.2).mono ?_;rintro e w3 ⟨hb,rfl⟩;have H4:=Aside0.mk (below_step (below_step HB2.out H3.out.1) hb);clear hb))
      rw [HLM.out.2]
      exact ⟨rfl,rfl,H4.out⟩
     | some r =>
      have hrl:=nextT_len ls t r hN
      have hrg:=nextT_good hls t r hgt hst hN
      have hrs:=nextT_size hN
      have hmul:(ls.length:Int) * t.size≤1000 * 60:=Int.mul_le_mul (by omega) hst (by have:=Tm.size_pos t;omega) (by omega)
      have htxc:=fun (A:Option Addr) (cap:Nat) (w':World) (hL:HasL w' (fun _=>True) r A 0)=>texts_calls r (fun t ht=>⟨hrg t ht,by have:=hrs t ht;omega⟩) (by omega) A cap w' (fun _=>True) hL
      rw [hN] at hnx hv
      have husl:=textsT_len r
      obtain ⟨us,hus⟩:∃ us,us=textsT r:=⟨_,rfl⟩
      rw [←hus] at htxc husl
      have hv2:levelS ls out (freshS out fr us) (last.drop (i+1))=RL:=by rw [hus];exact hv
      obtain ⟨FR,hFR⟩:∃ f,freshS out fr us=f:=⟨_,rfl⟩
      rw [hFR] at hv2
      have hul:us.length≤60000:=by omega
      have HR:=Aside0.mk hrc
      have HX:=Aside0.mk hnx
      have HTC:=Aside0.mk htxc
      have HLM:=Aside0.mk (And.intro hLm (And.intro hv2 (And.intro hFR (And.intro hul hlt))))
      clear hls hln hL hRR hn htxs hC27 hRL hE2 hol hlast htx hv hr hgt hst hrc hnx hLm hns hN hrl hrg hrs hmul htxc husl hus hv2 hFR hul
      have W1I:=Aside0.mk (wrp i (by have:=HC.out.2.2.2.2.1;omega):wrap64 ((i:Int)+1)=(i:Int)+1)
      go_wp2_with (first
       | (go_at_call 69;refine (HR.out _).mono ?_;rintro e w2 ⟨hb,⟨t2,p2⟩,he,hp⟩;obtain rfl:e=.returned (.iface t2 p2):=he;have H3:=Aside0.mk (And.intro hb hp);clear hb hp)
       | (go_at_call 99;refine (HX.out (t2,p2) _ (HLM.out.1.below H3.out.1) H3.out.2).mono ?_;rintro e w3 ⟨hb,v3,rfl,hrow⟩;obtain ⟨A3,c3,rfl,_,hL3⟩:=hrow.read (fun _ _=>trivial);have H4:=Aside0.mk (And.intro (below_on H3.out.1 hb) hL3);clear hb hrow hL3)
       | (go_at_call 98;refine (HTC.out _ _ _ H4.out.2).mono ?_;rintro e w4 ⟨v4,rfl,hr4,hb⟩;obtain ⟨A37,c37,rfl⟩:=Kd.R_slice hr4;have H5:=Aside0.mk (And.intro (below_on H4.out.1 hb) (Kd.R_mono (ok':=fun k=>w3.heap.size≤k) hr4 (fun _ hk=>hk)));clear hb hr4))
      go_loopw [10,39] (fun v10 v39 wi=>∃ (j:Nat) (fr1 k1:List ByteArray),v39=.int .i64 (j:Int)∧Aside0 (j≤us.length)∧Aside0 (freshS out fr1 (us.drop j)=FR)∧Aside0 (Kd.R Kd.string 9 wi w.heap.size (fun k=>(MB w k∧some k≠(Value.slice A8 out.length c8).ownBlock)∧some k≠(Value.slice A37 us.length c37).ownBlock) v10 fr1)∧Aside0 (Kd.R Kd.string 9 wi w.heap.size (MB w) (.slice A8 out.length c8) out)∧Aside0 (SetAt wi w.heap.size k1∧∀ x,x∈k1↔x∈out++fr1)∧Aside0 (Kd.R Kd.string 9 wi w3.heap.size (fun k=>w3.heap.size≤k) (.slice A37 us.length c37) us)∧Aside0 (fr1.length≤fr.length+j)∧Aside0 (Below w.heap.size w wi)) (fun _ v39 _=>us.length - (intOf v39).toNat)
      case atStart =>
       obtain ⟨hLm,hv2,hFR,hul,hlt⟩:=HLM.out
       have hs4:=H4.out.1.size
       refine ⟨0,fr,km,rfl,⟨Nat.zero_le _⟩,⟨by rw [List.drop_zero];exact hFR⟩,⟨Kd.R_mono (Kd.R_below (Kd.R_bound HO10.out) H5.out.1) fun k hk=>⟨hk.1,fun e=>?_⟩⟩,⟨Kd.R_below HO8.out H5.out.1⟩,⟨HS2.out.1.below H5.out.1,HS2.out.2⟩,⟨H5.out.2⟩,⟨Nat.le_refl _⟩,⟨below_step HB2.out H5.out.1⟩⟩
       have h1:=H5.out.2.1 k e.symm
       have h2:=hk.2.2.1
       omega
      case round =>
       obtain ⟨j,fr1,k1,rfl,HJ,HF1,H10,H8,HS3,H37,HLn,HB3⟩:=hrel
       by_cases hj:j < us.length
       ·have hjb:decide ((j:Int) < (us.length:Int))=true:=decide_eq_true (by omega)
        obtain ⟨ad2,e37,hx2⟩:=Kd.at_string (Kd.R_reads' H37.out).2.2 (j:Int) (by omega) (by omega)
        rw [rdOf_at us j hj,Int.toNat_natCast] at hx2
        have hf:=HF1.out
        rw [List.drop_eq_getElem_cons hj,freshS] at hf
        have W1J:=Aside0.mk (wrS (by omega) (by have:=HLM.out.2.2.2.1;omega):wrap64 ((j:Int)+1)=(j:Int)+1)
        generalize us[j]=u at *
        subst e37
        obtain ⟨A10,c10,rfl⟩:=Kd.R_slice H10.out
        have hlk:=HS3.out.1.look u
        by_cases hm:u∈out++fr1
        ·rw [if_pos hm] at hf
         rw [decide_eq_true ((HS3.out.2 u).2 hm)] at hlk
         have HH:=Aside0.mk (And.intro hf hj)
         clear hf hm
         go_wp2
         obtain ⟨hf,hj⟩:=HH.out
         rw [W1J.out]
         refine ⟨⟨j+1,fr1,k1,by simp,⟨by omega⟩,⟨hf⟩,H10,H8,HS3,H37,⟨by have:=HLn.out;omega⟩,HB3⟩,?_⟩
         simp only [intOf]
         omega
        ·rw [if_neg hm] at hf
         rw [decide_eq_false (fun h=>hm ((HS3.out.2 u).1 h))] at hlk
         obtain ⟨o2,ho2,hs2⟩:=HS3.out.1.put u
         have hbl:=HS3.out.1.lt
         have hap:∀ k,(Value.slice A10 fr1.length c10).ownBlock=some k→(MB w k∧some k≠(Value.slice A8 out.length c8).ownBlock)∧some k≠(Value.slice (some ad2) us.length c37).ownBlock:=H10.out.1
         have hAF:∀ k,(blockSet wr w.heap.size o2).heap.size≤k→(MB w k∧some k≠(Value.slice A8 out.length c8).ownBlock)∧some k≠(Value.slice (some ad2) us.length c37).ownBlock:=fun k hk=>by
          rw [set_size] at hk
          refine ⟨⟨⟨by omega,by omega⟩,fun e=>?_⟩,fun e=>?_⟩
          ·have:=own_lt (Kd.own_of_R H8.out) k e.symm
           omega
          ·have:=own_lt (Kd.own_of_R H37.out) k e.symm
           omega
         have hAO:=R_bs H10.out (fun k hk=>(hap k hk).1.1.2) o2
         have hA8:=R_bs H8.out (fun k hk=>(H8.out.1 k hk).2) o2
         have hA37:=R_bs H37.out (m:=w.heap.size) (fun k hk=>by have:=H37.out.1 k hk;have:=H4.out.1.size;have:=HB2.out.size;have:=HS2.out.1.lt;omega) o2
         have hAB:=below_bs HB3.out (Nat.le_refl _) HB3.out.size o2
         have hAS:w.heap.size≤(blockSet wr w.heap.size o2).heap.size:=hAB.size
         have hAL:(fr1.length+1) * 16≤140737488355328:=by have:=HLn.out;have:=HL2.out;have:=HC.out.2.2.2.2.1;have:=HJ.out;have:=HLM.out.2.2.2.1;omega
         have HA:=Aside0.mk (And.intro hf (And.intro hj (And.intro hap (And.intro hAF (And.intro hAO (And.intro hA8 (And.intro hA37 (And.intro hAB (And.intro hAS (And.intro hAL hs2))))))))))
         clear hf hap hAF hAO hA8 hA37 hAB hAS hAL hs2 hm hbl
         go_wp2_with ((with_reducible refine gate_builtin (b:=.append) (xs:=#[.tmp 49,.tmp 51]) rfl ?_);at_builtin;refine Kd.R_append Kd.string (w0:=w) w.heap.size rfl (.tmp 49) (.tmp 51) 36 9 (.string ⟨#[]⟩) 16 rfl Tryz.underlying36 info9 rfl (by decide) (by omega) (.slice A10 fr1.length c10) fr1 u [.string u] (fun k=>(MB w k∧some k≠(Value.slice A8 out.length c8).ownBlock)∧some k≠(Value.slice (some ad2) us.length c37).ownBlock) (fun _=>False) rfl rfl ?aP (fun _ hk=>hk.elim) ?aF ?aO ?aB ?aS ?aL ?_;(case aP=>exact rfl);(case aF=>exact HA.out.2.2.2.1);(case aO=>exact HA.out.2.2.2.2.1);(case aB=>exact HA.out.2.2.2.2.2.2.2.1);(case aS=>exact HA.out.2.2.2.2.2.2.2.2.1);(case aL=>exact HA.out.2.2.2.2.2.2.2.2.2.1);intro v1 w5 ho5 hb5 hg5 hat5;have H5x:=Aside0.mk (And.intro ho5 (And.intro hb5 hg5));clear ho5 hb5 hg5 hat5)
         obtain ⟨hf,hj,hap,hAF,hAO,hA8,hA37,hAB,hAS,hAL,hs2⟩:=HA.out
         obtain ⟨ho5,hb5,hg5⟩:=H5x.out
         rw [W1J.out]
         refine ⟨⟨j+1,fr1++[u],k1++[u],by simp,⟨by omega⟩,⟨hf⟩,⟨ho5⟩,⟨R_side hA8 hg5 fun k hk e=>(hap k e.symm).1.2 hk.symm⟩,⟨hs2.grown hg5 fun e=>(hap _ e.symm).1.1.2 rfl,fun x=>?_⟩,⟨R_side hA37 hg5 fun k hk e=>(hap k e.symm).2 hk.symm⟩,⟨by rw [List.length_append,List.length_singleton];have:=HLn.out;omega⟩,⟨hb5⟩⟩,?_⟩
         ·have:=HS3.out.2 x
          simp only [List.mem_append,List.mem_singleton] at this ⊢
          rw [this,or_assoc]
         ·simp only [intOf]
          omega
       ·have hjb:decide ((j:Int) < (us.length:Int))=false:=decide_eq_false (by omega)
        have hf:=HF1.out
        rw [List.drop_of_length_le (by omega),freshS] at hf
        subst hf
        go_wp2
        obtain ⟨hLm,hv2,hFR,hul,hlt⟩:=HLM.out
        rw [W1I.out]
        refine ⟨⟨i+1,fr1,k1,by simp,⟨by omega⟩,⟨hv2⟩,⟨Kd.R_mono H10.out fun k hk=>hk.1⟩,H8,HS3,⟨?_⟩,HB3⟩,?_⟩
        ·have h1:=HLn.out
         have h2:=HL2.out
         have h3:=HJ.out
         omega
        ·simp only [intOf]
         omega
    ·have hib:decide ((i:Int) < (last.length:Int))=false:=decide_eq_false (by omega)
     obtain ⟨A10,c10,rfl⟩:=Kd.R_slice HO10.out
     obtain ⟨hls,hln,hL,hRR,hn,htxs⟩:=HP.out
     obtain ⟨hC27,hRL,hE2,hol,hlast,_⟩:=HC.out
     have hv:=HV.out
     rw [List.drop_of_length_le (by omega),levelS] at hv
     rw [←hv,Option.bind_some] at hE2
     have hlv:levelS ls out [] last=some fr:=by rw [hRL,←hv]
     have hnd:fr.Nodup:=level_nodup ls out last [] fr hlv List.nodup_nil
     have hfl:fr.length≤18000000:=by have:=HL2.out;have:=HI.out;omega
     have hSV:=fun W base oo (h:Kd.R Kd.string 9 W base oo (.slice A10 fr.length c10) fr)=>sortedV_calls (.slice A10 fr.length c10) fr base oo W h hnd (by omega)
     have hVV:=fun W=>callsIn_wide.1 (Sq.values_in Fence.wide 5 trivial rfl A10 fr.length c10 W)
     have hsl:=sortS_len hnd
     obtain ⟨out2,ho2⟩:∃ o,o=out++sortS fr:=⟨_,rfl⟩
     rw [←ho2] at hE2
     have HSV:=Aside0.mk hSV
     have HVV:=Aside0.mk hVV
     have HO2:=Aside0.mk ho2
     have HAL:=Aside0.mk (show (out.length+(sortS fr).length) * 16≤140737488355328 by have:=HQ.out.2;omega)
     have W1K:=Aside0.mk (wrp k (by omega):wrap64 ((k:Int)+1)=(k:Int)+1)
     by_cases hz:out2.length≤300
     ·have hzb:decide ((out2.length:Int)≤300)=true:=decide_eq_true (by omega)
      rw [if_pos hz] at hE2
      have HE3:=Aside0.mk (And.intro hE2 hlv)
      clear hls hln hL hRR hn htxs hC27 hRL hE2 hol hlast hv hlv hnd hfl hSV hVV hsl ho2
      go_wp2_with (first
       | (go_at_call 135;refine (HVV.out _).mono ?_;rintro e w2 ⟨rfl,h2⟩;subst w2)
       | (go_at_call 132;refine (HSV.out _ _ _ HO10.out).mono ?_;rintro e w3 ⟨v60,rfl,hr,hb⟩;obtain ⟨A60,c60,rfl⟩:=Kd.R_slice hr;have H3:=Aside0.mk (And.intro hr ((below_alloc (Below.refl _ _) (.cells #[.slice A10 fr.length c10] 36)).trans (hb.mono (Nat.le_succ _))));clear hr hb)
       | (go_at_call 67;refine (demand_ok _ _).mono ?_;rintro e w8 ⟨rfl,h8⟩;subst w8)
       | ((with_reducible refine gate_builtin (b:=.append) (xs:=#[.tmp 57,.tmp 60]) rfl ?_);at_builtin;refine Kd.R_append_rows Kd.string (w0:=w) w.heap.size rfl (.tmp 57) (.tmp 60) 36 9 (.string ⟨#[]⟩) 16 rfl Tryz.underlying36 info9 rfl (by decide) (by omega) (.slice A8 out.length c8) out (sortS fr) _ _ _ (MB w) (fun _=>False) rfl rfl ?aO ?aR (fun _ _ h=>h) (fun _ h=>h.elim) ?aF ?aB ?aS ?aL ?_;(case aO=>exact Kd.R_below HO8.out H3.out.2);(case aR=>exact (Kd.R_reads' H3.out.1).2.2);(case aF=>exact fun k hk=>⟨Nat.le_trans HB2.out.size (Nat.le_trans H3.out.2.size hk),fun e=>Nat.lt_irrefl _ (Nat.lt_of_lt_of_le HS2.out.1.lt (Nat.le_trans H3.out.2.size (e ▸ hk)))⟩);(case aB=>exact below_step HB2.out H3.out.2);(case aS=>exact Nat.le_trans HB2.out.size H3.out.2.size);(case aL=>exact HAL.out);intro v1 w5 ho5 hb5 hg5 hat5;rw [←HO2.out] at ho5;obtain ⟨Ax,cx,rfl⟩:=Kd.R_slice ho5;have H5:=Aside0.mk (And.intro ho5 (And.intro hb5 hg5));clear ho5 hb5 hg5 hat5))
      obtain ⟨hE2,hlv⟩:=HE3.out
      obtain ⟨ho5,hb5,hg5⟩:=H5.out
      rw [W1K.out]
      refine ⟨⟨k+1,out.length,out,sortS fr,out2,km,by first|rfl|simp,by simp,⟨hkn⟩,⟨HO2.out,rfl⟩,⟨hE2⟩,⟨ho5⟩,⟨(HS2.out.1.below H3.out.2).grown hg5 fun e=>(HO8.out.1 _ e.symm).2 rfl,fun x=>?_⟩,⟨fun s hs=>?_,hz⟩,⟨hb5⟩⟩,?_⟩
      ·rw [HO2.out,HS2.out.2 x,List.mem_append,List.mem_append,mem_sortS]
      ·rcases (mem_level ls _ s _ _ _ hlv).1 (mem_sortS.1 hs) with h|⟨_,s',_,us,h1,h2⟩
       ·cases h
       ·exact nextS_isTx HP.out.1 h1 s h2
      ·simp only [intOf]
       omega
     ·have hzb:decide ((out2.length:Int)≤300)=false:=decide_eq_false (by omega)
      rw [if_neg hz] at hE2
      have HE3:=Aside0.mk hE2
      clear hls hln hL hRR hn htxs hC27 hRL hE2 hol hlast hv hlv hnd hfl hSV hVV hsl ho2
      go_wp2_with (first
       | (go_at_call 135;refine (HVV.out _).mono ?_;rintro e w2 ⟨rfl,h2⟩;subst w2)
       | (go_at_call 132;refine (HSV.out _ _ _ HO10.out).mono ?_;rintro e w3 ⟨v60,rfl,hr,hb⟩;obtain ⟨A60,c60,rfl⟩:=Kd.R_slice hr;have H3:=Aside0.mk (And.intro hr ((below_alloc (Below.refl _ _) (.cells #[.slice A10 fr.length c10] 36)).trans (hb.mono (Nat.le_succ _))));clear hr hb)
       | (go_at_call 67;refine (demand_no _ _).mono ?_;rintro e w8 ⟨rfl,h8⟩;subst w8)
       | ((with_reducible refine gate_builtin (b:=.append) (xs:=#[.tmp 57,.tmp 60]) rfl ?_);at_builtin;refine Kd.R_append_rows Kd.string (w0:=w) w.heap.size rfl (.tmp 57) (.tmp 60) 36 9 (.string ⟨#[]⟩) 16 rfl Tryz.underlying36 info9 rfl (by decide) (by omega) (.slice A8 out.length c8) out (sortS fr) _ _ _ (MB w) (fun _=>False) rfl rfl ?aO ?aR (fun _ _ h=>h) (fun _ h=>h.elim) ?aF ?aB ?aS ?aL ?_;(case aO=>exact Kd.R_below HO8.out H3.out.2);(case aR=>exact (Kd.R_reads' H3.out.1).2.2);(case aF=>exact fun k hk=>⟨Nat.le_trans HB2.out.size (Nat.le_trans H3.out.2.size hk),fun e=>Nat.lt_irrefl _ (Nat.lt_of_lt_of_le HS2.out.1.lt (Nat.le_trans H3.out.2.size (e ▸ hk)))⟩);(case aB=>exact below_step HB2.out H3.out.2);(case aS=>exact Nat.le_trans HB2.out.size H3.out.2.size);(case aL=>exact HAL.out);intro v1 w5 ho5 hb5 hg5 hat5;rw [←HO2.out] at ho5;obtain ⟨Ax,cx,rfl⟩:=Kd.R_slice ho5;have H5:=Aside0.mk (And.intro ho5 (And.intro hb5 hg5));clear ho5 hb5 hg5 hat5))
      rw [←HE3.out]
      exact ⟨rfl,rfl,H5.out.2.1⟩
  ·have hkb:decide ((k:Int) < (n:Int))=false:=decide_eq_false (by omega)
   have hR0:RR=some out:=by
    rw [←HE.out,show n - k=0 by omega,reachS,HF.out.1]
   go_wp2
   go_ret
   rw [hR0]
   exact ⟨_,rfl,Kd.R_mono HO.out fun k hk=>hk.1,HB.out⟩
theorem enters105:∀ args w,(callFunc 105 args).run Tryz.prog w=.ok (.enter 105 args) w:=fun args w=>enters_ Tryz.func105 (by kernel_rfl) rfl args w
def resRc:Option (List ByteArray)→Int × List ByteArray
 | none=>(5,[])
 | some l=>(0,l)
def reachT (rs:List S94) (s:ByteArray) (steps:Int):Int × List ByteArray :=
 match newLawsT rs with
 | none=>(2,[])
 | some ls=>match readT s with
  | none=>(4,[])
  | some t=>if 0≤steps∧steps≤5 then resRc (reachS ls steps.toNat [] [t.text]) else (2,[])
theorem within_no {x:Int} {lo hi:Int} (h:¬ (lo≤x∧x≤hi)):withinB x lo hi=false:=by
 unfold withinB
 by_cases h1:x≥lo
 ·rw [decide_eq_false (show ¬ x≤hi from fun h2=>h ⟨h1,h2⟩),Bool.and_false]
 ·rw [decide_eq_false h1,Bool.false_and]
theorem within_ok {x:Int} {lo hi:Int} (h:lo≤x∧x≤hi):withinB x lo hi=true:=by
 unfold withinB
 rw [decide_eq_true (show x≥lo from h.1),decide_eq_true h.2]
 rfl
set_option maxRecDepth 100000 in
set_option maxHeartbeats 1000000 in
theorem reach1_calls (rs:List S94) (s:ByteArray) (steps:Int) (A0:Option Addr) (c0 b0 b1 b2 b3:Nat) (w:World) (hC0:Kd.C k94 w A0 rs.length rs) (hb0:w.heap[b0]?=some (.cells #[.slice A0 rs.length c0] 35 (0,0))) (hb1:w.heap[b1]?=some (.cells #[.string s] 9 (0,0))) (hb2:w.heap[b2]?=some (.cells #[.int .i64 steps] 3 (0,0))) (hb3:w.heap[b3]?=some (.cells #[.slice none 0 0] 36 (0,0))) :
  Calls Tryz.prog 105 #[.pointer (some ⟨b0,0,none⟩),.pointer (some ⟨b1,0,none⟩),.pointer (some ⟨b2,0,none⟩),.pointer (some ⟨b3,0,none⟩)] w fun e w'=>e=endE (reachT rs s steps).1∧But b3 w w'∧StrsAt w w' b3 (reachT rs s steps).2:=by
 have hx0:=blk_cell hb0 0
 have hnl:=newLaws_calls rs A0 c0 w hC0
 cases hL:newLawsT rs with
 | none =>
  have e:reachT rs s steps=(2,[]):=by unfold reachT;rw [hL]
  rw [e]
  rw [hL] at hnl
  have HC:=Aside0.mk hnl
  have HB2:=Aside0.mk hb3
  clear hnl hC0 hb0 hb1 hb2 hb3 hL e
  go_enter Tryz.func105,Tryz.ntmps105
  go_wp2_with (go_at_call 77;refine HC.out.mono ?_;rintro e w1 ⟨hb,rfl⟩;have H1:=Aside0.mk hb;clear hb)
  exact ⟨rfl,rfl,But.of_below H1.out,StrsAt.nil HB2.out H1.out⟩
 | some ls =>
  have hlg:=newLawsT_good hL
  rw [hL] at hnl
  have hrc:=fun w':World=>read_calls (fun _=>True) s w' (fun _ _=>trivial)
  cases hR:readT s with
  | none =>
   have e:reachT rs s steps=(4,[]):=by unfold reachT;rw [hL];dsimp only;rw [hR]
   rw [e]
   rw [hR] at hrc
   have HC:=Aside0.mk hnl
   have HR:=Aside0.mk hrc
   have HB2:=Aside0.mk (And.intro hb3 hb1)
   clear hnl hC0 hb0 hb1 hb2 hb3 hL hR e hrc hlg
   go_enter Tryz.func105,Tryz.ntmps105
   go_wp2_with (first
    | (go_at_call 77;refine HC.out.mono ?_;rintro e w1 ⟨hb,A2,c2,rfl,hW⟩;have hx1:=blk_cell (blk_below HB2.out.2 hb) 0;have H1:=Aside0.mk (And.intro hb hW);clear hb hW)
    | (go_at_call 69;refine (HR.out _).mono ?_;rintro e w2 ⟨hb,rfl⟩;have H2:=Aside0.mk (below_on H1.out.1 hb);clear hb))
   exact ⟨rfl,rfl,But.of_below H2.out,StrsAt.nil HB2.out.1 H2.out⟩
  | some T =>
   have hgd:=readT_good hR
   rw [hR] at hrc
   have HC:=Aside0.mk hnl
   have HR:=Aside0.mk hrc
   have HB2:=Aside0.mk (And.intro hb3 (And.intro hb1 hb2))
   by_cases hm:0≤steps∧steps≤5
   ·have hwi:=within_ok hm
    obtain ⟨m,rfl⟩:∃ m:Nat,steps=(m:Int):=⟨steps.toNat,by omega⟩
    have hm5:m≤5:=by omega
    obtain ⟨RR,hRR⟩:∃ r,reachS ls m [] [T.text]=r:=⟨_,rfl⟩
    have e:reachT rs s (m:Int)=resRc RR:=by
     unfold reachT
     rw [hL];dsimp only;rw [hR];dsimp only;rw [if_pos hm,Int.toNat_natCast,hRR]
    rw [e]
    have hrch:=fun (q:Nat × Value) (w':World) (okL:Nat→Prop) (A2:Option Addr) (c2:Nat) (hW:HasW w' okL ls A2) (hq:Has w' (fun _=>True) T q)=>reach_calls ls hlg.1 (by omega) T hgd.1 hgd.2 q w' (fun _=>True) okL A2 c2 hW hq m hm5
    rw [hRR] at hrch
    have HX:=Aside0.mk hrch
    clear hnl hC0 hb0 hb1 hb2 hb3 hL hR hrc hlg hgd hrch hm hRR e hm5
    cases RR with
    | none =>
     unfold resRc
     dsimp only
     go_enter Tryz.func105,Tryz.ntmps105
     go_wp2_with (first
      | (go_at_call 77;refine HC.out.mono ?_;rintro e w1 ⟨hb,A2,c2,rfl,hW⟩;have hx1:=blk_cell (blk_below HB2.out.2.1 hb) 0;have H1:=Aside0.mk (And.intro hb hW);clear hb hW)
      | (go_at_call 69;refine (HR.out _).mono ?_;rintro e w2 ⟨hb,⟨tid,pv⟩,he,hp⟩;obtain rfl:e=.returned (.iface tid pv):=he;have hx2:=blk_cell (blk_below HB2.out.2.2 (below_on H1.out.1 hb)) 0;have H2:=Aside0.mk (And.intro (below_on H1.out.1 hb) (And.intro (H1.out.2.below hb) hp));clear hb hp)
      | (go_at_call 101;refine (within_calls _ _ _ _).mono ?_;rintro e w3 ⟨rfl,h3⟩;subst w3;rw [hwi])
      | (go_at_call 67;refine (demand_ok _ _).mono ?_;rintro e w3 ⟨rfl,h3⟩;subst w3)
      | (go_at_call 106;refine (HX.out (tid,pv) _ _ _ _ H2.out.2.1 H2.out.2.2).mono ?_;rintro e w4 ⟨rfl,hb⟩;have H4:=Aside0.mk (below_on H2.out.1 hb);clear hb))
     exact ⟨rfl,rfl,But.of_below H4.out,StrsAt.nil HB2.out.1 H4.out⟩
    | some l =>
     unfold resRc
     dsimp only
     go_enter Tryz.func105,Tryz.ntmps105
     go_wp2_with (first
      | (go_at_call 77;refine HC.out.mono ?_;rintro e w1 ⟨hb,A2,c2,rfl,hW⟩;have hx1:=blk_cell (blk_below HB2.out.2.1 hb) 0;have H1:=Aside0.mk (And.intro hb hW);clear hb hW)
      | (go_at_call 69;refine (HR.out _).mono ?_;rintro e w2 ⟨hb,⟨tid,pv⟩,he,hp⟩;obtain rfl:e=.returned (.iface tid pv):=he;have hx2:=blk_cell (blk_below HB2.out.2.2 (below_on H1.out.1 hb)) 0;have H2:=Aside0.mk (And.intro (below_on H1.out.1 hb) (And.intro (H1.out.2.below hb) hp));clear hb hp)
      | (go_at_call 101;refine (within_calls _ _ _ _).mono ?_;rintro e w3 ⟨rfl,h3⟩;subst w3;rw [hwi])
      | (go_at_call 67;refine (demand_ok _ _).mono ?_;rintro e w3 ⟨rfl,h3⟩;subst w3)
      | (go_at_call 106;refine (HX.out (tid,pv) _ _ _ _ H2.out.2.1 H2.out.2.2).mono ?_;rintro e w4 ⟨v4,rfl,hr4,hb⟩;obtain ⟨A4,c4,rfl⟩:=own_slice (Kd.own_of_R hr4);have H5:=Aside0.mk (blk_below (blk_below HB2.out.1 H2.out.1) hb);have H4:=Aside0.mk (And.intro (below_on H2.out.1 hb) hr4);clear hb hr4;have hz:=blk_frozen H5.out 0;have hd:w4.cell? ⟨b3,0,none⟩=some (.slice none 0 0):=blk_cell H5.out 0))
     have hf1:But b3 w (w4.setCell ⟨b3,0,none⟩ (.slice A4 l.length c4)):=(But.of_below H4.out.1).trans (But.set _ 0 _)
     have hf2:(w4.setCell ⟨b3,0,none⟩ (.slice A4 l.length c4)).heap[b3]?=some (.cells #[.slice A4 l.length c4] 36 (0,0)):=blk_setCell H5.out _
     have hf3:Kd.R Kd.string 9 (w4.setCell ⟨b3,0,none⟩ (.slice A4 l.length c4)) w.heap.size (fun k=>w.heap.size≤k) (.slice A4 l.length c4) l:=by
      have ho:=own_weaken (Kd.own_of_R H4.out.2) (show w.heap.size≤w2.heap.size from H2.out.1.size)
      exact Kd.R_of_own (own_setCell ho (own_ne ho H5.out (by decide)) _) (fun k hk=>own_base ho k hk)
     generalize (w4.setCell ⟨b3,0,none⟩ (.slice A4 l.length c4))=w9 at *
     simp [bodyPost,results,Tryz.results105]
     exact ⟨rfl,hf1,_,hf2,hf3⟩
   ·have e:reachT rs s steps=(2,[]):=by unfold reachT;rw [hL];dsimp only;rw [hR];dsimp only;rw [if_neg hm]
    rw [e]
    have hwi:=within_no hm
    clear hnl hC0 hb0 hb1 hb2 hb3 hL hR e hrc hlg hgd hm
    go_enter Tryz.func105,Tryz.ntmps105
    go_wp2_with (first
     | (go_at_call 77;refine HC.out.mono ?_;rintro e w1 ⟨hb,A2,c2,rfl,hW⟩;have hx1:=blk_cell (blk_below HB2.out.2.1 hb) 0;have H1:=Aside0.mk (And.intro hb hW);clear hb hW)
     | (go_at_call 69;refine (HR.out _).mono ?_;rintro e w2 ⟨hb,⟨tid,pv⟩,he,hp⟩;obtain rfl:e=.returned (.iface tid pv):=he;have hx2:=blk_cell (blk_below HB2.out.2.2 (below_on H1.out.1 hb)) 0;have H2:=Aside0.mk (And.intro (below_on H1.out.1 hb) (And.intro (H1.out.2.below hb) hp));clear hb hp)
     | (go_at_call 101;refine (within_calls _ _ _ _).mono ?_;rintro e w3 ⟨rfl,h3⟩;subst w3;rw [hwi])
     | (go_at_call 67;refine (demand_no _ _).mono ?_;rintro e w3 ⟨rfl,h3⟩;subst w3))
    exact ⟨rfl,rfl,But.of_below H2.out.1,StrsAt.nil HB2.out.1 H2.out.1⟩
end Go.Proofs.YtaafeallcaiooaaGreat.Pr
