/- leads: the search for a term among terms. -/
import Derived.Test.YtaafeallcaiooaaGreatHNx
import Derived.RangeFuncNested
import Derived.RangeFuncBound
import Derived.RangeFuncCalls
import Derived.RangeFuncLeaves
import Derived.RangeFuncBox
import Derived.RangeFuncFrom
import Derived.RangeFuncWrites
import Derived.Shelf.RegionOpen
import Derived.OwnWalkIn
import Derived.TacticsInMore
import Derived.LoopNIn
import Derived.LoopIn
import Derived.Maps.OwnIn
import Derived.Laws.EntriesVeiled
namespace Go.Proofs.YtaafeallcaiooaaGreat.Pr
open Go.RowKit Go.Maps Go.Proofs.Zw Go.Proofs.Zl Go.Proofs.Zm
set_option linter.unusedVariables false
set_option linter.unusedSimpArgs false
mutual
def Tm.subs:Tm→List Tm
  | .var c=>[.var c]
  | .app s l=>.app s l :: Tm.subsL l
def Tm.subsL:List Tm→List Tm
  | []=>[]
  | t :: l=>t.subs++Tm.subsL l
end
theorem subsL_append:∀ a b:List Tm,Tm.subsL (a++b)=Tm.subsL a++Tm.subsL b
  | [],b=>by simp [Tm.subsL]
  | t :: a,b=>by rw [List.cons_append,Tm.subsL,Tm.subsL,subsL_append a b,List.append_assoc]
structure KC (A B:World):Prop where
  size:A.heap.size≤B.heap.size
  same:∀ (k:Nat) (cs:Array Value) (t:TypeId) (fr:Nat × Nat),A.heap[k]?=some (Obj.cells cs t fr)→B.heap[k]?=some (Obj.cells cs t fr)
theorem KC.refl (A:World):KC A A:=⟨Nat.le_refl _,fun _ _ _ _ h=>h⟩
theorem KC.trans {A B C:World} (h:KC A B) (k:KC B C):KC A C:=⟨Nat.le_trans h.size k.size,fun j cs t fr hj=>k.same j cs t fr (h.same j cs t fr hj)⟩
theorem KC.below {A B:World} (h:Below A.heap.size A B):KC A B:=⟨h.size,fun k cs t fr hk=>(h.block k (gl_ hk)).trans hk⟩
theorem KC.putObj {w:World} (W:World) (l:Nat) (o o':Obj) (_:w.heap.size≤l) (h:W.heap[l]?=some o) (hc:o.isCells=false) (_:o.isWalk=false):KC W (W.putObj l o') :=
  ⟨by simp,fun k cs t fr hk=>by
    have:l≠k:=by
      intro e
      subst e
      rw [h] at hk
      injection hk with hk
      subst hk
      simp [Obj.isCells] at hc
    exact (World.putObj_heap_other (fun e=>this e.symm)).trans hk⟩
abbrev El (wb:World):={ x:Tm × (Nat × Value) // Has wb (fun k=>k < wb.heap.size) x.1 x.2∧x.1.good∧x.1.size≤1000000 }
def encEl {wb:World} (x:El wb):Array Value:=#[encI x.1.2]
def tms {wb:World} (ys:List (El wb)):List Tm:=ys.map (·.1.1)
theorem tms_append {wb:World} (a b:List (El wb)):tms (a++b)=tms a++tms b:=by simp [tms]
section
attribute [local go_sem] asVV asVC asCC asCV
variable {wb:World} {l0 by0 bv N:Nat} {J Jx:List (El wb)→World→Prop}
def OutV (J Jx:List (El wb)→World→Prop) (pre:List (El wb)) (W:World) (T:Tm) (e:Ending) (W':World):Prop :=
  (e=.returned (.bool true)∧(∃ ys,tms ys=T.subs∧J (pre++ys) W')∧KC W W')∨(e=.returned (.bool false)∧∃ ys,tms ys <+: T.subs∧Jx (pre++ys) W')
def VisOk (l0 by0 bv N:Nat) (J Jx:List (El wb)→World→Prop) (T:Tm):Prop:=∀ (m:Nat) (p:Nat × Value) (pre:List (El wb)) (W:World),Has wb (fun k=>k < wb.heap.size) T p→T.good→T.size≤1000000→KC wb W →
  W.heap[by0]?=some (.cells #[.func (.yield l0) #[] #[]] 165 (0,0))→W.heap[bv]?=some (.cells #[.func (.func 137) #[] #[.pointer (some ⟨by0,0,none⟩),.pointer (some ⟨bv,0,none⟩)]] 165 (0,0))→J pre W→pre.length+T.subs.length≤N →
  CallsIn Fence.wide m Tryz.prog 137 #[encI p,.pointer (some ⟨by0,0,none⟩),.pointer (some ⟨bv,0,none⟩)] W (OutV J Jx pre W T)
set_option maxRecDepth 100000 in
set_option maxHeartbeats 2000000 in
theorem visit_var (hA:∀ s A B,J s A→A.grownBy B none→J s B)
    (hY:∀ m pre x W,J pre W→pre.length < N→YieldAt Fence.wide m Tryz.prog l0 (encEl x) W fun e W'=>(e=.returned (.bool true)∧J (pre++[x]) W'∧KC W W')∨(e=.returned (.bool false)∧Jx (pre++[x]) W')) (c:Int):VisOk l0 by0 bv N J Jx (.var c):=by
  intro m p pre W h hg hs hk hby hbv hJ hN
  obtain ⟨fn,tmps,assign,body,hy,hR⟩:=hY (m - 1) pre ⟨(.var c,p),h,hg,hs⟩ W hJ (by rw [Tm.subs] at hN;simp at hN;omega)
  have hfin1:∀ W' o,J (pre++[⟨(.var c,p),h,hg,hs⟩]) W'→KC W W'→OutV J Jx pre W (.var c) (.returned (.bool true)) (W'.alloc o):=fun W' o hj hk'=>.inl ⟨rfl,⟨[⟨(.var c,p),h,hg,hs⟩],by rw [Tm.subs];rfl,hA _ _ _ hj (World.grownBy_alloc _ _ _)⟩,hk'.trans (KC.below (below_alloc (Below.refl _ _) _))⟩
  have hfin2:∀ W',Jx (pre++[⟨(.var c,p),h,hg,hs⟩]) W'→OutV J Jx pre W (.var c) (.returned (.bool false)) W':=fun W' hj=>.inr ⟨rfl,[⟨(.var c,p),h,hg,hs⟩],by rw [Tm.subs];exact List.prefix_refl _,hj⟩
  have HF1:=Aside0.mk hfin1
  have HF2:=Aside0.mk hfin2
  have hcy:=blk_cell hby 0
  simp only [encEl] at hy
  rw [Has.var_] at h
  subst h
  unfold encI at hy ⊢
  clear hfin1 hfin2 hA hY hby hbv hJ hN hk
  refine callsIn_of_wp Tryz.func137 rfl trivial ?_ rfl
  simp only [Tryz.ntmps137,List.size_toArray,List.length_cons,List.length_nil,Nat.reduceAdd,Nat.reduceSub,Array.replicate_succ,Array.replicate_zero,List.push_toArray,List.append_toArray,List.nil_append,List.cons_append]
  gi_wp2
  refine ⟨(fun h=>by cases h),?_⟩
  refine hR.mono ?_
  rintro e W2 (⟨rfl,hJ2,hk2⟩|⟨rfl,hJx2⟩)
  · have H2:=Aside0.mk (And.intro hJ2 hk2)
    clear hJ2 hk2
    gi_wp2
    go_ret
    exact HF1.out _ _ H2.out.1 H2.out.2
  · have H2:=Aside0.mk hJx2
    clear hJx2
    gi_wp2
    go_ret
    exact HF2.out _ H2.out
set_option maxRecDepth 100000 in
set_option maxHeartbeats 2000000 in
theorem visit_app (hA:∀ s A B,J s A→A.grownBy B none→J s B)
    (hY:∀ m pre x W,J pre W→pre.length < N→YieldAt Fence.wide m Tryz.prog l0 (encEl x) W fun e W'=>(e=.returned (.bool true)∧J (pre++[x]) W'∧KC W W')∨(e=.returned (.bool false)∧Jx (pre++[x]) W')) (s:Int) (l:List Tm) (ih:∀ x,x∈l→VisOk l0 by0 bv N J Jx x):VisOk l0 by0 bv N J Jx (.app s l):=by
  intro m p pre W h hg hs hk hby hbv hJ hN
  have hEl:=And.intro h (And.intro hg hs)
  obtain ⟨x0,hx0⟩:∃ x0:El wb,x0=⟨(.app s l,p),hEl⟩:=⟨_,rfl⟩
  have htx:tms [x0]=[.app s l]:=by rw [hx0];rfl
  obtain ⟨fn,tmps,assign,body,hy,hR⟩:=hY (m - 1) pre x0 W hJ (by rw [Tm.subs] at hN;simp at hN;omega)
  have hx1:x0.1.2=p:=by rw [hx0]
  simp only [encEl] at hy
  rw [hx1] at hy
  clear hx1
  rw [Has.app_] at h
  obtain ⟨A,cap,rfl,hc,hL⟩:=h
  have hl2:=good_len hg
  have hsub:Tm.subs (.app s l)=.app s l :: Tm.subsL l:=by rw [Tm.subs]
  rw [Tm.good] at hg
  rw [Tm.size] at hs
  rw [hsub] at hN
  have hcy:=blk_cell hby 0
  have hout:∀ (e:Ending) W',OutV J Jx pre W (.app s l) e W'=((e=.returned (.bool true)∧(∃ ys,tms ys=.app s l :: Tm.subsL l∧J (pre++ys) W')∧KC W W')∨(e=.returned (.bool false)∧∃ ys,tms ys <+: .app s l :: Tm.subsL l∧Jx (pre++ys) W')):=fun e W'=>by unfold OutV;rw [hsub]
  have hO:OutV J Jx pre W (.app s l)=fun e W'=>((e=.returned (.bool true)∧(∃ ys,tms ys=.app s l :: Tm.subsL l∧J (pre++ys) W')∧KC W W')∨(e=.returned (.bool false)∧∃ ys,tms ys <+: .app s l :: Tm.subsL l∧Jx (pre++ys) W')):=funext fun e=>funext fun W'=>hout e W'
  clear hout
  have HO:=Aside0.mk hO
  have HP:=Aside0.mk (And.intro hA (And.intro ih (And.intro hk (And.intro hby (And.intro hbv (And.intro hN (And.intro hL (And.intro hl2 (And.intro hg (And.intro hs htx))))))))))
  clear hA ih hk hby hbv hN hL hl2 hg hs htx hY hO hsub hx0 hEl hJ hc
  obtain ⟨Q0,hQ0⟩:∃ Q0,Q0=OutV J Jx pre W (.app s l):=⟨_,rfl⟩
  rw [←hQ0]
  have HQ0:=Aside0.mk (hQ0.trans HO.out)
  clear hQ0 HO
  unfold encI at hy ⊢
  refine callsIn_of_wp Tryz.func137 rfl trivial ?_ rfl
  simp only [Tryz.ntmps137,List.size_toArray,List.length_cons,List.length_nil,Nat.reduceAdd,Nat.reduceSub,Array.replicate_succ,Array.replicate_zero,List.push_toArray,List.append_toArray,List.nil_append,List.cons_append]
  gi_wp2
  refine ⟨(fun h=>by cases h),?_⟩
  refine hR.mono ?_
  clear hR hy
  rintro e W2 (⟨rfl,hJ2,hk2⟩|⟨rfl,hJx2⟩)
  · have H2:=Aside0.mk (And.intro hJ2 hk2)
    clear hJ2 hk2
    gi_wp2
    gi_loopw [22] (fun v wr=>∃ (i:Nat) (ys:List (El wb)),v=.int .i64 (i:Int)∧Aside0 (i≤l.length)∧Aside0 (tms ys=Tm.subsL (l.take i))∧Aside0 (J (pre++[x0]++ys) wr)∧Aside0 (KC W wr)) (fun v _=>l.length - (intOf v).toNat)
    case atStart =>
      exact ⟨0,[],rfl,⟨Nat.zero_le _⟩,⟨by simp [Tm.subsL,tms]⟩,⟨by rw [List.append_nil];exact HP.out.1 _ _ _ H2.out.1 (World.grownBy_alloc _ _ _)⟩,⟨H2.out.2.trans (KC.below (below_alloc (Below.refl _ _) _))⟩⟩
    case round =>
      obtain ⟨i,ys,rfl,HI,HYS,HJ,HK⟩:=hrel
      obtain ⟨hA,ih,hk,hby,hbv,hN,hL,hl2,hg,hs,htx⟩:=HP.out
      by_cases hlt:i < l.length
      · have hlb:decide ((i:Int) < (l.length:Int))=true:=decide_eq_true (by omega)
        obtain ⟨g,cs,⟨t1,p1⟩,rfl,hokg,hgc,hci,hq⟩:=hL.get i hlt
        rw [Nat.zero_add] at hci
        have hkw:=hk.trans HK.out
        have hcell:wr.cell? ⟨g,i,none⟩=some (encI (t1,p1)):=(blk_cell (hkw.same g _ _ _ hgc) i).trans hci
        have hbv2:=HK.out.same bv _ _ _ hbv
        have hcv:=blk_cell hbv2 0
        have hm1:l[i]∈l:=List.getElem_mem hlt
        have hlen:(pre++[x0]++ys).length+l[i].subs.length≤N:=by
          have h1:=congrArg List.length HYS.out
          have h2:=subsL_append (l.take (i+1)) (l.drop (i+1))
          rw [List.take_append_drop] at h2
          have h3:=congrArg List.length h2
          rw [List.take_succ_eq_append_getElem hlt,subsL_append] at h3
          simp [Tm.subsL,tms] at h1 h3 hN ⊢
          omega
        have hcall:=ih l[i] hm1 (m - 1) (t1,p1) (pre++[x0]++ys) wr hq (goods_mem hg.2.2 hm1) (by have:=sizes_mem l _ hm1;omega) hkw (HK.out.same by0 _ _ _ hby) hbv2 HJ.out hlen
        have hs2:Tm.subsL (l.take (i+1))=Tm.subsL (l.take i)++l[i].subs:=by
          rw [List.take_succ_eq_append_getElem hlt,subsL_append]
          simp [Tm.subsL]
        have hs3:Tm.subsL (l.take i)++l[i].subs <+: Tm.subsL l:=by
          rw [←hs2]
          exact ⟨Tm.subsL (l.drop (i+1)),by rw [←subsL_append,List.take_append_drop]⟩
        have HC:=Aside0.mk hcall
        have HH:=Aside0.mk (And.intro hs2 (And.intro hs3 htx))
        have w1i:wrap64 ((i:Int)+1)=(i:Int)+1:=wrp i (by omega)
        generalize l[i]=x at *
        clear hA ih hk hby hbv hN hL hl2 hg hs htx hokg hgc hci hq hkw hbv2 hm1 hlen hcall hs2 hs3
        unfold encI at hcell HC
        gi_wp2_with ((try refine ⟨trivial,(fun h=>by cases h),?_⟩);gi_at_call 137;refine HC.out.mono ?_;clear HC;rintro e W3 (⟨rfl,⟨zs,hz1,hz2⟩,hk3⟩|⟨rfl,zs,hz1,hz2⟩)<;>have H3:=Aside0.mk hz2<;>clear hz2)
        · rw [w1i]
          obtain ⟨hs2,hs3,htx⟩:=HH.out
          refine ⟨⟨i+1,ys++zs,by simp,⟨by omega⟩,⟨by rw [tms_append,HYS.out,hz1,hs2]⟩,⟨by rw [←List.append_assoc];exact H3.out⟩,⟨HK.out.trans hk3⟩⟩,?_⟩
          simp only [intOf]
          omega
        · rw [HQ0.out]
          obtain ⟨hs2,hs3,htx⟩:=HH.out
          refine .inr ⟨rfl,[x0]++(ys++zs),?_,by simpa using H3.out⟩
          rw [tms_append,tms_append,htx,HYS.out]
          obtain ⟨r1,hr1⟩:=hz1
          obtain ⟨r2,hr2⟩:=hs3
          refine ⟨r1++r2,?_⟩
          rw [←hr2,←hr1]
          simp
      · have hlb:decide ((i:Int) < (l.length:Int))=false:=decide_eq_false (by omega)
        have hfin:Q0 (.returned (.bool true)) wr:=by
          rw [HQ0.out]
          refine .inl ⟨rfl,⟨[x0]++ys,?_,by rw [←List.append_assoc];exact HJ.out⟩,HK.out⟩
          rw [tms_append,htx,HYS.out,List.take_of_length_le (by omega)]
          rfl
        have HF:=Aside0.mk hfin
        clear hA ih hk hby hbv hN hL hl2 hg hs htx hfin
        gi_wp2
        exact HF.out
  · have hfin:Q0 (.returned (.bool false)) W2:=by
      rw [HQ0.out]
      refine .inr ⟨rfl,[x0],?_,hJx2⟩
      rw [HP.out.2.2.2.2.2.2.2.2.2.2]
      exact ⟨Tm.subsL l,rfl⟩
    have HF:=Aside0.mk hfin
    clear hfin hJx2
    gi_wp2
    exact HF.out
theorem visit_calls (hA:∀ s A B,J s A→A.grownBy B none→J s B)
    (hY:∀ m pre x W,J pre W→pre.length < N→YieldAt Fence.wide m Tryz.prog l0 (encEl x) W fun e W'=>(e=.returned (.bool true)∧J (pre++[x]) W'∧KC W W')∨(e=.returned (.bool false)∧Jx (pre++[x]) W')):∀ T,VisOk l0 by0 bv N J Jx T :=
  Tm.ind (fun c=>visit_var hA hY c) (fun s l ih=>visit_app hA hY s l ih)
end
theorem room_none {F:Fence} (hd:F.depth=none) (k:Nat):F.room k:=fun d h=>by rw [hd] at h;cases h
theorem yield_any {m:Nat} (m':Nat) {P:Program} {l:Nat} {args:Array Value} {W:World} {R:Ending→World→Prop} (h:YieldAt Fence.wide m P l args W R):YieldAt Fence.wide m' P l args W R:=by
  obtain ⟨fn,tmps,assign,body,hy,hR⟩:=h
  exact ⟨fn,tmps,assign,body,hy,⟨hR.1,fun c cs _=>hR.2 c cs (room_none rfl _)⟩⟩
set_option maxRecDepth 100000 in
set_option maxHeartbeats 2000000 in
theorem subterms_stops (m Bt:Nat) (wb w:World) (T:Tm) (p:Nat × Value) (hT:Has wb (fun k=>k < wb.heap.size) T p) (hg:T.good) (hs:T.size≤1000000) (hk:KC wb w) (hBt:w.heap[Bt]?=some (.cells #[encI p] 99 (0,0))) :
    SeqStopsK Fence.wide m Tryz.prog 136 #[.pointer (some ⟨Bt,0,none⟩)] (encEl (wb:=wb)) KC (fun ys=>tms ys=T.subs) (fun pre=>tms pre <+: T.subs) T.subs.length w:=fun l0 J Jx W hW hJ hJx hY h0=>by
  have hA:∀ s A B,J s A→A.grownBy B none→J s B:=fun s A B h hg=>hJ s A B none h hg (fun r e=>by cases e)
  have hb1:Below W.heap.size W ((W.alloc (.cells #[.func (.yield l0) #[] #[]] 165)).alloc (.cells #[.func (.func 137) #[] #[.pointer (some ⟨W.heap.size,0,none⟩),.pointer (some ⟨W.heap.size+1,0,none⟩)]] 165)):=below_alloc (below_alloc (Below.refl _ _) _) _
  have hby:((W.alloc (.cells #[.func (.yield l0) #[] #[]] 165)).alloc (.cells #[.func (.func 137) #[] #[.pointer (some ⟨W.heap.size,0,none⟩),.pointer (some ⟨W.heap.size+1,0,none⟩)]] 165)).heap[W.heap.size]?=some (.cells #[.func (.yield l0) #[] #[]] 165 (0,0)):=blk_alloc (blk_new W _) _
  have hbv:((W.alloc (.cells #[.func (.yield l0) #[] #[]] 165)).alloc (.cells #[.func (.func 137) #[] #[.pointer (some ⟨W.heap.size,0,none⟩),.pointer (some ⟨W.heap.size+1,0,none⟩)]] 165)).heap[W.heap.size+1]?=some (.cells #[.func (.func 137) #[] #[.pointer (some ⟨W.heap.size,0,none⟩),.pointer (some ⟨W.heap.size+1,0,none⟩)]] 165 (0,0)):=by
    have:=blk_new (W.alloc (.cells #[.func (.yield l0) #[] #[]] 165)) (.cells #[.func (.func 137) #[] #[.pointer (some ⟨W.heap.size,0,none⟩),.pointer (some ⟨W.heap.size+1,0,none⟩)]] 165)
    simpa using this
  have hBtW:W.heap[Bt]?=some (.cells #[encI p] 99 (0,0)):=(KC.below hW).same _ _ _ _ hBt
  have hct:((W.alloc (.cells #[.func (.yield l0) #[] #[]] 165)).alloc (.cells #[.func (.func 137) #[] #[.pointer (some ⟨W.heap.size,0,none⟩),.pointer (some ⟨W.heap.size+1,0,none⟩)]] 165)).cell? ⟨Bt,0,none⟩=some (encI p):=blk_cell (blk_alloc (blk_alloc hBtW _) _) 0
  have hcall:=visit_calls (N:=T.subs.length) (by0:=W.heap.size) (bv:=W.heap.size+1) hA (fun m' pre x W' h1 h2=>yield_any m' (hY pre x W' h1 h2)) T (m - 1) p [] ((W.alloc (.cells #[.func (.yield l0) #[] #[]] 165)).alloc (.cells #[.func (.func 137) #[] #[.pointer (some ⟨W.heap.size,0,none⟩),.pointer (some ⟨W.heap.size+1,0,none⟩)]] 165)) hT hg hs ((hk.trans (KC.below hW)).trans (KC.below hb1)) hby hbv (hA _ _ _ (hA _ _ _ h0 (World.grownBy_alloc _ _ _)) (World.grownBy_alloc _ _ _)) (by simp)
  have HC:=Aside0.mk hcall
  clear hcall hA hb1 hby hbv hBtW hJ hJx hY h0 hW hT hg hs hk hBt
  refine callsIn_of_wp Tryz.func136 rfl trivial ?_ rfl
  simp only [Tryz.ntmps136,List.size_toArray,List.length_cons,List.length_nil,Nat.reduceAdd,Nat.reduceSub,Array.replicate_succ,Array.replicate_zero,List.push_toArray,List.append_toArray,List.nil_append,List.cons_append]
  gi_wp2_with ((try refine ⟨trivial,(fun h=>by cases h),?_⟩);gi_at_call 137;refine HC.out.mono ?_;clear HC;rintro e W3 (⟨rfl,⟨zs,hz1,hz2⟩,hk3⟩|⟨rfl,zs,hz1,hz2⟩))
  all_goals first
    | exact ⟨⟨_,rfl⟩,.inl ⟨zs,hz1,hz2⟩⟩
    | exact ⟨⟨_,rfl⟩,.inr ⟨zs,hz1,hz2⟩⟩
    | (go_end0;exact ⟨⟨_,rfl⟩,.inl ⟨zs,hz1,hz2⟩⟩)
    | (go_end0;exact ⟨⟨_,rfl⟩,.inr ⟨zs,hz1,hz2⟩⟩)
    | trace_state
theorem subterms_in (m:Nat) (p:Nat × Value) (w:World) :
    CallsIn Fence.wide m Tryz.prog 110 #[encI p] w fun e w'=>e=.returned (.func (.func 136) #[] #[.pointer (some ⟨w.heap.size,0,none⟩)])∧w'=w.alloc (.cells #[encI p] 99):=by
  unfold encI
  refine callsIn_of_wp Tryz.func110 rfl trivial ?_ rfl
  simp only [Tryz.ntmps110,List.size_toArray,List.length_cons,List.length_nil,Nat.reduceAdd,Nat.reduceSub,Array.replicate_succ,Array.replicate_zero,List.push_toArray,List.append_toArray,List.nil_append,List.cons_append]
  gi_wp2
  go_ret
  exact ⟨rfl,rfl⟩
def isVar (c:Int):Tm→Bool
  | .var d=>d == c
  | .app _ _=>false
def occT (c:Int) (T:Tm):Bool:=T.subs.any (isVar c)
theorem any_snoc {wb:World} (f:Tm→Bool) (pre:List (El wb)) (x:El wb):(tms (pre++[x])).any f=((tms pre).any f || f x.1.1):=by
  rw [tms_append,List.any_append]
  simp [tms]
theorem any_prefix {f:Tm→Bool} {a b:List Tm} (h:a <+: b) (ha:a.any f=true):b.any f=true:=by
  obtain ⟨r,rfl⟩:=h
  rw [List.any_append,ha,Bool.true_or]
theorem kc_own {β:Type} (B:Nat) (w:World):OwnFrom B (fun (_:β) W=>KC w W):=fun _ X Y row hs hg hr =>
  ⟨Nat.le_trans hs.size hg.size,fun k cs t fr hk=>by
    have hX:=hs.same k cs t fr hk
    refine (hg.block k (gl_ hX) (fun e=>?_)).trans hX
    obtain ⟨_,o,ho,hc⟩:=hr k e.symm
    rw [hX] at ho
    injection ho with ho
    subst ho
    simp [Obj.isCells] at hc⟩
theorem blk_own1 {β:Type} (B k:Nat) (cs:Array Value) (t:TypeId) (fr:Nat × Nat):OwnFrom B (fun (_:β) W=>W.heap[k]?=some (.cells cs t fr)):=fun _ X Y row hs hg hr =>
  (hg.block k (gl_ hs) (fun e=>by
    obtain ⟨_,o,ho,hc⟩:=hr k e.symm
    rw [hs] at ho
    injection ho with ho
    subst ho
    simp [Obj.isCells] at hc)).trans hs
section
attribute [local go_sem] asVV asVC asCC asCV Oper.semAt_some
set_option maxRecDepth 100000 in
set_option maxHeartbeats 4000000 in
theorem occurs_calls (c:Int) (T:Tm) (p:Nat × Value) (w:World) (ok:Nat→Prop) (hT:Has w ok T p) (hg:T.good) (hs:T.size≤1000000) :
    Calls Tryz.prog 121 #[.int .u8 c,encI p] w fun e w'=>e=.returned (.bool (occT c T))∧Below w.heap.size w w':=by
  have hT2:Has w (fun k=>k < w.heap.size) T p:=hT.bound.mono (fun k hk=>hk.2)
  have hb3:Below w.heap.size w (((w.alloc (.cells #[.int .u8 c] 131)).alloc (.cells #[.bool false] 4)).alloc (.cells #[encI p] 99)):=below_alloc (below_alloc (below_alloc (Below.refl _ _) _) _) _
  have hx3:(((w.alloc (.cells #[.int .u8 c] 131)).alloc (.cells #[.bool false] 4)).alloc (.cells #[encI p] 99)).heap[w.heap.size]?=some (.cells #[.int .u8 c] 131 (0,0)):=blk_alloc (blk_alloc (blk_new w _) _) _
  have hr3:(((w.alloc (.cells #[.int .u8 c] 131)).alloc (.cells #[.bool false] 4)).alloc (.cells #[encI p] 99)).heap[w.heap.size+1]?=some (.cells #[.bool false] 4 (0,0)):=by
    have:=blk_alloc (blk_new (w.alloc (.cells #[.int .u8 c] 131)) (.cells #[.bool false] 4)) (.cells #[encI p] 99)
    simpa using this
  have hB3:(((w.alloc (.cells #[.int .u8 c] 131)).alloc (.cells #[.bool false] 4)).alloc (.cells #[encI p] 99)).heap[w.heap.size+2]?=some (.cells #[encI p] 99 (0,0)):=by
    have:=blk_new ((w.alloc (.cells #[.int .u8 c] 131)).alloc (.cells #[.bool false] 4)) (.cells #[encI p] 99)
    simpa using this
  have hst:=subterms_stops 5 (w.heap.size+2) w (((w.alloc (.cells #[.int .u8 c] 131)).alloc (.cells #[.bool false] 4)).alloc (.cells #[encI p] 99)) T p hT2 hg hs (KC.below hb3) hB3
  obtain ⟨r,hr⟩:∃ r,r=occT c T:=⟨_,rfl⟩
  rw [←hr]
  refine (callsIn_wide (n:=6)).1 ?_
  refine callsIn_of_wp_marks Tryz.func121 rfl trivial ?_ rfl
  simp only [Tryz.ntmps121,List.size_toArray,List.length_cons,List.length_nil,Nat.reduceAdd,Nat.reduceSub,Array.replicate_succ,Array.replicate_zero,List.push_toArray,List.append_toArray,List.nil_append,List.cons_append]
  gi_wp2_with (refine ⟨trivial,?_⟩;gi_at_call 110;refine (subterms_in 5 p _).mono ?_;rintro e w' ⟨rfl,rfl⟩)
  obtain ⟨w3,hw3⟩:∃ w3,w3=(((w.alloc (.cells #[.int .u8 c] 131)).alloc (.cells #[.bool false] 4)).alloc (.cells #[encI p] 99)):=⟨_,rfl⟩
  have hz3:w3.heap.size=w.heap.size+3:=by rw [hw3];simp
  rw [←hw3] at hb3 hx3 hr3 hB3 hst ⊢
  refine wpIn_rangeFunc_ownF rfl (by omega) (gf:=136) (lb:=#[.pointer (some ⟨w.heap.size+2,0,none⟩)]) rfl trivial (enters_of Tryz.func136 (by kernel_rfl) rfl) hst (fun h k=>h.trans k) (fun W l o o' h1 h2 h3 h4=>KC.putObj (w:=w3) W l o o' h1 h2 h3 h4) (Below.refl _ _) (fun _=>rfl)
    (fun pre W=>W.heap[w.heap.size]?=some (.cells #[.int .u8 c] 131 (0,0))∧W.heap[w.heap.size+1]?=some (.cells #[.bool false] 4 (0,0))∧KC w W∧Below w.heap.size w W∧(tms pre).any (isVar c)=false)
    (fun code pre W=>code=.ret∧W.heap[w.heap.size+1]?=some (.cells #[.bool true] 4 (0,0))∧Below w.heap.size w W∧(tms pre).any (isVar c)=true)
    ((blk_own1 _ _ _ _ _).and ((blk_own1 _ _ _ _ _).and ((kc_own _ _).and ((ownFrom_below (Nat.le_refl _) (by omega)).and (ownFrom_pure _ (fun pre:List (El w)=>(tms pre).any (isVar c)=false))))))
    (fun code=>(ownFrom_pure _ (fun _:List (El w)=>code=.ret)).and ((blk_own1 _ _ _ _ _).and ((ownFrom_below (Nat.le_refl _) (by omega)).and (ownFrom_pure _ (fun pre:List (El w)=>(tms pre).any (isVar c)=true)))))
    ⟨hx3,hr3,KC.below hb3,hb3,rfl⟩
    (fun x=>{ tmps:=#[.int .u8 c,encI p,.pointer (some ⟨w.heap.size,0,none⟩),undef,.pointer (some ⟨w.heap.size+1,0,none⟩),encI x.1.2,undef,undef,encI p,.func (.func 136) #[] #[.pointer (some ⟨w.heap.size+2,0,none⟩)],encI x.1.2,undef,undef,undef,undef,undef,undef,undef,undef,undef,undef,undef],defers:=[] }) ?assign ?body ?done ?stop
  case assign =>
    intro l x W K hK
    simp only [encEl]
    gi_wp2
    exact hK
  case body =>
    rintro l pre ⟨⟨t,q⟩,hq,hqg,hqs⟩ W ⟨h0,h1,h2,h3,h4⟩ hlt
    dsimp only
    have hc0:=blk_cell h0 0
    have hc1:=blk_cell h1 0
    have hz1:W.frozen? ⟨w.heap.size+1,0,none⟩=false:=by simp [World.frozen?,h1]
    have han:=any_snoc (isVar c) pre (⟨(t,q),hq,hqg,hqs⟩:El w)
    rw [h4,Bool.false_or] at han
    dsimp only at han
    cases t with
    | app s' l' =>
      obtain ⟨A',cap',hq',_⟩:=Has.app_.1 hq
      have HH:=Aside0.mk (And.intro h0 (And.intro h1 (And.intro h2 (And.intro h3 han))))
      clear h0 h1 h2 h3 h4 han
      dsimp only at hq'
      subst hq'
      unfold encI
      gi_wp2
      obtain ⟨h0,h1,h2,h3,han⟩:=HH.out
      exact ⟨KeepsOthers.refl _,KC.refl _,h0,h1,h2,h3,han⟩
    | var d =>
      have hq':=Has.var_.1 hq
      dsimp only at hq'
      have HH:=Aside0.mk (And.intro h0 (And.intro h1 (And.intro h2 (And.intro h3 han))))
      clear h0 h1 h2 h3 h4 han
      subst hq'
      by_cases hd:d=c
      · subst hd
        unfold encI
        gi_wp2
        obtain ⟨h0,h1,h2,h3,han⟩:=HH.out
        exact ⟨KeepsOthers.setCell _ _ _,rfl,blk_setCell h1 _,h3.setCell (p:=⟨w.heap.size+1,0,none⟩) (Nat.le_succ _) _,by rw [han];exact beq_self_eq_true _⟩
      · have hne:(c == d)=false:=beq_eq_false_iff_ne.2 (fun e=>hd e.symm)
        unfold encI
        gi_wp2
        obtain ⟨h0,h1,h2,h3,han⟩:=HH.out
        exact ⟨KeepsOthers.refl _,KC.refl _,h0,h1,h2,h3,by rw [han];exact beq_eq_false_iff_ne.2 hd⟩
  case done =>
    rintro D xs W hD hS ⟨h0,h1,h2,h3,h4⟩ hK
    have hc1:=blk_cell h1 0
    have hz1:W.frozen? ⟨w.heap.size+1,0,none⟩=false:=by simp [World.frozen?,h1]
    have hocc:r=false:=by rw [hr];unfold occT;rw [←hS];exact h4
    subst hocc
    clear hr hS
    have HH:=Aside0.mk (And.intro h0 (And.intro h1 h3))
    clear h0 h1 h2 h3 h4
    gi_wp2
    have hK2:=(KeepsOthers.setCell W ⟨w.heap.size+1,0,none⟩ (.bool false)).same D _ hK rfl
    refine ⟨by simp,.inl ⟨_,_,rfl,run_takeDeferred hK2,?_⟩⟩
    obtain ⟨h0,h1,h3⟩:=HH.out
    have hc:=blk_cell ((World.putObj_heap_other (o:=.deferred none) (show w.heap.size+1≠D by omega)).trans (blk_setCell h1 (.bool false))) 0
    refine ⟨.bool false,?_,rfl,(h3.setCell (p:=⟨w.heap.size+1,0,none⟩) (Nat.le_succ _) _).trans (belowK_b (w:=w) (Nat.le_refl _) _ D _ _ (by omega) hK2 rfl rfl)⟩
    simp at hc
    simp [results,Tryz.results121,go_sem,hc]
  case stop =>
    rintro D code pre W hD hS ⟨rfl,h1,h3,h4⟩ hK
    have hocc:r=true:=hr.trans (any_prefix hS h4)
    subst hocc
    clear hr hS
    have HH:=Aside0.mk (And.intro h1 h3)
    clear h1 h3 h4
    gi_wp2
    refine ⟨by simp,.inl ⟨_,_,rfl,run_takeDeferred hK,?_⟩⟩
    obtain ⟨h1,h3⟩:=HH.out
    have hc:=blk_cell ((World.putObj_heap_other (o:=.deferred none) (show w.heap.size+1≠D by omega)).trans h1) 0
    refine ⟨.bool true,?_,rfl,h3.trans (belowK_b (w:=w) (Nat.le_refl _) W D _ _ (by omega) hK rfl rfl)⟩
    simp at hc
    simp [results,Tryz.results121,go_sem,hc]
def isInst (P:Tm) (u:Tm):Bool:=(matchT P u noSub).isSome
def comesT (P T:Tm):Bool:=T.subs.any (isInst P)
set_option maxRecDepth 100000 in
set_option maxHeartbeats 4000000 in
theorem comes_calls (P T:Tm) (pf p:Nat × Value) (w:World) (okP ok:Nat→Prop) (hP:Has w okP P pf) (hgP:P.good) (hsP:P.size≤1000000) (hT:Has w ok T p) (hg:T.good) (hs:T.size≤1000000) :
    Calls Tryz.prog 79 #[encI pf,encI p] w fun e w'=>e=.returned (.bool (comesT P T))∧Below w.heap.size w w':=by
  have hT2:Has w (fun k=>k < w.heap.size) T p:=hT.bound.mono (fun k hk=>hk.2)
  have hP2:Has w (fun k=>k < w.heap.size) P pf:=hP.bound.mono (fun k hk=>hk.2)
  have hb3:Below w.heap.size w (((w.alloc (.cells #[encI pf] 99)).alloc (.cells #[.bool false] 4)).alloc (.cells #[encI p] 99)):=below_alloc (below_alloc (below_alloc (Below.refl _ _) _) _) _
  have hx3:(((w.alloc (.cells #[encI pf] 99)).alloc (.cells #[.bool false] 4)).alloc (.cells #[encI p] 99)).heap[w.heap.size]?=some (.cells #[encI pf] 99 (0,0)):=blk_alloc (blk_alloc (blk_new w _) _) _
  have hr3:(((w.alloc (.cells #[encI pf] 99)).alloc (.cells #[.bool false] 4)).alloc (.cells #[encI p] 99)).heap[w.heap.size+1]?=some (.cells #[.bool false] 4 (0,0)):=by
    have:=blk_alloc (blk_new (w.alloc (.cells #[encI pf] 99)) (.cells #[.bool false] 4)) (.cells #[encI p] 99)
    simpa using this
  have hB3:(((w.alloc (.cells #[encI pf] 99)).alloc (.cells #[.bool false] 4)).alloc (.cells #[encI p] 99)).heap[w.heap.size+2]?=some (.cells #[encI p] 99 (0,0)):=by
    have:=blk_new ((w.alloc (.cells #[encI pf] 99)).alloc (.cells #[.bool false] 4)) (.cells #[encI p] 99)
    simpa using this
  have hst:=subterms_stops 5 (w.heap.size+2) w (((w.alloc (.cells #[encI pf] 99)).alloc (.cells #[.bool false] 4)).alloc (.cells #[encI p] 99)) T p hT2 hg hs (KC.below hb3) hB3
  have hmm:=@run_makeMap Tryz.prog
  obtain ⟨r,hr⟩:∃ r,r=comesT P T:=⟨_,rfl⟩
  rw [←hr]
  have hbox:encI pf=.iface pf.1 pf.2:=rfl
  refine (callsIn_wide (n:=6)).1 ?_
  refine callsIn_of_wp_marks Tryz.func79 rfl trivial ?_ rfl
  simp only [Tryz.ntmps79,List.size_toArray,List.length_cons,List.length_nil,Nat.reduceAdd,Nat.reduceSub,Array.replicate_succ,Array.replicate_zero,List.push_toArray,List.append_toArray,List.nil_append,List.cons_append]
  rw [hbox] at hb3 hx3 hr3 hB3 hst ⊢
  clear hbox
  gi_wp2_with (refine ⟨trivial,?_⟩;gi_at_call 110;refine (subterms_in 5 p _).mono ?_;rintro e w' ⟨rfl,rfl⟩)
  obtain ⟨w3,hw3⟩:∃ w3,w3=(((w.alloc (.cells #[.iface pf.1 pf.2] 99)).alloc (.cells #[.bool false] 4)).alloc (.cells #[encI p] 99)):=⟨_,rfl⟩
  have hz3:w3.heap.size=w.heap.size+3:=by rw [hw3];simp
  rw [←hw3] at hb3 hx3 hr3 hB3 hst ⊢
  refine wpIn_rangeFunc_ownF rfl (by omega) (gf:=136) (lb:=#[.pointer (some ⟨w.heap.size+2,0,none⟩)]) rfl trivial (enters_of Tryz.func136 (by kernel_rfl) rfl) hst (fun h k=>h.trans k) (fun W l o o' h1 h2 h3 h4=>KC.putObj (w:=w3) W l o o' h1 h2 h3 h4) (Below.refl _ _) (fun _=>rfl)
    (fun pre W=>W.heap[w.heap.size]?=some (.cells #[.iface pf.1 pf.2] 99 (0,0))∧W.heap[w.heap.size+1]?=some (.cells #[.bool false] 4 (0,0))∧KC w W∧Below w.heap.size w W∧(tms pre).any (isInst P)=false)
    (fun code pre W=>code=.ret∧W.heap[w.heap.size+1]?=some (.cells #[.bool true] 4 (0,0))∧Below w.heap.size w W∧(tms pre).any (isInst P)=true)
    ((blk_own1 _ _ _ _ _).and ((blk_own1 _ _ _ _ _).and ((kc_own _ _).and ((ownFrom_below (Nat.le_refl _) (by omega)).and (ownFrom_pure _ (fun pre:List (El w)=>(tms pre).any (isInst P)=false))))))
    (fun code=>(ownFrom_pure _ (fun _:List (El w)=>code=.ret)).and ((blk_own1 _ _ _ _ _).and ((ownFrom_below (Nat.le_refl _) (by omega)).and (ownFrom_pure _ (fun pre:List (El w)=>(tms pre).any (isInst P)=true)))))
    ⟨hx3,hr3,KC.below hb3,hb3,rfl⟩
    (fun x=>{ tmps:=#[.iface pf.1 pf.2,encI p,.pointer (some ⟨w.heap.size,0,none⟩),undef,.pointer (some ⟨w.heap.size+1,0,none⟩),encI x.1.2,encI p,.func (.func 136) #[] #[.pointer (some ⟨w.heap.size+2,0,none⟩)],encI x.1.2,undef,undef,undef,undef],defers:=[] }) ?assign ?body ?done ?stop
  case assign =>
    intro l x W K hK
    simp only [encEl]
    gi_wp2
    exact hK
  case body =>
    rintro l pre ⟨⟨t,q⟩,hq,hqg,hqs⟩ W ⟨h0,h1,h2,h3,h4⟩ hlt
    dsimp only
    have hc0:=blk_cell h0 0
    have hc1:=blk_cell h1 0
    have han:=any_snoc (isInst P) pre (⟨(t,q),hq,hqg,hqs⟩:El w)
    rw [h4,Bool.false_or] at han
    dsimp only at han
    have hbW:Below W.heap.size W (W.alloc (.map #[] 0)):=below_alloc (Below.refl _ _) _
    have hwW:=h3.size
    have hsub0:SubOk (W.alloc (.map #[] 0)) (fun k=>k < w.heap.size) W.heap.size 0 noSub:=subOk_new W _
    have hcm:=match_calls P t pf q (W.alloc (.map #[] 0)) (fun k=>k < w.heap.size) (fun k=>k < w.heap.size) W.heap.size 0 noSub ((hP2.below h3).below hbW) ((hq.below h3).below hbW) hgP hqg hqs hsub0 noSub_good (fun k hk=>by omega) (fun k hk=>by omega) (by omega)
    have hfr:∀ w',But W.heap.size (W.alloc (.map #[] 0)) w'→Below W.heap.size W w':=fun w' hb=>hbW.trans (hb.below (Nat.le_refl _) (by simp))
    have HP2:=Aside0.mk (And.intro h0 (And.intro h1 (And.intro h2 (And.intro h3 (And.intro han hfr)))))
    cases hm:matchT P t noSub with
    | none =>
      rw [hm] at hcm
      have hi:isInst P t=false:=by unfold isInst;rw [hm];rfl
      have HC:=Aside0.mk (CallsIn.inRound l ((callsIn_wide (n:=3)).2 hcm))
      clear h0 h1 h2 h3 h4 han hfr hcm hsub0 hbW hwW hm
      rw [show encI pf=.iface pf.1 pf.2 from rfl] at HC
      gi_wp2_with (refine ⟨trivial,?_⟩;gi_at_call 96;refine HC.out.mono ?_;rintro e w4 ⟨hb4,rfl⟩;have H4:=Aside0.mk hb4;clear hb4)
      obtain ⟨h0,h1,h2,h3,han,hfr⟩:=HP2.out
      have hb5:=hfr _ H4.out
      exact ⟨KeepsOthers.of_grownBy (grown_of_below (B:=0) (b:=0) hb5) (fun _ _ e _=>by cases e),KC.below hb5,(KC.below hb5).same _ _ _ _ h0,(KC.below hb5).same _ _ _ _ h1,h2.trans (KC.below hb5),below_step h3 hb5,by rw [han];exact hi⟩
    | some σ =>
      rw [hm] at hcm
      have hi:isInst P t=true:=by unfold isInst;rw [hm];rfl
      have HC:=Aside0.mk (CallsIn.inRound l ((callsIn_wide (n:=3)).2 hcm))
      clear h0 h1 h2 h3 h4 han hfr hcm hsub0 hbW hwW hm
      rw [show encI pf=.iface pf.1 pf.2 from rfl] at HC
      gi_wp2_with (refine ⟨trivial,?_⟩;gi_at_call 96;refine HC.out.mono ?_;rintro e w4 ⟨hb4,rfl,hs4⟩;have H4:=Aside0.mk hb4;have h14:=(KC.below (HP2.out.2.2.2.2.2 _ H4.out)).same _ _ _ _ HP2.out.2.1;have hc4:=blk_cell h14 0;have hz4:w4.frozen? ⟨w.heap.size+1,0,none⟩=false:=(by simp [World.frozen?,h14]);clear hb4 hs4)
      obtain ⟨h0,h1,h2,h3,han,hfr⟩:=HP2.out
      have hb5:=hfr _ H4.out
      exact ⟨(KeepsOthers.of_grownBy (grown_of_below (B:=0) (b:=0) hb5) (fun _ _ e _=>by cases e)).trans (KeepsOthers.setCell _ _ _),rfl,blk_setCell h14 _,(below_step h3 hb5).setCell (p:=⟨w.heap.size+1,0,none⟩) (Nat.le_succ _) _,by rw [han];exact hi⟩
  case done =>
    rintro D xs W hD hS ⟨h0,h1,h2,h3,h4⟩ hK
    have hc1:=blk_cell h1 0
    have hz1:W.frozen? ⟨w.heap.size+1,0,none⟩=false:=by simp [World.frozen?,h1]
    have hocc:r=false:=by rw [hr];unfold comesT;rw [←hS];exact h4
    subst hocc
    clear hr hS
    have HH:=Aside0.mk (And.intro h0 (And.intro h1 h3))
    clear h0 h1 h2 h3 h4
    gi_wp2
    have hK2:=(KeepsOthers.setCell W ⟨w.heap.size+1,0,none⟩ (.bool false)).same D _ hK rfl
    refine ⟨by simp,.inl ⟨_,_,rfl,run_takeDeferred hK2,?_⟩⟩
    obtain ⟨h0,h1,h3⟩:=HH.out
    have hc:=blk_cell ((World.putObj_heap_other (o:=.deferred none) (show w.heap.size+1≠D by omega)).trans (blk_setCell h1 (.bool false))) 0
    refine ⟨.bool false,?_,rfl,(h3.setCell (p:=⟨w.heap.size+1,0,none⟩) (Nat.le_succ _) _).trans (belowK_b (w:=w) (Nat.le_refl _) _ D _ _ (by omega) hK2 rfl rfl)⟩
    simp at hc
    simp [results,Tryz.results79,go_sem,hc]
  case stop =>
    rintro D code pre W hD hS ⟨rfl,h1,h3,h4⟩ hK
    have hocc:r=true:=hr.trans (any_prefix hS h4)
    subst hocc
    clear hr hS
    have HH:=Aside0.mk (And.intro h1 h3)
    clear h1 h3 h4
    gi_wp2
    refine ⟨by simp,.inl ⟨_,_,rfl,run_takeDeferred hK,?_⟩⟩
    obtain ⟨h1,h3⟩:=HH.out
    have hc:=blk_cell ((World.putObj_heap_other (o:=.deferred none) (show w.heap.size+1≠D by omega)).trans h1) 0
    refine ⟨.bool true,?_,rfl,h3.trans (belowK_b (w:=w) (Nat.le_refl _) W D _ _ (by omega) hK rfl rfl)⟩
    simp at hc
    simp [results,Tryz.results79,go_sem,hc]
end
theorem leads1_calls (u T:Tm) (p q:Nat × Value) (B:Nat) (w:World) (ok ok2:Nat→Prop) (hp:Has w ok u p) (hq:Has w ok2 T q) (hgu:u.good) (hgT:T.good) (hsu:u.size≤1000000) (hsT:T.size≤1000000) (hB:w.heap[B]?=some (.cells #[encI q] 99 (0,0))) :
    Calls Tryz.prog 124 #[encI p,.pointer (some ⟨B,0,none⟩)] w fun e w'=>e=.returned (.bool (sameB u T))∧Below w.heap.size w w':=by
  have hc:=blk_cell hB 0
  have HC:=Aside0.mk (same_calls u T p q w ok ok2 hp hq hgu hgT hsu hsT)
  clear hp hq hgu hgT hsu hsT hB
  generalize sameB u T=r at *
  go_enter Tryz.func124,Tryz.ntmps124
  go_wp2_with (go_at_call 125;refine HC.out.mono ?_;rintro e w1 ⟨rfl,hb⟩;have H1:=Aside0.mk hb;clear hb)
  go_ret
  exact ⟨rfl,H1.out⟩
set_option maxRecDepth 100000 in
theorem index_calls (ts:List Tm) (T:Tm) (q:Nat × Value) (B:Nat) (A:Option Addr) (cap:Nat) (w:World) (ok ok2:Nat→Prop) (hL:HasL w ok ts A 0) (hq:Has w ok2 T q) (hg:∀ t,t∈ts→t.good∧t.size≤1000000) (hgT:T.good) (hsT:T.size≤1000000) (hB:w.heap[B]?=some (.cells #[encI q] 99 (0,0))) (hln:ts.length≤1000000) :
    Calls Tryz.prog 146 #[.slice A ts.length cap,.func (.func 124) #[] #[.pointer (some ⟨B,0,none⟩)]] w fun e w'=>∃ k:Int,e=.returned (.int .i64 k)∧decide (k≥0)=ts.any (fun u=>sameB u T)∧Below w.heap.size w w':=by
  have HP:=Aside0.mk (And.intro hL (And.intro hq (And.intro hg (And.intro hgT (And.intro hsT (And.intro hB hln))))))
  clear hL hq hg hgT hsT hB hln
  go_enter Tryz.func146,Tryz.ntmps146
  go_wp2
  go_loopw [8] (fun v8 wr=>∃ (i:Nat),v8=.int .i64 (i:Int)∧Aside0 (i≤ts.length)∧Aside0 ((ts.take i).any (fun u=>sameB u T)=false)∧Aside0 (Below w.heap.size w wr)) (fun v8 _=>ts.length - (intOf v8).toNat)
  case atStart=>exact ⟨0,rfl,⟨Nat.zero_le _⟩,⟨rfl⟩,⟨Below.refl _ _⟩⟩
  case round =>
    obtain ⟨i,rfl,HI,HA,HB⟩:=hrel
    obtain ⟨hL,hq,hg,hgT,hsT,hB,hln⟩:=HP.out
    by_cases hlt:i < ts.length
    · have hlb:decide ((i:Int) < (ts.length:Int))=true:=decide_eq_true (by omega)
      obtain ⟨g,⟨t1,p1⟩,rfl,hc1,hq1⟩:=hL.step' (w':=wr) (fun k hk hl=>HB.out.block k hl) i hlt
      have hm:=hg _ (List.getElem_mem hlt)
      have hcall:=leads1_calls ts[i] T (t1,p1) q B wr ok ok2 hq1 (hq.below HB.out) hm.1 hgT hm.2 hsT ((HB.out.block B (gl_ hB)).trans hB)
      have w1i:wrap64 ((i:Int)+1)=(i:Int)+1:=wrS (by omega) (by omega)
      have hsn:(ts.take (i+1)).any (fun u=>sameB u T)=sameB ts[i] T:=by
        rw [List.take_succ_eq_append_getElem hlt,List.any_append,HA.out]
        simp
      have htr:sameB ts[i] T=true→ts.any (fun u=>sameB u T)=true:=fun h=>List.any_eq_true.2 ⟨ts[i],List.getElem_mem hlt,h⟩
      have HC:=Aside0.mk hcall
      have HH:=Aside0.mk (And.intro hsn htr)
      clear hcall hsn htr hm hq1 hL hq hg hgT hsT hB hln
      generalize sameB ts[i] T=r at *
      unfold encI at hc1 HC
      cases r with
      | true =>
        go_wp2_with (go_at_call 124;refine HC.out.mono ?_;rintro e w1 ⟨rfl,hb⟩;have H1:=Aside0.mk hb;clear hb)
        go_ret
        exact ⟨_,rfl,(decide_eq_true (by omega)).trans (HH.out.2 (by simp)).symm,below_step HB.out H1.out⟩
      | false =>
        go_wp2_with (go_at_call 124;refine HC.out.mono ?_;rintro e w1 ⟨rfl,hb⟩;have H1:=Aside0.mk hb;clear hb)
        rw [w1i]
        refine ⟨⟨i+1,by simp,⟨by omega⟩,⟨HH.out.1⟩,⟨below_step HB.out H1.out⟩⟩,?_⟩
        simp only [intOf]
        omega
    · have hlb:decide ((i:Int) < (ts.length:Int))=false:=decide_eq_false (by omega)
      have hno:ts.any (fun u=>sameB u T)=false:=by have:=HA.out;rwa [List.take_of_length_le (by omega)] at this
      have HN:=Aside0.mk hno
      clear hL hq hg hgT hsT hB hln hno
      go_wp2
      go_ret
      exact ⟨-1,rfl,by rw [HN.out];rfl,HB.out⟩
theorem contains_calls (ts:List Tm) (T:Tm) (q:Nat × Value) (B:Nat) (A:Option Addr) (cap:Nat) (w:World) (ok ok2:Nat→Prop) (hL:HasL w ok ts A 0) (hq:Has w ok2 T q) (hg:∀ t,t∈ts→t.good∧t.size≤1000000) (hgT:T.good) (hsT:T.size≤1000000) (hB:w.heap[B]?=some (.cells #[encI q] 99 (0,0))) (hln:ts.length≤1000000) :
    Calls Tryz.prog 122 #[.slice A ts.length cap,.func (.func 124) #[] #[.pointer (some ⟨B,0,none⟩)]] w fun e w'=>e=.returned (.bool (ts.any (fun u=>sameB u T)))∧Below w.heap.size w w':=by
  have HC:=Aside0.mk (index_calls ts T q B A cap w ok ok2 hL hq hg hgT hsT hB hln)
  clear hL hq hg hgT hsT hB hln
  generalize ts.any (fun u=>sameB u T)=r at *
  generalize ts.length=n at *
  go_enter Tryz.func122,Tryz.ntmps122
  go_wp2_with (go_at_call 146;refine HC.out.mono ?_;rintro e w1 ⟨k,rfl,hk,hb⟩;have H1:=Aside0.mk (And.intro hk hb);clear hb hk)
  go_ret
  rw [←H1.out.1]
  exact ⟨rfl,H1.out.2⟩
end Go.Proofs.YtaafeallcaiooaaGreat.Pr
