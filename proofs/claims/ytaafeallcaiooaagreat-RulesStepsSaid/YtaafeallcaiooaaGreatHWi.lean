/- with: a term with other terms in place of its variables. -/
import Derived.Test.YtaafeallcaiooaaGreatHRt
import Derived.Maps.OwnSet
namespace Go.Proofs.YtaafeallcaiooaaGreat.Pr
open Go.RowKit Go.Proofs.Zw Go.Proofs.Zl Go.Proofs.Zm
set_option linter.unusedVariables false
set_option linter.unusedSimpArgs false
def readT (s:ByteArray):Option Tm:=(pT 61 s 0).bind fun r=>if r.2.1.size=0 then some r.1 else none
def OutR (ok:Nat→Prop) (w:World) (R:Option Tm) (e:Ending) (w':World):Prop :=
  Below w.heap.size w w'∧match R with
  | none=>e=troubled 4
  | some t=>∃ p,e=.returned (encI p)∧Has w' ok t p
set_option maxRecDepth 100000 in
theorem read_calls (ok:Nat→Prop) (s:ByteArray) (w:World) (hok:∀ k,w.heap.size≤k→ok k):Calls Tryz.prog 69 #[.string s] w (OutR ok w (readT s)):=by
  have hb1:(w.alloc (rdCells s 0)).heap[w.heap.size]?=some (rdCells s 0):=blk_new w _
  have hB0:Below w.heap.size w (w.alloc (rdCells s 0)):=below_alloc (Below.refl _ _) _
  have ht:=term_calls 61 w.heap.size ok s 0 (w.alloc (rdCells s 0)) hb1 (fun k hk=>hok k (by simp at hk;omega)) (by omega) (by omega) (by omega)
  have fr:∀ w',But w.heap.size (w.alloc (rdCells s 0)) w'→Below w.heap.size w w':=fun w' h=>hB0.trans (h.below (Nat.le_refl _) (by simp))
  cases hR:pT 61 s 0 with
  | none =>
    have e:readT s=none:=by unfold readT;rw [hR];rfl
    rw [e]
    rw [hR] at ht
    have HT:=Aside0.mk ht
    have HF:=Aside0.mk fr
    clear ht fr hb1 hB0 hok hR e
    go_enter Tryz.func69,Tryz.ntmps69
    go_wp2_with (first|(go_at_call 119;refine HT.out.mono ?_;rintro e w3 ⟨rfl,hb⟩))
    exact ⟨rfl,HF.out _ hb,rfl⟩
  | some r =>
    obtain ⟨t,s',n'⟩:=r
    rw [hR] at ht
    have HT:=Aside0.mk ht
    have HF:=Aside0.mk fr
    by_cases hz:s'.size=0
    · have e:readT s=some t:=by unfold readT;rw [hR];exact if_pos hz
      have he:=toList_empty hz
      rw [e]
      clear ht fr hb1 hB0 hok hR e hz
      go_enter Tryz.func69,Tryz.ntmps69
      go_wp2_with (first|(go_at_call 119;refine HT.out.mono ?_;rintro e w3 ⟨⟨tid,pv⟩,rfl,h1,h2,h3⟩;have hc0:w3.cell? ⟨w.heap.size,0,none⟩=some (.string s'):=blk_cell h2 0;have H1:=Aside0.mk h1;have H3:=Aside0.mk h3;clear h1 h2 h3)|(go_at_call 67;refine (demand_ok 4 _).mono ?_;rintro e w' ⟨rfl,rfl⟩))
      go_ret
      exact ⟨HF.out _ H3.out,(tid,pv),rfl,H1.out⟩
    · have e:readT s=none:=by unfold readT;rw [hR];exact if_neg hz
      have he:=toList_nonempty (show 0 < s'.size by omega)
      rw [e]
      clear ht fr hb1 hB0 hok hR e hz
      go_enter Tryz.func69,Tryz.ntmps69
      go_wp2_with (first|(go_at_call 119;refine HT.out.mono ?_;rintro e w3 ⟨⟨tid,pv⟩,rfl,h1,h2,h3⟩;have hc0:w3.cell? ⟨w.heap.size,0,none⟩=some (.string s'):=blk_cell h2 0;have H1:=Aside0.mk h1;have H3:=Aside0.mk h3;clear h1 h2 h3)|(go_at_call 67;refine (demand_no 4 _).mono ?_;rintro e w' ⟨rfl,rfl⟩))
      exact ⟨rfl,HF.out _ H3.out,rfl⟩
mutual
def Tm.size:Tm→Int
  | .var _=>1
  | .app _ l=>1+Tm.sizes l
def Tm.sizes:List Tm→Int
  | []=>0
  | t :: l=>t.size+Tm.sizes l
end
theorem var_size (c:Int) (w:World):Calls Tryz.prog 189 #[.int .u8 c] w fun e w'=>e=.returned (.int .i64 1)∧w'=w:=by
  go_enter Tryz.func189,Tryz.ntmps189
  go_wp2
  go_ret
  exact ⟨rfl,rfl⟩
def szF (q:Nat × Value):Nat:=if q.1=131 then 189 else 192
def SzOk (t:Tm):Prop:=∀ (q:Nat × Value) (w:World) (ok:Nat→Prop),Has w ok t q→t.size≤1000000→Calls Tryz.prog (szF q) #[q.2] w fun e w'=>e=.returned (.int .i64 t.size)∧Below w.heap.size w w'
mutual
theorem Tm.size_pos:∀ t:Tm,1≤t.size
  | .var _=>by rw [Tm.size];omega
  | .app _ l=>by rw [Tm.size];have:=Tm.sizes_nn l;omega
theorem Tm.sizes_nn:∀ l:List Tm,0≤Tm.sizes l
  | []=>by rw [Tm.sizes];omega
  | t :: l=>by rw [Tm.sizes];have:=Tm.size_pos t;have:=Tm.sizes_nn l;omega
end
theorem wrS {x:Int} (h:0≤x) (h2:x≤10000000):wrap64 x=x:=wr (by omega) (by omega)
theorem sizes_take (l:List Tm):∀ i (h:i < l.length),Tm.sizes (l.take (i+1))=Tm.sizes (l.take i)+l[i].size∧Tm.sizes (l.take (i+1))≤Tm.sizes l:=by
  induction l with
  | nil=>intro i h;simp at h
  | cons t l ih =>
    intro i h
    cases i with
    | zero =>
      have:=Tm.sizes_nn l
      simp [Tm.sizes];omega
    | succ i =>
      have:=ih i (by simpa using h)
      simp [Tm.sizes] at this ⊢;omega
theorem meth_size {w:World} {ok:Nat→Prop} {t:Tm} {tid:Nat} {pv:Value} (h:Has w ok t (tid,pv)) (w':World):(method 337 tid pv "numnah/rules.size").run Tryz.prog w'=.ok (szF (tid,pv),pv) w':=by
  cases t with
  | var c=>rw [Has.var_] at h;cases h;kernel_rfl
  | app s l=>rw [Has.app_] at h;obtain ⟨A,cap,h,_⟩:=h;cases h;kernel_rfl
theorem enters_size {w:World} {ok:Nat→Prop} {t:Tm} {tid:Nat} {pv:Value} (h:Has w ok t (tid,pv)) (args:Array Value) (w':World):(callFunc (szF (tid,pv)) args).run Tryz.prog w'=.ok (.enter (szF (tid,pv)) args) w':=by
  cases t with
  | var c=>rw [Has.var_] at h;cases h;exact enters_ Tryz.func189 (by kernel_rfl) rfl _ _
  | app s l=>rw [Has.app_] at h;obtain ⟨A,cap,h,_⟩:=h;cases h;exact enters_ Tryz.func192 (by kernel_rfl) rfl _ _
theorem below_on {a b c:World} (h:Below a.heap.size a b) (k:Below b.heap.size b c):Below a.heap.size a c:=h.trans (k.mono h.size)
set_option maxRecDepth 100000 in
theorem comp_size (s:Int) (l:List Tm) (ih:∀ x,x∈l→SzOk x) (A:Option Addr) (cap:Nat) (w:World) (ok:Nat→Prop) (hL:HasL w ok l A 0) (hsz:1+Tm.sizes l≤1000000) (hln:l.length≤1000000) :
    Calls Tryz.prog 192 #[.agg #[.int .u8 s,.slice A l.length cap]] w fun e w'=>e=.returned (.int .i64 (1+Tm.sizes l))∧Below w.heap.size w w':=by
  go_enter Tryz.func192,Tryz.ntmps192
  go_wp2
  go_loopw [3,9] (fun v3 v9 wr=>∃ i:Nat,v9=.int .i64 (i:Int)∧v3=.int .i64 (1+Tm.sizes (l.take i))∧i≤l.length∧Aside0 (Below w.heap.size w wr)) (fun _ v9 _=>l.length - (intOf v9).toNat)
  case atStart=>exact ⟨0,rfl,rfl,Nat.zero_le _,⟨below_alloc (Below.refl _ _) _⟩⟩
  case round =>
    obtain ⟨i,rfl,rfl,hi,HB⟩:=hrel
    by_cases hlt:i < l.length
    · have hlb:decide ((i:Int) < (l.length:Int))=true:=decide_eq_true (by omega)
      obtain ⟨g,cs,q,rfl,_,hg,hcs,hq⟩:=hL.get i hlt
      rw [Nat.zero_add] at hcs
      have hgb:=(HB.out.block g (gl_ hg)).trans hg
      have hq2:Has wr ok l[i] q:=hq.below HB.out
      have hcell:wr.cell? ⟨g,i,none⟩=some (encI q):=(blk_cell hgb i).trans hcs
      have hst:=sizes_take l i hlt
      have hsp:=Tm.size_pos l[i]
      have hcall:=ih l[i] (List.getElem_mem hlt) q wr ok hq2 (by have:=Tm.sizes_nn (l.take i);omega)
      have w1:wrap64 ((i:Int)+1)=(i:Int)+1:=wrS (by omega) (by omega)
      have w2:wrap64 (1+Tm.sizes (l.take i)+l[i].size)=1+Tm.sizes (l.take (i+1)):=(wrS (by have:=Tm.sizes_nn (l.take i);omega) (by omega)).trans (by omega)
      have HH:=Aside0.mk (And.intro hst (And.intro hsp (And.intro hi hlt)))
      have HC:=Aside0.mk hcall
      clear hst hsp hi hcall hg hgb hcs hq hln hsz
      generalize l[i]=x at *
      obtain ⟨tid,pv⟩:=q
      obtain ⟨F,hF⟩:∃ F,F=szF (tid,pv):=⟨_,rfl⟩
      have hm1:∀ w,(method 337 tid pv "numnah/rules.size").run Tryz.prog w=.ok (F,pv) w:=hF ▸ meth_size hq2
      have hm2:∀ args w,(callFunc F args).run Tryz.prog w=.ok (.enter F args) w:=hF ▸ enters_size hq2
      clear hq2
      rw [←hF] at HC
      clear hF
      unfold encI at hcell
      go_wp2_with (refine HC.out.mono ?_;rintro e w' ⟨rfl,hb⟩;have HB2:=Aside0.mk (below_on HB.out hb);clear hb)
      obtain ⟨⟨hs1,hs2⟩,hs3,hs4,hs5⟩:=HH.out
      rw [w1,w2]
      exact ⟨⟨i+1,by simp,rfl,by omega,HB2⟩,by simp only [intOf];omega⟩
    · have hlb:decide ((i:Int) < (l.length:Int))=false:=decide_eq_false (by omega)
      have e:l.take i=l:=List.take_of_length_le (by omega)
      rw [e]
      go_wp2
      go_ret
      exact ⟨rfl,HB.out⟩
theorem len_sizes:∀ l:List Tm,(l.length:Int)≤Tm.sizes l
  | []=>by simp [Tm.sizes]
  | t :: l=>by rw [Tm.sizes,List.length_cons];have:=Tm.size_pos t;have:=len_sizes l;omega
theorem sizes_mem:∀ (l:List Tm) (t:Tm),t∈l→t.size≤Tm.sizes l
  | a :: l,t,h=>by
    rw [Tm.sizes]
    have h1:=Tm.size_pos a
    have h2:=Tm.sizes_nn l
    rcases List.mem_cons.1 h with rfl|h
    · omega
    · have:=sizes_mem l t h;omega
mutual
theorem Tm.ind {M:Tm→Prop} (hv:∀ c,M (.var c)) (ha:∀ s l,(∀ x,x∈l→M x)→M (.app s l)):∀ t,M t
  | .var c=>hv c
  | .app s l=>ha s l (Tm.indL hv ha l)
theorem Tm.indL {M:Tm→Prop} (hv:∀ c,M (.var c)) (ha:∀ s l,(∀ x,x∈l→M x)→M (.app s l)):∀ (l:List Tm) (x:Tm),x∈l→M x
  | [],x,h=>nomatch h
  | t :: l,x,h=>(List.mem_cons.1 h).elim (fun e=>e ▸ Tm.ind hv ha t) (Tm.indL hv ha l x)
end
theorem size_calls:∀ t,SzOk t:=by
  refine Tm.ind (fun c q w ok h hs=>?_) (fun s l ih q w ok h hs=>?_)
  · rw [Has.var_] at h
    subst h
    exact (var_size c w).mono (fun e w' hh=>⟨by rw [hh.1,Tm.size],by rw [hh.2];exact Below.refl _ _⟩)
  · rw [Has.app_] at h
    obtain ⟨A,cap,rfl,hc,hL⟩:=h
    rw [Tm.size] at hs
    have:=len_sizes l
    exact (comp_size s l ih A cap w ok hL hs (by omega)).mono (fun e w' hh=>⟨by rw [hh.1,Tm.size],hh.2⟩)
open Go.Maps
def rH (v:Value):Option (DataW Value × List MemPlace):=some (.held v,[])
theorem k131:Keyed Tryz.prog 131:=int_keyed Tryz.underlying131
theorem zero99 (w:World):(zeroValue 99).run Tryz.prog w=.ok .nilIface w:=by kernel_rfl
theorem key131 (c:Int) (hc:0≤c∧c≤255):keyOf Tryz.prog 131 (.int .u8 c)=some (.int .u8 c):=keyOf_int_mk Tryz.underlying131 (by simp [Lit.wf,IntKind.min,IntKind.max,IntKind.bits,IntKind.signed];omega)
def SubOk (w:World) (ok:Nat→Prop) (b n:Nat) (σ:Int→Option Tm):Prop :=
 ∃ D,w.ownsMap Tryz.prog 131 rH b n D∧∀ c,0≤c∧c≤255→match σ c with
  | none=>Maps.has D (.int .u8 c)=false
  | some t=>Maps.has D (.int .u8 c)=true∧∃ p,D.atKey (.int .u8 c) (.held .nilIface)=.held (encI p)∧Has w ok t p
theorem SubOk.step {w w':World} {ok ok':Nat→Prop} {b n:Nat} {σ:Int→Option Tm} (h:SubOk w ok b n σ) (hm:∀ D,w.ownsMap Tryz.prog 131 rH b n D→w'.ownsMap Tryz.prog 131 rH b n D) (hs:∀ k,ok k→k < w.heap.size→ok' k∧w'.heap[k]?=w.heap[k]?):SubOk w' ok' b n σ:=by
 obtain ⟨D,h1,h2⟩:=h
 refine ⟨D,hm D h1,fun c hc=>?_⟩
 have:=h2 c hc
 cases hσ:σ c with
 | none=>rw [hσ] at this;exact this
 | some t =>
  rw [hσ] at this
  obtain ⟨a,p,b,c⟩:=this
  exact ⟨a,p,b,c.step hs⟩
theorem SubOk.lt {w:World} {ok:Nat→Prop} {b n:Nat} {σ:Int→Option Tm} (h:SubOk w ok b n σ):b < w.heap.size:=by
 obtain ⟨D,h1,h2⟩:=h
 exact h1.lt
theorem SubOk.bound {w:World} {ok:Nat→Prop} {b n:Nat} {σ:Int→Option Tm} (h:SubOk w ok b n σ):SubOk w (fun k=>ok k∧k < w.heap.size) b n σ:=h.step (fun _ h=>h) (fun k hk hl=>⟨⟨hk,hl⟩,rfl⟩)
theorem SubOk.mono {w:World} {ok ok':Nat→Prop} {b n:Nat} {σ:Int→Option Tm} (h:SubOk w ok b n σ) (hm:∀ k,ok k→ok' k):SubOk w ok' b n σ:=h.step (fun _ h=>h) (fun k hk _=>⟨hm k hk,rfl⟩)
theorem grown_of_below {B b:Nat} {w w':World} (h:Below w.heap.size w w'):w.grownBy w' none:=⟨h.os,h.tape,h.output,h.size,fun k hk _=>h.block k hk⟩
theorem SubOk.below {w w':World} {ok:Nat→Prop} {b n:Nat} {σ:Int→Option Tm} (h:SubOk w ok b n σ) (hb:Below w.heap.size w w'):SubOk w' ok b n σ :=
 h.step (fun D hD=>hD.kept (grown_of_below (B:=0) (b:=0) hb) (by simp)) (fun k hk hl=>⟨hk,hb.block k hl⟩)
mutual
def Tm.sub (σ:Int→Option Tm):Tm→Tm
 | .var c=>(σ c).getD (.var c)
 | .app s l=>.app s (Tm.subL σ l)
def Tm.subL (σ:Int→Option Tm):List Tm→List Tm
 | []=>[]
 | t :: l=>t.sub σ :: Tm.subL σ l
end
theorem subL_map (σ:Int→Option Tm):∀ l,Tm.subL σ l=l.map (Tm.sub σ)
 | []=>by rw [Tm.subL];rfl
 | t :: l=>by rw [Tm.subL,subL_map σ l];rfl
def wiF (q:Nat × Value):Nat:=if q.1=131 then 191 else 194
theorem meth_with {w:World} {ok:Nat→Prop} {t:Tm} {tid:Nat} {pv:Value} (h:Has w ok t (tid,pv)) (w':World):(method 337 tid pv "numnah/rules.with").run Tryz.prog w'=.ok (wiF (tid,pv),pv) w':=by
 cases t with
 | var c=>rw [Has.var_] at h;cases h;kernel_rfl
 | app s l=>rw [Has.app_] at h;obtain ⟨A,cap,h,_⟩:=h;cases h;kernel_rfl
theorem enters_with {w:World} {ok:Nat→Prop} {t:Tm} {tid:Nat} {pv:Value} (h:Has w ok t (tid,pv)) (args:Array Value) (w':World):(callFunc (wiF (tid,pv)) args).run Tryz.prog w'=.ok (.enter (wiF (tid,pv)) args) w':=by
 cases t with
 | var c=>rw [Has.var_] at h;cases h;exact enters_ Tryz.func191 (by kernel_rfl) rfl _ _
 | app s l=>rw [Has.app_] at h;obtain ⟨A,cap,h,_⟩:=h;cases h;exact enters_ Tryz.func194 (by kernel_rfl) rfl _ _
theorem runInvoke {a:Act} {oi:Oper} {m:Operand} {name:String} {aa:Array Operand} {ts:Array TypeId} {w:World} {tid F:Nat} {pv:Value} (args:Array Value) (hop:oi.op=.call { callee:=.invoke m name,args:=aa,argTypes:=ts }) (hm:a.eval m=.iface tid pv) (hargs:aa.map a.eval=args)
  (h1:(method 337 tid pv name).run Tryz.prog w=.ok (F,pv) w) (h2:∀ args w,(callFunc F args).run Tryz.prog w=.ok (.enter F args) w):(execOp a.eval oi).run Tryz.prog w=.ok (.enter F (#[pv]++args)) w:=by
 subst hargs
 unfold execOp
 have e0:(#[Value.iface tid pv]++Array.map a.eval aa)[0]?=some (Value.iface tid pv):=by simp [Array.getElem?_append]
 have e1:237+Made.depth=337:=rfl
 have e2:(Array.map a.eval aa).extract 0 aa.size=Array.map a.eval aa:=by simp
 simp [hop,resolve,Deferred.ofValue,invoke,hm]
 rw [e0,e2]
 simp [callMethod,e1,h1,h2,Result.andThen]
mutual
def Tm.good:Tm→Prop
 | .var c=>120≤c∧c≤122
 | .app s l=>(97≤s∧s≤102)∧(l.length:Int)=nParts s∧Tm.goods l
def Tm.goods:List Tm→Prop
 | []=>True
 | t :: l=>t.good∧Tm.goods l
end
theorem goods_mem:∀ {l:List Tm} {t:Tm},Tm.goods l→t∈l→t.good
 | a :: l,t,h,hm=>by
  rw [Tm.goods] at h
  rcases List.mem_cons.1 hm with rfl|hm
  ·exact h.1
  ·exact goods_mem h.2 hm
theorem goods_of:∀ {l:List Tm},(∀ t,t∈l→t.good)→Tm.goods l
 | [],_=>by rw [Tm.goods];trivial
 | a :: l,h=>by rw [Tm.goods];exact ⟨h a (by simp),goods_of (fun t ht=>h t (by simp [ht]))⟩
theorem good_len {s:Int} {l:List Tm} (h:Tm.good (.app s l)):l.length≤2:=by
 rw [Tm.good] at h
 have:=h.2.1
 unfold nParts at this
 omega
def WiOk (t:Tm):Prop:=∀ (q:Nat × Value) (w:World) (ok okT:Nat→Prop) (b n:Nat) (σ:Int→Option Tm),Has w okT t q→SubOk w ok b n σ→(∀ k,w.heap.size≤k→ok k)→t.good→Calls Tryz.prog (wiF q) #[q.2,.map (some b)] w fun e w'=>∃ p,e=.returned (encI p)∧Has w' ok (t.sub σ) p∧Below w.heap.size w w'
theorem var_with (c:Int) (hc:0≤c∧c≤255) (w:World) (ok:Nat→Prop) (b n:Nat) (σ:Int→Option Tm) (h:SubOk w ok b n σ) :
  Calls Tryz.prog 191 #[.int .u8 c,.map (some b)] w fun e w'=>∃ p,e=.returned (encI p)∧Has w' ok ((σ c).getD (.var c)) p∧w'=w:=by
 obtain ⟨D,hown,hD⟩:=h
 have hDc:=hD c hc
 cases hσ:σ c with
 | none =>
  rw [hσ] at hDc
  go_enter Tryz.func191,Tryz.ntmps191
  go_wp2_with (at_lookup;refine wpList_lookup_own_ok _ rfl _ _ 128 rfl 131 99 k131 Tryz.underlying128 rH (zero99 _) (.held .nilIface) [] rfl b n D rfl hown _ _ rfl (key131 c hc) ?_;intro v ps hv;rw [hDc])
  go_ret
  exact ⟨131,.int .u8 c,rfl,Has.var_.2 rfl,rfl⟩
 | some t =>
  rw [hσ] at hDc
  obtain ⟨hD1,p,hD2,hp⟩:=hDc
  go_enter Tryz.func191,Tryz.ntmps191
  go_wp2_with (at_lookup;refine wpList_lookup_own_ok _ rfl _ _ 128 rfl 131 99 k131 Tryz.underlying128 rH (zero99 _) (.held .nilIface) [] rfl b n D rfl hown _ _ rfl (key131 c hc) ?_;intro v ps hv;rw [hD1])
  have hv2:v=encI p:=by
   unfold rH at hv
   rw [hD2] at hv
   injection hv with hv
   injection hv with hv1 hv2
   injection hv1
  subst hv2
  go_ret
  exact ⟨p,rfl,hp,rfl⟩
set_option maxHeartbeats 2000000 in
set_option maxRecDepth 100000 in
theorem comp_with (s:Int) (l:List Tm) (ih:∀ x,x∈l→WiOk x) (A:Option Addr) (cap:Nat) (w:World) (ok okT:Nat→Prop) (b n:Nat) (σ:Int→Option Tm) (hL:HasL w okT l A 0) (hs0:SubOk w ok b n σ) (hok:∀ k,w.heap.size≤k→ok k) (hln:l.length≤1000) (hfi:Tm.goods l) :
  Calls Tryz.prog 194 #[.agg #[.int .u8 s,.slice A l.length cap],.map (some b)] w fun e w'=>∃ p,e=.returned (encI p)∧Has w' ok (.app s (l.map (Tm.sub σ))) p∧Below w.heap.size w w':=by
 have hB0:Below w.heap.size w ((w.alloc (.cells #[.int .u8 s,.slice A l.length cap] 149)).alloc (.cells #[.int .u8 s,.slice none 0 0] 149)):=below_alloc (below_alloc (Below.refl _ _) _) _
 have hBk:((w.alloc (.cells #[.int .u8 s,.slice A l.length cap] 149)).alloc (.cells #[.int .u8 s,.slice none 0 0] 149)).heap[w.heap.size+1]?=some (.cells #[.int .u8 s,.slice none 0 0] 149 (0,0)):=by
  have:=blk_new (w.alloc (.cells #[.int .u8 s,.slice A l.length cap] 149)) (.cells #[.int .u8 s,.slice none 0 0] 149)
  simpa using this
 have HS:=Aside0.mk hs0.bound
 have HP:=Aside0.mk (And.intro hB0 (And.intro hBk (And.intro ih (And.intro hL (And.intro hok (And.intro hln hfi))))))
 clear hB0 hBk ih hL hok hln hfi hs0
 go_enter Tryz.func194,Tryz.ntmps194
 go_wp2
 go_loopw [14] (fun v14 wr=>∃ (i:Nat) (acc:List Tm) (vs:List (Nat × Value)) (v2:Value),v14=.int .i64 (i:Int)∧Aside0 (i≤l.length∧l.length≤1000)∧Aside0 (acc=(l.take i).map (Tm.sub σ))∧Aside0 (wr.heap[w.heap.size+1]?=some (.cells #[.int .u8 s,v2] 149 (0,0)))∧Aside0 (Kd.R kI 99 wr (w.heap.size+1) (fun k=>k≠w.heap.size+1) v2 vs)∧Aside0 (acc.length=i∧vs.length=i∧∀ j (h1:j < acc.length) (h2:j < vs.length),Has wr (fun k=>ok k∧k≠w.heap.size+1∧some k≠v2.ownBlock) acc[j] vs[j])∧Aside0 (Below w.heap.size w wr)) (fun v14 _=>l.length - (intOf v14).toNat)
 case atStart =>
  obtain ⟨hB0,hBk,ih,hL,hok,hln,hfi⟩:=HP.out
  exact ⟨0,[],[],.slice none 0 0,rfl,⟨Nat.zero_le _,hln⟩,⟨by simp⟩,⟨hBk⟩,⟨Kd.R_nil _ _ _ _ _⟩,⟨rfl,rfl,fun j h=>absurd h (by simp)⟩,⟨hB0⟩⟩
 case round =>
  obtain ⟨i,acc,vs,v2,rfl,HI,HA,HB2,HO,HT,HW⟩:=hrel
  by_cases hlt:i < l.length
  ·have hlb:decide ((i:Int) < (l.length:Int))=true:=decide_eq_true (by omega)
   obtain ⟨hB0,hBk,ih,hL,hok,hln,hfi⟩:=HP.out
   obtain ⟨g,cs,⟨tid,pv⟩,rfl,_,hg,hcs,hq⟩:=hL.get i hlt
   rw [Nat.zero_add] at hcs
   have hgb:=(HW.out.block g (gl_ hg)).trans hg
   have hq2:Has wr.drew okT l[i] (tid,pv):=(hq.below HW.out).drewN 1
   have hcell:wr.cell? ⟨g,i,none⟩=some (encI (tid,pv)):=(blk_cell hgb i).trans hcs
   have hBl:w.heap.size+1 < wr.heap.size:=(gl_ HB2.out)
   have hsub:SubOk wr.drew (fun k=>ok k∧k≠w.heap.size+1∧some k≠v2.ownBlock) b n σ:=by
    have h1:=(HS.out.below HW.out).mono (ok':=fun k=>ok k∧k≠w.heap.size+1∧some k≠v2.ownBlock) (fun k hk=>⟨hk.1,by omega,fun e=>by have:=Kd.R_base HO.out k e.symm;omega⟩)
    exact h1.below (pw_below_drewN (Below.refl _ _) 1)
   have hcall:=ih l[i] (List.getElem_mem hlt) (tid,pv) wr.drew _ okT b n σ hq2 hsub (fun k hk=>⟨hok k (Nat.le_trans HW.out.size hk),by have h2:wr.heap.size≤k:=hk;omega,fun e=>by have h2:wr.heap.size≤k:=hk;have:=Kd.R_lt HO.out k e.symm;omega⟩) (goods_mem hfi (List.getElem_mem hlt))
   obtain ⟨F,hF⟩:∃ F,F=wiF (tid,pv):=⟨_,rfl⟩
   have hm1:∀ w,(method 337 tid pv "numnah/rules.with").run Tryz.prog w=.ok (F,pv) w:=hF ▸ meth_with hq2
   have hm2:∀ args w,(callFunc F args).run Tryz.prog w=.ok (.enter F args) w:=hF ▸ enters_with hq2
   rw [←hF] at hcall
   have HC:=Aside0.mk hcall
   have e1:(l.take (i+1)).map (Tm.sub σ)=(l.take i).map (Tm.sub σ)++[l[i].sub σ]:=by rw [List.take_succ_eq_append_getElem hlt,List.map_append];rfl
   have HE:=Aside0.mk e1
   have HLT:=Aside0.mk hlt
   generalize l[i]=x at *
   clear hcall hF hq2 hsub hq hg hgb hcs hL ih hok hln hfi hB0 hBk e1
   unfold encI at hcell
   go_wp2
   refine start_ (n:=9) (S:=fun w'=>w'.cell? ⟨w.heap.size+1,1,none⟩=some v2) (ds:=[8]) (bm 9 0) (by kernel_rfl) rfl rfl ((blk_cell (blk_drew HB2.out) 1)) (fun hHeld=>?_)
   refine pk_ 0 18 (bm 9 1) ?_
   refine pk_ 2 20 (bm 9 5) ?_
   refine pk_ 3 21 (bm 9 13) ?_
   refine take_ (i:=1) (N:=some 19) (v:=?_) (a':=?_) (bm 9 15) rfl rfl (by kernel_rfl) (fun _ _ _ h=>h) (Or.inl ⟨by rfl,?_⟩) hHeld ?_ ?_;rotate_left
   ·intro w' s0
    go_simp
    with_reducible rfl
   rotate_left;exact tP_
   refine one_ (i:=4) (N:=some 22) (bm 9 31) rfl rfl (by kernel_rfl) (by decide) (fun K hK=>?_)
   refine callD_ F #[pv,.map (some b)] (by rfl) rfl (runInvoke (pv:=pv) #[.map (some b)] rfl (by rfl) (by simp [Act.eval]) (hm1 _) hm2) ?_
   refine HC.out.mono ?_
   rintro e w5 ⟨⟨tid2,pv2⟩,rfl,ht,hb5⟩
   refine .inl ⟨.iface tid2 pv2,rfl,?_⟩
   have hb5w:Below wr.heap.size wr w5:=⟨hb5.os,hb5.tape,hb5.output,hb5.size,hb5.block⟩
   have HB3:=(hb5w.block _ hBl).trans HB2.out
   have HO3:=Kd.R_step HO.out (fun k hk hl=>hb5w.block k hl)
   have hBl5:w.heap.size+1 < w5.heap.size:=(gl_ HB3)
   have hc3:=blk_cell HB3 1
   refine hK.out _ _ (hc3) (fun hHeld=>?_)
   clear hK K
   refine norm_ (a':=?_) ?_ ?_;rotate_left;(show Act.put _ (some 22) _=_;exact tP_)
   refine one_ (i:=5) (N:=some 23) (bm 9 63) rfl rfl (by kernel_rfl) (by decide) (fun K hK=>?_)
   refine value_ (w1:=?_) (v:=?_) (by rfl) rfl ?_ ?_
   rotate_left 2
   ·go_simp
    constructor
    ·rfl
    ·rfl
   have hc4:=blk_cell (blk_alloc HB3 (.cells #[.iface tid2 pv2] 99)) 1
   refine hK.out _ _ (hc4) (fun hHeld=>?_)
   clear hK K
   refine norm_ (a':=?_) ?_ ?_;rotate_left;(show Act.put _ (some 23) _=_;exact tP_)
   refine one_ (i:=6) (N:=some 24) (bm 9 127) rfl rfl (by kernel_rfl) (by decide) (fun K hK=>?_)
   refine Kd.R_append_step kI (w0:=w5) (w.heap.size+1) (by rfl) (.tmp 19) (.tmp 23) 111 99 .nilIface 16 rfl Tryz.underlying111 info99 rfl (by decide) (by omega) v2 vs (tid2,pv2) [.iface tid2 pv2] (fun k=>k≠w.heap.size+1) (fun _=>False) rfl (by simp [Act.eval]) rfl (fun _ hk=>hk.elim) (fun k hk=>by omega) HO3 (Below.refl _ _) (by omega) (by have:=HT.out.2.1;have:=HI.out;omega) ?_
   intro v3 w6 ho6 hb6 hg6 hat6
   obtain ⟨A3,c3,hv3⟩:=Kd.R_slice ho6
   subst hv3
   have HB6:=(hg6.block _ hBl5 (fun e=>(HO3.1 _ e.symm) rfl)).trans HB3
   have hz6:w6.frozen? ⟨w.heap.size+1,1,none⟩=false:=by simp [World.frozen?,HB6]
   have hc5:w6.cell? ⟨w.heap.size+1,1,none⟩=some v2:=blk_cell HB6 1
   refine hK.out _ _ (hc5) (fun hHeld=>?_)
   clear hK K
   refine norm_ (a':=?_) ?_ ?_;rotate_left;(show Act.put _ (some 24) _=_;exact tP_)
   refine pk_ 7 25 (bm 9 255) ?_
   refine last_ (i:=8) (N:=none) (bm 9 511) rfl rfl (by kernel_rfl) (by decide) (fun K hK=>?_)
   refine skip_ (w1:=?_) (by rfl) rfl ?_ ?_
   rotate_left
   ·go_simp
    rfl
   refine hK.out _ _ ?_
   clear hK K
   refine done_ (by kernel_rfl) ?_
   have w1i:wrap64 ((i:Int)+1)=(i:Int)+1:=wrp i (by have:=HI.out;omega)
   have HH:=Aside0.mk (And.intro ho6 (And.intro hb6 (And.intro hg6 (And.intro hat6 (And.intro HO3 (And.intro HB6 (And.intro ht (And.intro hb5w (And.intro hBl5 hBl)))))))))
   clear ho6 hb6 hg6 hat6 hc5 hz6 hc4 hc3 HB6 HO3 HB3 hb5 ht hb5w hBl5 hBl hcell
   go_wp2
   go_roundw
   case rel =>
    obtain ⟨ho6,hb6,hg6,hat6,HO3,HB6,ht,hb5w,hBl5,hBl⟩:=HH.out
    have hst:∀ {t':Tm} {p':Nat × Value},Has w5 (fun k=>ok k∧k≠w.heap.size+1∧some k≠v2.ownBlock) t' p'→Has (w6.setCell ⟨w.heap.size+1,1,none⟩ (.slice A3 (vs++[(tid2,pv2)]).length c3)) (fun k=>ok k∧k≠w.heap.size+1∧some k≠(Value.slice A3 (vs++[(tid2,pv2)]).length c3).ownBlock) t' p':=by
     intro t' p' hh
     refine Has.step (fun k hk hl=>⟨⟨hk.1,hk.2.1,?_⟩,?_⟩) hh
     ·exact (Below.heap_setCell w6 ⟨w.heap.size+1,1,none⟩ _ k hk.2.1).trans (hg6.block k hl hk.2.2)
     ·intro e
      rcases hat6 with h6|⟨b,h6,h7⟩
      ·exact hk.2.2 (e.trans h6)
      ·rw [h6] at e
       injection e with e
       omega
    have hB7:Below w.heap.size w (w6.setCell ⟨w.heap.size+1,1,none⟩ (.slice A3 (vs++[(tid2,pv2)]).length c3)):=((below_on HW.out hb5w).trans (hb6.mono (by omega))).setCell (p:=⟨w.heap.size+1,1,none⟩) (Nat.le_succ _) _
    have hal:acc.length=vs.length:=by have:=HT.out;omega
    refine ⟨i+1,acc++[x.sub σ],vs++[(tid2,pv2)],.slice A3 (vs++[(tid2,pv2)]).length c3,by rw [w1i];rfl,⟨by have:=HI.out;omega⟩,⟨by rw [HA.out,HE.out]⟩,⟨?_⟩,⟨?_⟩,⟨?_⟩,⟨?_⟩⟩
    ·have h:=(blk_set2 HB6 (.slice A3 (vs++[(tid2,pv2)]).length c3)).2
     simpa using h
    ·have h:=Kd.R_far ho6 (p:=⟨w.heap.size+1,1,none⟩) (fun k hk=>hk) (.slice A3 (vs++[(tid2,pv2)]).length c3)
     simpa using h
    ·refine ⟨by rw [List.length_append,HT.out.1];rfl,by rw [List.length_append,HT.out.2.1];rfl,fun j h1 h2=>?_⟩
     have ex:∀ (x:Nat),x=(vs++[(tid2,pv2)]).length→x=vs.length+1:=fun x hx=>by rw [hx,List.length_append];rfl
     rw [←ex _ rfl]
     by_cases hj:j < acc.length
     ·have hj2:j < vs.length:=by omega
      rw [List.getElem_append_left hj,List.getElem_append_left hj2]
      exact hst ((HT.out.2.2 j hj hj2).below hb5w)
     ·have hj1:j=acc.length:=by rw [List.length_append] at h1;simp at h1;omega
      have hj2:j=vs.length:=by omega
      rw [List.getElem_append_right (by omega),List.getElem_append_right (by omega)]
      simp only [hj1,Nat.sub_self,show acc.length - vs.length=0 by omega,List.getElem_cons_zero]
      exact hst ht
    ·have h:=hB7
     simpa using h
   case measure =>
    rw [w1i]
    simp only [intOf]
    omega
  ·have hlb:decide ((i:Int) < (l.length:Int))=false:=decide_eq_false (by omega)
   have hal:acc.length=vs.length:=by have:=HT.out;omega
   have hc40:wr.cell? ⟨w.heap.size+1,0,none⟩=some (.int .u8 s):=blk_cell HB2.out 0
   have hc41:wr.cell? ⟨w.heap.size+1,1,none⟩=some v2:=blk_cell HB2.out 1
   go_wp2
   obtain ⟨hB0,hBk,ih,hL,hok,hln,hfi⟩:=HP.out
   obtain ⟨A2,cap2,e2,l2,hL2⟩:=hasL_of_R (ok:=ok) HO.out hal (fun j h1 h2=>(HT.out.2.2 j h1 h2).mono (fun k hk=>hk.1)) (fun k hk=>hok k (by have:=Kd.R_base HO.out k hk;omega))
   have ea:acc=l.map (Tm.sub σ):=by rw [HA.out,List.take_of_length_le (by omega)]
   rw [ea] at e2 l2 hL2
   go_ret
   exact ⟨(149,.agg #[.int .u8 s,v2]),rfl,Has.app_.2 ⟨A2,cap2,by rw [e2],l2,hL2⟩,HW.out⟩
theorem with_calls:∀ t,WiOk t:=by
 refine Tm.ind (fun c q w ok okT b n σ h hs hok hf=>?_) (fun s l ih q w ok okT b n σ h hs hok hf=>?_)
 ·rw [Has.var_] at h
  subst h
  rw [Tm.good] at hf
  refine (var_with c (by omega) w ok b n σ hs).mono (fun e w' hh=>?_)
  obtain ⟨p,h1,h2,rfl⟩:=hh
  exact ⟨p,h1,by rw [Tm.sub];exact h2,Below.refl _ _⟩
 ·rw [Has.app_] at h
  obtain ⟨A,cap,rfl,hc,hL⟩:=h
  have hl2:=good_len hf
  rw [Tm.good] at hf
  refine (comp_with s l ih A cap w ok okT b n σ hL hs hok (by omega) hf.2.2).mono (fun e w' hh=>?_)
  obtain ⟨p,h1,h2,h3⟩:=hh
  exact ⟨p,h1,by rw [Tm.sub,subL_map];exact h2,h3⟩
end Go.Proofs.YtaafeallcaiooaaGreat.Pr
