/- slices.Clone at terms. -/
import Derived.Test.YtaafeallcaiooaaGreatHRt
import Derived.Maps.OwnSet
import Derived.Shelf.Strings.Builder1
import Derived.Shelf.Strings.Builder2
import Derived.Shelf.Strings.OnBuilder
import Derived.Shelf.Small.Bits
import Derived.Shelf.Strconv.Itoa0
import Derived.Ground.SlgnProg
import Derived.Shelf.SlicesE.Clone
import Derived.Test.YtaafeallcaiooaaGreatProg
namespace Go.Proofs.YtaafeallcaiooaaGreat.Pr
open Go.RowKit Go.Proofs.Zw Go.Proofs.Zl Go.Proofs.Zm
set_option linter.unusedVariables false
set_option linter.unusedSimpArgs false
def readT (s:ByteArray):Option Tm:=(pT 61 s 0).bind fun r=>if r.2.1.size=0 then some r.1 else none
def OutR (ok:Nat→Prop) (w:World) (R:Option Tm) (e:Ending) (w':World):Prop :=
  Below w.heap.size w w'∧match R with
  | none=>e=troubled 4
  | some t=>∃ p,e=.returned (encI p)∧Has w' ok t p
set_option maxRecDepth 100000 in
theorem read_calls (ok:Nat→Prop) (s:ByteArray) (w:World) (hok:∀ k,w.heap.size≤k→ok k):Calls Tryz.prog 69 #[.string s] w (OutR ok w (readT s)):=by
  have hb1:(w.alloc (rdCells s 0)).heap[w.heap.size]?=some (rdCells s 0):=blk_new w _
  have hB0:Below w.heap.size w (w.alloc (rdCells s 0)):=below_alloc (Below.refl _ _) _
  have ht:=term_calls 61 w.heap.size ok s 0 (w.alloc (rdCells s 0)) hb1 (fun k hk=>hok k (by simp at hk;omega)) (by omega) (by omega) (by omega)
  have fr:∀ w',But w.heap.size (w.alloc (rdCells s 0)) w'→Below w.heap.size w w':=fun w' h=>hB0.trans (h.below (Nat.le_refl _) (by simp))
  cases hR:pT 61 s 0 with
  | none =>
    have e:readT s=none:=by unfold readT;rw [hR];rfl
    rw [e]
    rw [hR] at ht
    have HT:=Aside0.mk ht
    have HF:=Aside0.mk fr
    clear ht fr hb1 hB0 hok hR e
    go_enter Tryz.func69,Tryz.ntmps69
    go_wp2_with (first|(go_at_call 119;refine HT.out.mono ?_;rintro e w3 ⟨rfl,hb⟩))
    exact ⟨rfl,HF.out _ hb,rfl⟩
  | some r =>
    obtain ⟨t,s',n'⟩:=r
    rw [hR] at ht
    have HT:=Aside0.mk ht
    have HF:=Aside0.mk fr
    by_cases hz:s'.size=0
    · have e:readT s=some t:=by unfold readT;rw [hR];exact if_pos hz
      have he:=toList_empty hz
      rw [e]
      clear ht fr hb1 hB0 hok hR e hz
      go_enter Tryz.func69,Tryz.ntmps69
      go_wp2_with (first|(go_at_call 119;refine HT.out.mono ?_;rintro e w3 ⟨⟨tid,pv⟩,rfl,h1,h2,h3⟩;have hc0:w3.cell? ⟨w.heap.size,0,none⟩=some (.string s'):=blk_cell h2 0;have H1:=Aside0.mk h1;have H3:=Aside0.mk h3;clear h1 h2 h3)|(go_at_call 67;refine (demand_ok 4 _).mono ?_;rintro e w' ⟨rfl,rfl⟩))
      go_ret
      exact ⟨HF.out _ H3.out,(tid,pv),rfl,H1.out⟩
    · have e:readT s=none:=by unfold readT;rw [hR];exact if_neg hz
      have he:=toList_nonempty (show 0 < s'.size by omega)
      rw [e]
      clear ht fr hb1 hB0 hok hR e hz
      go_enter Tryz.func69,Tryz.ntmps69
      go_wp2_with (first|(go_at_call 119;refine HT.out.mono ?_;rintro e w3 ⟨⟨tid,pv⟩,rfl,h1,h2,h3⟩;have hc0:w3.cell? ⟨w.heap.size,0,none⟩=some (.string s'):=blk_cell h2 0;have H1:=Aside0.mk h1;have H3:=Aside0.mk h3;clear h1 h2 h3)|(go_at_call 67;refine (demand_no 4 _).mono ?_;rintro e w' ⟨rfl,rfl⟩))
      exact ⟨rfl,HF.out _ H3.out,rfl⟩
mutual
def Tm.size:Tm→Int
  | .var _=>1
  | .app _ l=>1+Tm.sizes l
def Tm.sizes:List Tm→Int
  | []=>0
  | t :: l=>t.size+Tm.sizes l
end
theorem var_size (c:Int) (w:World):Calls Tryz.prog 189 #[.int .u8 c] w fun e w'=>e=.returned (.int .i64 1)∧w'=w:=by
  go_enter Tryz.func189,Tryz.ntmps189
  go_wp2
  go_ret
  exact ⟨rfl,rfl⟩
def szF (q:Nat × Value):Nat:=if q.1=131 then 189 else 192
def SzOk (t:Tm):Prop:=∀ (q:Nat × Value) (w:World) (ok:Nat→Prop),Has w ok t q→t.size≤1000000→Calls Tryz.prog (szF q) #[q.2] w fun e w'=>e=.returned (.int .i64 t.size)∧Below w.heap.size w w'
mutual
theorem Tm.size_pos:∀ t:Tm,1≤t.size
  | .var _=>by rw [Tm.size];omega
  | .app _ l=>by rw [Tm.size];have:=Tm.sizes_nn l;omega
theorem Tm.sizes_nn:∀ l:List Tm,0≤Tm.sizes l
  | []=>by rw [Tm.sizes];omega
  | t :: l=>by rw [Tm.sizes];have:=Tm.size_pos t;have:=Tm.sizes_nn l;omega
end
theorem wrS {x:Int} (h:0≤x) (h2:x≤10000000):wrap64 x=x:=wr (by omega) (by omega)
theorem sizes_take (l:List Tm):∀ i (h:i < l.length),Tm.sizes (l.take (i+1))=Tm.sizes (l.take i)+l[i].size∧Tm.sizes (l.take (i+1))≤Tm.sizes l:=by
  induction l with
  | nil=>intro i h;simp at h
  | cons t l ih =>
    intro i h
    cases i with
    | zero =>
      have:=Tm.sizes_nn l
      simp [Tm.sizes];omega
    | succ i =>
      have:=ih i (by simpa using h)
      simp [Tm.sizes] at this ⊢;omega
theorem meth_size {w:World} {ok:Nat→Prop} {t:Tm} {tid:Nat} {pv:Value} (h:Has w ok t (tid,pv)) (w':World):(method 337 tid pv "numnah/rules.size").run Tryz.prog w'=.ok (szF (tid,pv),pv) w':=by
  cases t with
  | var c=>rw [Has.var_] at h;cases h;kernel_rfl
  | app s l=>rw [Has.app_] at h;obtain ⟨A,cap,h,_⟩:=h;cases h;kernel_rfl
theorem enters_size {w:World} {ok:Nat→Prop} {t:Tm} {tid:Nat} {pv:Value} (h:Has w ok t (tid,pv)) (args:Array Value) (w':World):(callFunc (szF (tid,pv)) args).run Tryz.prog w'=.ok (.enter (szF (tid,pv)) args) w':=by
  cases t with
  | var c=>rw [Has.var_] at h;cases h;exact enters_ Tryz.func189 (by kernel_rfl) rfl _ _
  | app s l=>rw [Has.app_] at h;obtain ⟨A,cap,h,_⟩:=h;cases h;exact enters_ Tryz.func192 (by kernel_rfl) rfl _ _
theorem below_on {a b c:World} (h:Below a.heap.size a b) (k:Below b.heap.size b c):Below a.heap.size a c:=h.trans (k.mono h.size)
set_option maxRecDepth 100000 in
theorem comp_size (s:Int) (l:List Tm) (ih:∀ x,x∈l→SzOk x) (A:Option Addr) (cap:Nat) (w:World) (ok:Nat→Prop) (hL:HasL w ok l A 0) (hsz:1+Tm.sizes l≤1000000) (hln:l.length≤1000000) :
    Calls Tryz.prog 192 #[.agg #[.int .u8 s,.slice A l.length cap]] w fun e w'=>e=.returned (.int .i64 (1+Tm.sizes l))∧Below w.heap.size w w':=by
  go_enter Tryz.func192,Tryz.ntmps192
  go_wp2
  go_loopw [3,9] (fun v3 v9 wr=>∃ i:Nat,v9=.int .i64 (i:Int)∧v3=.int .i64 (1+Tm.sizes (l.take i))∧i≤l.length∧Aside0 (Below w.heap.size w wr)) (fun _ v9 _=>l.length - (intOf v9).toNat)
  case atStart=>exact ⟨0,rfl,rfl,Nat.zero_le _,⟨below_alloc (Below.refl _ _) _⟩⟩
  case round =>
    obtain ⟨i,rfl,rfl,hi,HB⟩:=hrel
    by_cases hlt:i < l.length
    · have hlb:decide ((i:Int) < (l.length:Int))=true:=decide_eq_true (by omega)
      obtain ⟨g,cs,q,rfl,_,hg,hcs,hq⟩:=hL.get i hlt
      rw [Nat.zero_add] at hcs
      have hgb:=(HB.out.block g (gl_ hg)).trans hg
      have hq2:Has wr ok l[i] q:=hq.below HB.out
      have hcell:wr.cell? ⟨g,i,none⟩=some (encI q):=(blk_cell hgb i).trans hcs
      have hst:=sizes_take l i hlt
      have hsp:=Tm.size_pos l[i]
      have hcall:=ih l[i] (List.getElem_mem hlt) q wr ok hq2 (by have:=Tm.sizes_nn (l.take i);omega)
      have w1:wrap64 ((i:Int)+1)=(i:Int)+1:=wrS (by omega) (by omega)
      have w2:wrap64 (1+Tm.sizes (l.take i)+l[i].size)=1+Tm.sizes (l.take (i+1)):=(wrS (by have:=Tm.sizes_nn (l.take i);omega) (by omega)).trans (by omega)
      have HH:=Aside0.mk (And.intro hst (And.intro hsp (And.intro hi hlt)))
      have HC:=Aside0.mk hcall
      clear hst hsp hi hcall hg hgb hcs hq hln hsz
      generalize l[i]=x at *
      obtain ⟨tid,pv⟩:=q
      obtain ⟨F,hF⟩:∃ F,F=szF (tid,pv):=⟨_,rfl⟩
      have hm1:∀ w,(method 337 tid pv "numnah/rules.size").run Tryz.prog w=.ok (F,pv) w:=hF ▸ meth_size hq2
      have hm2:∀ args w,(callFunc F args).run Tryz.prog w=.ok (.enter F args) w:=hF ▸ enters_size hq2
      clear hq2
      rw [←hF] at HC
      clear hF
      unfold encI at hcell
      go_wp2_with (refine HC.out.mono ?_;rintro e w' ⟨rfl,hb⟩;have HB2:=Aside0.mk (below_on HB.out hb);clear hb)
      obtain ⟨⟨hs1,hs2⟩,hs3,hs4,hs5⟩:=HH.out
      rw [w1,w2]
      exact ⟨⟨i+1,by simp,rfl,by omega,HB2⟩,by simp only [intOf];omega⟩
    · have hlb:decide ((i:Int) < (l.length:Int))=false:=decide_eq_false (by omega)
      have e:l.take i=l:=List.take_of_length_le (by omega)
      rw [e]
      go_wp2
      go_ret
      exact ⟨rfl,HB.out⟩
theorem len_sizes:∀ l:List Tm,(l.length:Int)≤Tm.sizes l
  | []=>by simp [Tm.sizes]
  | t :: l=>by rw [Tm.sizes,List.length_cons];have:=Tm.size_pos t;have:=len_sizes l;omega
theorem sizes_mem:∀ (l:List Tm) (t:Tm),t∈l→t.size≤Tm.sizes l
  | a :: l,t,h=>by
    rw [Tm.sizes]
    have h1:=Tm.size_pos a
    have h2:=Tm.sizes_nn l
    rcases List.mem_cons.1 h with rfl|h
    · omega
    · have:=sizes_mem l t h;omega
mutual
theorem Tm.ind {M:Tm→Prop} (hv:∀ c,M (.var c)) (ha:∀ s l,(∀ x,x∈l→M x)→M (.app s l)):∀ t,M t
  | .var c=>hv c
  | .app s l=>ha s l (Tm.indL hv ha l)
theorem Tm.indL {M:Tm→Prop} (hv:∀ c,M (.var c)) (ha:∀ s l,(∀ x,x∈l→M x)→M (.app s l)):∀ (l:List Tm) (x:Tm),x∈l→M x
  | [],x,h=>nomatch h
  | t :: l,x,h=>(List.mem_cons.1 h).elim (fun e=>e ▸ Tm.ind hv ha t) (Tm.indL hv ha l x)
end
theorem size_calls:∀ t,SzOk t:=by
  refine Tm.ind (fun c q w ok h hs=>?_) (fun s l ih q w ok h hs=>?_)
  · rw [Has.var_] at h
    subst h
    exact (var_size c w).mono (fun e w' hh=>⟨by rw [hh.1,Tm.size],by rw [hh.2];exact Below.refl _ _⟩)
  · rw [Has.app_] at h
    obtain ⟨A,cap,rfl,hc,hL⟩:=h
    rw [Tm.size] at hs
    have:=len_sizes l
    exact (comp_size s l ih A cap w ok hL hs (by omega)).mono (fun e w' hh=>⟨by rw [hh.1,Tm.size],hh.2⟩)
open Go.Maps
def rH (v:Value):Option (DataW Value × List MemPlace):=some (.held v,[])
theorem k131:Keyed Tryz.prog 131:=int_keyed Tryz.underlying131
theorem zero99 (w:World):(zeroValue 99).run Tryz.prog w=.ok .nilIface w:=by kernel_rfl
theorem key131 (c:Int) (hc:0≤c∧c≤255):keyOf Tryz.prog 131 (.int .u8 c)=some (.int .u8 c):=keyOf_int_mk Tryz.underlying131 (by simp [Lit.wf,IntKind.min,IntKind.max,IntKind.bits,IntKind.signed];omega)
def SubOk (w:World) (ok:Nat→Prop) (b n:Nat) (σ:Int→Option Tm):Prop :=
 ∃ D,w.ownsMap Tryz.prog 131 rH b n D∧∀ c,0≤c∧c≤255→match σ c with
  | none=>Maps.has D (.int .u8 c)=false
  | some t=>Maps.has D (.int .u8 c)=true∧∃ p,D.atKey (.int .u8 c) (.held .nilIface)=.held (encI p)∧Has w ok t p
theorem SubOk.step {w w':World} {ok ok':Nat→Prop} {b n:Nat} {σ:Int→Option Tm} (h:SubOk w ok b n σ) (hm:∀ D,w.ownsMap Tryz.prog 131 rH b n D→w'.ownsMap Tryz.prog 131 rH b n D) (hs:∀ k,ok k→k < w.heap.size→ok' k∧w'.heap[k]?=w.heap[k]?):SubOk w' ok' b n σ:=by
 obtain ⟨D,h1,h2⟩:=h
 refine ⟨D,hm D h1,fun c hc=>?_⟩
 have:=h2 c hc
 cases hσ:σ c with
 | none=>rw [hσ] at this;exact this
 | some t =>
  rw [hσ] at this
  obtain ⟨a,p,b,c⟩:=this
  exact ⟨a,p,b,c.step hs⟩
theorem SubOk.lt {w:World} {ok:Nat→Prop} {b n:Nat} {σ:Int→Option Tm} (h:SubOk w ok b n σ):b < w.heap.size:=by
 obtain ⟨D,h1,h2⟩:=h
 exact h1.lt
theorem SubOk.bound {w:World} {ok:Nat→Prop} {b n:Nat} {σ:Int→Option Tm} (h:SubOk w ok b n σ):SubOk w (fun k=>ok k∧k < w.heap.size) b n σ:=h.step (fun _ h=>h) (fun k hk hl=>⟨⟨hk,hl⟩,rfl⟩)
theorem SubOk.mono {w:World} {ok ok':Nat→Prop} {b n:Nat} {σ:Int→Option Tm} (h:SubOk w ok b n σ) (hm:∀ k,ok k→ok' k):SubOk w ok' b n σ:=h.step (fun _ h=>h) (fun k hk _=>⟨hm k hk,rfl⟩)
theorem grown_of_below {B b:Nat} {w w':World} (h:Below w.heap.size w w'):w.grownBy w' none:=⟨h.os,h.tape,h.output,h.size,fun k hk _=>h.block k hk⟩
theorem SubOk.below {w w':World} {ok:Nat→Prop} {b n:Nat} {σ:Int→Option Tm} (h:SubOk w ok b n σ) (hb:Below w.heap.size w w'):SubOk w' ok b n σ :=
 h.step (fun D hD=>hD.kept (grown_of_below (B:=0) (b:=0) hb) (by simp)) (fun k hk hl=>⟨hk,hb.block k hl⟩)
mutual
def Tm.sub (σ:Int→Option Tm):Tm→Tm
 | .var c=>(σ c).getD (.var c)
 | .app s l=>.app s (Tm.subL σ l)
def Tm.subL (σ:Int→Option Tm):List Tm→List Tm
 | []=>[]
 | t :: l=>t.sub σ :: Tm.subL σ l
end
theorem subL_map (σ:Int→Option Tm):∀ l,Tm.subL σ l=l.map (Tm.sub σ)
 | []=>by rw [Tm.subL];rfl
 | t :: l=>by rw [Tm.subL,subL_map σ l];rfl
def wiF (q:Nat × Value):Nat:=if q.1=131 then 191 else 194
theorem meth_with {w:World} {ok:Nat→Prop} {t:Tm} {tid:Nat} {pv:Value} (h:Has w ok t (tid,pv)) (w':World):(method 337 tid pv "numnah/rules.with").run Tryz.prog w'=.ok (wiF (tid,pv),pv) w':=by
 cases t with
 | var c=>rw [Has.var_] at h;cases h;kernel_rfl
 | app s l=>rw [Has.app_] at h;obtain ⟨A,cap,h,_⟩:=h;cases h;kernel_rfl
theorem enters_with {w:World} {ok:Nat→Prop} {t:Tm} {tid:Nat} {pv:Value} (h:Has w ok t (tid,pv)) (args:Array Value) (w':World):(callFunc (wiF (tid,pv)) args).run Tryz.prog w'=.ok (.enter (wiF (tid,pv)) args) w':=by
 cases t with
 | var c=>rw [Has.var_] at h;cases h;exact enters_ Tryz.func191 (by kernel_rfl) rfl _ _
 | app s l=>rw [Has.app_] at h;obtain ⟨A,cap,h,_⟩:=h;cases h;exact enters_ Tryz.func194 (by kernel_rfl) rfl _ _
theorem runInvoke {a:Act} {oi:Oper} {m:Operand} {name:String} {aa:Array Operand} {ts:Array TypeId} {w:World} {tid F:Nat} {pv:Value} (args:Array Value) (hop:oi.op=.call { callee:=.invoke m name,args:=aa,argTypes:=ts }) (hm:a.eval m=.iface tid pv) (hargs:aa.map a.eval=args)
  (h1:(method 337 tid pv name).run Tryz.prog w=.ok (F,pv) w) (h2:∀ args w,(callFunc F args).run Tryz.prog w=.ok (.enter F args) w):(execOp a.eval oi).run Tryz.prog w=.ok (.enter F (#[pv]++args)) w:=by
 subst hargs
 unfold execOp
 have e0:(#[Value.iface tid pv]++Array.map a.eval aa)[0]?=some (Value.iface tid pv):=by simp [Array.getElem?_append]
 have e1:237+Made.depth=337:=rfl
 have e2:(Array.map a.eval aa).extract 0 aa.size=Array.map a.eval aa:=by simp
 simp [hop,resolve,Deferred.ofValue,invoke,hm]
 rw [e0,e2]
 simp [callMethod,e1,h1,h2,Result.andThen]
mutual
def Tm.good:Tm→Prop
 | .var c=>120≤c∧c≤122
 | .app s l=>(97≤s∧s≤102)∧(l.length:Int)=nParts s∧Tm.goods l
def Tm.goods:List Tm→Prop
 | []=>True
 | t :: l=>t.good∧Tm.goods l
end
theorem goods_mem:∀ {l:List Tm} {t:Tm},Tm.goods l→t∈l→t.good
 | a :: l,t,h,hm=>by
  rw [Tm.goods] at h
  rcases List.mem_cons.1 hm with rfl|hm
  ·exact h.1
  ·exact goods_mem h.2 hm
theorem goods_of:∀ {l:List Tm},(∀ t,t∈l→t.good)→Tm.goods l
 | [],_=>by rw [Tm.goods];trivial
 | a :: l,h=>by rw [Tm.goods];exact ⟨h a (by simp),goods_of (fun t ht=>h t (by simp [ht]))⟩
theorem good_len {s:Int} {l:List Tm} (h:Tm.good (.app s l)):l.length≤2:=by
 rw [Tm.good] at h
 have:=h.2.1
 unfold nParts at this
 omega
def WiOk (t:Tm):Prop:=∀ (q:Nat × Value) (w:World) (ok okT:Nat→Prop) (b n:Nat) (σ:Int→Option Tm),Has w okT t q→SubOk w ok b n σ→(∀ k,w.heap.size≤k→ok k)→t.good→Calls Tryz.prog (wiF q) #[q.2,.map (some b)] w fun e w'=>∃ p,e=.returned (encI p)∧Has w' ok (t.sub σ) p∧Below w.heap.size w w'
theorem var_with (c:Int) (hc:0≤c∧c≤255) (w:World) (ok:Nat→Prop) (b n:Nat) (σ:Int→Option Tm) (h:SubOk w ok b n σ) :
  Calls Tryz.prog 191 #[.int .u8 c,.map (some b)] w fun e w'=>∃ p,e=.returned (encI p)∧Has w' ok ((σ c).getD (.var c)) p∧w'=w:=by
 obtain ⟨D,hown,hD⟩:=h
 have hDc:=hD c hc
 cases hσ:σ c with
 | none =>
  rw [hσ] at hDc
  go_enter Tryz.func191,Tryz.ntmps191
  go_wp2_with (at_lookup;refine wpList_lookup_own_ok _ rfl _ _ 128 rfl 131 99 k131 Tryz.underlying128 rH (zero99 _) (.held .nilIface) [] rfl b n D rfl hown _ _ rfl (key131 c hc) ?_;intro v ps hv;rw [hDc])
  go_ret
  exact ⟨131,.int .u8 c,rfl,Has.var_.2 rfl,rfl⟩
 | some t =>
  rw [hσ] at hDc
  obtain ⟨hD1,p,hD2,hp⟩:=hDc
  go_enter Tryz.func191,Tryz.ntmps191
  go_wp2_with (at_lookup;refine wpList_lookup_own_ok _ rfl _ _ 128 rfl 131 99 k131 Tryz.underlying128 rH (zero99 _) (.held .nilIface) [] rfl b n D rfl hown _ _ rfl (key131 c hc) ?_;intro v ps hv;rw [hD1])
  have hv2:v=encI p:=by
   unfold rH at hv
   rw [hD2] at hv
   injection hv with hv
   injection hv with hv1 hv2
   injection hv1
  subst hv2
  go_ret
  exact ⟨p,rfl,hp,rfl⟩
set_option maxHeartbeats 2000000 in
set_option maxRecDepth 100000 in
theorem comp_with (s:Int) (l:List Tm) (ih:∀ x,x∈l→WiOk x) (A:Option Addr) (cap:Nat) (w:World) (ok okT:Nat→Prop) (b n:Nat) (σ:Int→Option Tm) (hL:HasL w okT l A 0) (hs0:SubOk w ok b n σ) (hok:∀ k,w.heap.size≤k→ok k) (hln:l.length≤1000) (hfi:Tm.goods l) :
  Calls Tryz.prog 194 #[.agg #[.int .u8 s,.slice A l.length cap],.map (some b)] w fun e w'=>∃ p,e=.returned (encI p)∧Has w' ok (.app s (l.map (Tm.sub σ))) p∧Below w.heap.size w w':=by
 have hB0:Below w.heap.size w ((w.alloc (.cells #[.int .u8 s,.slice A l.length cap] 149)).alloc (.cells #[.int .u8 s,.slice none 0 0] 149)):=below_alloc (below_alloc (Below.refl _ _) _) _
 have hBk:((w.alloc (.cells #[.int .u8 s,.slice A l.length cap] 149)).alloc (.cells #[.int .u8 s,.slice none 0 0] 149)).heap[w.heap.size+1]?=some (.cells #[.int .u8 s,.slice none 0 0] 149 (0,0)):=by
  have:=blk_new (w.alloc (.cells #[.int .u8 s,.slice A l.length cap] 149)) (.cells #[.int .u8 s,.slice none 0 0] 149)
  simpa using this
 have HS:=Aside0.mk hs0.bound
 have HP:=Aside0.mk (And.intro hB0 (And.intro hBk (And.intro ih (And.intro hL (And.intro hok (And.intro hln hfi))))))
 clear hB0 hBk ih hL hok hln hfi hs0
 go_enter Tryz.func194,Tryz.ntmps194
 go_wp2
 go_loopw [14] (fun v14 wr=>∃ (i:Nat) (acc:List Tm) (vs:List (Nat × Value)) (v2:Value),v14=.int .i64 (i:Int)∧Aside0 (i≤l.length∧l.length≤1000)∧Aside0 (acc=(l.take i).map (Tm.sub σ))∧Aside0 (wr.heap[w.heap.size+1]?=some (.cells #[.int .u8 s,v2] 149 (0,0)))∧Aside0 (Kd.R kI 99 wr (w.heap.size+1) (fun k=>k≠w.heap.size+1) v2 vs)∧Aside0 (acc.length=i∧vs.length=i∧∀ j (h1:j < acc.length) (h2:j < vs.length),Has wr (fun k=>ok k∧k≠w.heap.size+1∧some k≠v2.ownBlock) acc[j] vs[j])∧Aside0 (Below w.heap.size w wr)) (fun v14 _=>l.length - (intOf v14).toNat)
 case atStart =>
  obtain ⟨hB0,hBk,ih,hL,hok,hln,hfi⟩:=HP.out
  exact ⟨0,[],[],.slice none 0 0,rfl,⟨Nat.zero_le _,hln⟩,⟨by simp⟩,⟨hBk⟩,⟨Kd.R_nil _ _ _ _ _⟩,⟨rfl,rfl,fun j h=>absurd h (by simp)⟩,⟨hB0⟩⟩
 case round =>
  obtain ⟨i,acc,vs,v2,rfl,HI,HA,HB2,HO,HT,HW⟩:=hrel
  by_cases hlt:i < l.length
  ·have hlb:decide ((i:Int) < (l.length:Int))=true:=decide_eq_true (by omega)
   obtain ⟨hB0,hBk,ih,hL,hok,hln,hfi⟩:=HP.out
   obtain ⟨g,cs,⟨tid,pv⟩,rfl,_,hg,hcs,hq⟩:=hL.get i hlt
   rw [Nat.zero_add] at hcs
   have hgb:=(HW.out.block g (gl_ hg)).trans hg
   have hq2:Has wr.drew okT l[i] (tid,pv):=(hq.below HW.out).drewN 1
   have hcell:wr.cell? ⟨g,i,none⟩=some (encI (tid,pv)):=(blk_cell hgb i).trans hcs
   have hBl:w.heap.size+1 < wr.heap.size:=(gl_ HB2.out)
   have hsub:SubOk wr.drew (fun k=>ok k∧k≠w.heap.size+1∧some k≠v2.ownBlock) b n σ:=by
    have h1:=(HS.out.below HW.out).mono (ok':=fun k=>ok k∧k≠w.heap.size+1∧some k≠v2.ownBlock) (fun k hk=>⟨hk.1,by omega,fun e=>by have:=Kd.R_base HO.out k e.symm;omega⟩)
    exact h1.below (pw_below_drewN (Below.refl _ _) 1)
   have hcall:=ih l[i] (List.getElem_mem hlt) (tid,pv) wr.drew _ okT b n σ hq2 hsub (fun k hk=>⟨hok k (Nat.le_trans HW.out.size hk),by have h2:wr.heap.size≤k:=hk;omega,fun e=>by have h2:wr.heap.size≤k:=hk;have:=Kd.R_lt HO.out k e.symm;omega⟩) (goods_mem hfi (List.getElem_mem hlt))
   obtain ⟨F,hF⟩:∃ F,F=wiF (tid,pv):=⟨_,rfl⟩
   have hm1:∀ w,(method 337 tid pv "numnah/rules.with").run Tryz.prog w=.ok (F,pv) w:=hF ▸ meth_with hq2
   have hm2:∀ args w,(callFunc F args).run Tryz.prog w=.ok (.enter F args) w:=hF ▸ enters_with hq2
   rw [←hF] at hcall
   have HC:=Aside0.mk hcall
   have e1:(l.take (i+1)).map (Tm.sub σ)=(l.take i).map (Tm.sub σ)++[l[i].sub σ]:=by rw [List.take_succ_eq_append_getElem hlt,List.map_append];rfl
   have HE:=Aside0.mk e1
   have HLT:=Aside0.mk hlt
   generalize l[i]=x at *
   clear hcall hF hq2 hsub hq hg hgb hcs hL ih hok hln hfi hB0 hBk e1
   unfold encI at hcell
   go_wp2
   refine start_ (n:=9) (S:=fun w'=>w'.cell? ⟨w.heap.size+1,1,none⟩=some v2) (ds:=[8]) (bm 9 0) (by kernel_rfl) rfl rfl ((blk_cell (blk_drew HB2.out) 1)) (fun hHeld=>?_)
   refine pk_ 0 18 (bm 9 1) ?_
   refine pk_ 2 20 (bm 9 5) ?_
   refine pk_ 3 21 (bm 9 13) ?_
   refine take_ (i:=1) (N:=some 19) (v:=?_) (a':=?_) (bm 9 15) rfl rfl (by kernel_rfl) (fun _ _ _ h=>h) (Or.inl ⟨by rfl,?_⟩) hHeld ?_ ?_;rotate_left
   ·intro w' s0
    go_simp
    with_reducible rfl
   rotate_left;exact tP_
   refine one_ (i:=4) (N:=some 22) (bm 9 31) rfl rfl (by kernel_rfl) (by decide) (fun K hK=>?_)
   refine callD_ F #[pv,.map (some b)] (by rfl) rfl (runInvoke (pv:=pv) #[.map (some b)] rfl (by rfl) (by simp [Act.eval]) (hm1 _) hm2) ?_
   refine HC.out.mono ?_
   rintro e w5 ⟨⟨tid2,pv2⟩,rfl,ht,hb5⟩
   refine .inl ⟨.iface tid2 pv2,rfl,?_⟩
   have hb5w:Below wr.heap.size wr w5:=⟨hb5.os,hb5.tape,hb5.output,hb5.size,hb5.block⟩
   have HB3:=(hb5w.block _ hBl).trans HB2.out
   have HO3:=Kd.R_step HO.out (fun k hk hl=>hb5w.block k hl)
   have hBl5:w.heap.size+1 < w5.heap.size:=(gl_ HB3)
   have hc3:=blk_cell HB3 1
   refine hK.out _ _ (hc3) (fun hHeld=>?_)
   clear hK K
   refine norm_ (a':=?_) ?_ ?_;rotate_left;(show Act.put _ (some 22) _=_;exact tP_)
   refine one_ (i:=5) (N:=some 23) (bm 9 63) rfl rfl (by kernel_rfl) (by decide) (fun K hK=>?_)
   refine value_ (w1:=?_) (v:=?_) (by rfl) rfl ?_ ?_
   rotate_left 2
   ·go_simp
    constructor
    ·rfl
    ·rfl
   have hc4:=blk_cell (blk_alloc HB3 (.cells #[.iface tid2 pv2] 99)) 1
   refine hK.out _ _ (hc4) (fun hHeld=>?_)
   clear hK K
   refine norm_ (a':=?_) ?_ ?_;rotate_left;(show Act.put _ (some 23) _=_;exact tP_)
   refine one_ (i:=6) (N:=some 24) (bm 9 127) rfl rfl (by kernel_rfl) (by decide) (fun K hK=>?_)
   refine Kd.R_append_step kI (w0:=w5) (w.heap.size+1) (by rfl) (.tmp 19) (.tmp 23) 111 99 .nilIface 16 rfl Tryz.underlying111 info99 rfl (by decide) (by omega) v2 vs (tid2,pv2) [.iface tid2 pv2] (fun k=>k≠w.heap.size+1) (fun _=>False) rfl (by simp [Act.eval]) rfl (fun _ hk=>hk.elim) (fun k hk=>by omega) HO3 (Below.refl _ _) (by omega) (by have:=HT.out.2.1;have:=HI.out;omega) ?_
   intro v3 w6 ho6 hb6 hg6 hat6
   obtain ⟨A3,c3,hv3⟩:=Kd.R_slice ho6
   subst hv3
   have HB6:=(hg6.block _ hBl5 (fun e=>(HO3.1 _ e.symm) rfl)).trans HB3
   have hz6:w6.frozen? ⟨w.heap.size+1,1,none⟩=false:=by simp [World.frozen?,HB6]
   have hc5:w6.cell? ⟨w.heap.size+1,1,none⟩=some v2:=blk_cell HB6 1
   refine hK.out _ _ (hc5) (fun hHeld=>?_)
   clear hK K
   refine norm_ (a':=?_) ?_ ?_;rotate_left;(show Act.put _ (some 24) _=_;exact tP_)
   refine pk_ 7 25 (bm 9 255) ?_
   refine last_ (i:=8) (N:=none) (bm 9 511) rfl rfl (by kernel_rfl) (by decide) (fun K hK=>?_)
   refine skip_ (w1:=?_) (by rfl) rfl ?_ ?_
   rotate_left
   ·go_simp
    rfl
   refine hK.out _ _ ?_
   clear hK K
   refine done_ (by kernel_rfl) ?_
   have w1i:wrap64 ((i:Int)+1)=(i:Int)+1:=wrp i (by have:=HI.out;omega)
   have HH:=Aside0.mk (And.intro ho6 (And.intro hb6 (And.intro hg6 (And.intro hat6 (And.intro HO3 (And.intro HB6 (And.intro ht (And.intro hb5w (And.intro hBl5 hBl)))))))))
   clear ho6 hb6 hg6 hat6 hc5 hz6 hc4 hc3 HB6 HO3 HB3 hb5 ht hb5w hBl5 hBl hcell
   go_wp2
   go_roundw
   case rel =>
    obtain ⟨ho6,hb6,hg6,hat6,HO3,HB6,ht,hb5w,hBl5,hBl⟩:=HH.out
    have hst:∀ {t':Tm} {p':Nat × Value},Has w5 (fun k=>ok k∧k≠w.heap.size+1∧some k≠v2.ownBlock) t' p'→Has (w6.setCell ⟨w.heap.size+1,1,none⟩ (.slice A3 (vs++[(tid2,pv2)]).length c3)) (fun k=>ok k∧k≠w.heap.size+1∧some k≠(Value.slice A3 (vs++[(tid2,pv2)]).length c3).ownBlock) t' p':=by
     intro t' p' hh
     refine Has.step (fun k hk hl=>⟨⟨hk.1,hk.2.1,?_⟩,?_⟩) hh
     ·exact (Below.heap_setCell w6 ⟨w.heap.size+1,1,none⟩ _ k hk.2.1).trans (hg6.block k hl hk.2.2)
     ·intro e
      rcases hat6 with h6|⟨b,h6,h7⟩
      ·exact hk.2.2 (e.trans h6)
      ·rw [h6] at e
       injection e with e
       omega
    have hB7:Below w.heap.size w (w6.setCell ⟨w.heap.size+1,1,none⟩ (.slice A3 (vs++[(tid2,pv2)]).length c3)):=((below_on HW.out hb5w).trans (hb6.mono (by omega))).setCell (p:=⟨w.heap.size+1,1,none⟩) (Nat.le_succ _) _
    have hal:acc.length=vs.length:=by have:=HT.out;omega
    refine ⟨i+1,acc++[x.sub σ],vs++[(tid2,pv2)],.slice A3 (vs++[(tid2,pv2)]).length c3,by rw [w1i];rfl,⟨by have:=HI.out;omega⟩,⟨by rw [HA.out,HE.out]⟩,⟨?_⟩,⟨?_⟩,⟨?_⟩,⟨?_⟩⟩
    ·have h:=(blk_set2 HB6 (.slice A3 (vs++[(tid2,pv2)]).length c3)).2
     simpa using h
    ·have h:=Kd.R_far ho6 (p:=⟨w.heap.size+1,1,none⟩) (fun k hk=>hk) (.slice A3 (vs++[(tid2,pv2)]).length c3)
     simpa using h
    ·refine ⟨by rw [List.length_append,HT.out.1];rfl,by rw [List.length_append,HT.out.2.1];rfl,fun j h1 h2=>?_⟩
     have ex:∀ (x:Nat),x=(vs++[(tid2,pv2)]).length→x=vs.length+1:=fun x hx=>by rw [hx,List.length_append];rfl
     rw [←ex _ rfl]
     by_cases hj:j < acc.length
     ·have hj2:j < vs.length:=by omega
      rw [List.getElem_append_left hj,List.getElem_append_left hj2]
      exact hst ((HT.out.2.2 j hj hj2).below hb5w)
     ·have hj1:j=acc.length:=by rw [List.length_append] at h1;simp at h1;omega
      have hj2:j=vs.length:=by omega
      rw [List.getElem_append_right (by omega),List.getElem_append_right (by omega)]
      simp only [hj1,Nat.sub_self,show acc.length - vs.length=0 by omega,List.getElem_cons_zero]
      exact hst ht
    ·have h:=hB7
     simpa using h
   case measure =>
    rw [w1i]
    simp only [intOf]
    omega
  ·have hlb:decide ((i:Int) < (l.length:Int))=false:=decide_eq_false (by omega)
   have hal:acc.length=vs.length:=by have:=HT.out;omega
   have hc40:wr.cell? ⟨w.heap.size+1,0,none⟩=some (.int .u8 s):=blk_cell HB2.out 0
   have hc41:wr.cell? ⟨w.heap.size+1,1,none⟩=some v2:=blk_cell HB2.out 1
   go_wp2
   obtain ⟨hB0,hBk,ih,hL,hok,hln,hfi⟩:=HP.out
   obtain ⟨A2,cap2,e2,l2,hL2⟩:=hasL_of_R (ok:=ok) HO.out hal (fun j h1 h2=>(HT.out.2.2 j h1 h2).mono (fun k hk=>hk.1)) (fun k hk=>hok k (by have:=Kd.R_base HO.out k hk;omega))
   have ea:acc=l.map (Tm.sub σ):=by rw [HA.out,List.take_of_length_le (by omega)]
   rw [ea] at e2 l2 hL2
   go_ret
   exact ⟨(149,.agg #[.int .u8 s,v2]),rfl,Has.app_.2 ⟨A2,cap2,by rw [e2],l2,hL2⟩,HW.out⟩
theorem with_calls:∀ t,WiOk t:=by
 refine Tm.ind (fun c q w ok okT b n σ h hs hok hf=>?_) (fun s l ih q w ok okT b n σ h hs hok hf=>?_)
 ·rw [Has.var_] at h
  subst h
  rw [Tm.good] at hf
  refine (var_with c (by omega) w ok b n σ hs).mono (fun e w' hh=>?_)
  obtain ⟨p,h1,h2,rfl⟩:=hh
  exact ⟨p,h1,by rw [Tm.sub];exact h2,Below.refl _ _⟩
 ·rw [Has.app_] at h
  obtain ⟨A,cap,rfl,hc,hL⟩:=h
  have hl2:=good_len hf
  rw [Tm.good] at hf
  refine (comp_with s l ih A cap w ok okT b n σ hL hs hok (by omega) hf.2.2).mono (fun e w' hh=>?_)
  obtain ⟨p,h1,h2,h3⟩:=hh
  exact ⟨p,h1,by rw [Tm.sub,subL_map];exact h2,h3⟩
end Go.Proofs.YtaafeallcaiooaaGreat.Pr
/-
  DERIVED: THE SHELF's CONTRACTS AT THIS DUMP, IN PLAIN WORDS (tools/lay-plain.mjs out of 'TryzShelf.lean', which tools/lay-shelf.mjs wrote): THE SAME DECLARATIONS UNDER THE SAME NAMES: 'import', 'namespace', 'open', 'def', 'theorem' AND NOTHING ELSE: no command of the shelf's: FOR A HAND-IN. Each laying: the table of numbers ('.._ren') and one theorem, a field a fact of the dump's own or the kernel's comparison; each contract: ONE APPLICATION.
-/
namespace Go.Proofs
open Go.Shelf
def Tryz.lays156_ren:Go.Shelf.Ren:=⟨fun|156=>195|165=>196|166=>197|169=>198|240=>199|241=>200|276=>201|277=>202|n=>n,fun|31=>36|9=>9|3=>3|4=>4|0=>0|20=>20|72=>228|76=>232|70=>226|37=>124|75=>231|127=>220|164=>234|5=>5|80=>132|n=>n,fun|n=>n⟩
theorem Tryz.lays156:Go.Proofs.Lays.n156 Tryz.prog Tryz.lays156_ren:={
  mixed:=by kernel_rfl
  f156:=Tryz.func195.trans (congrArg some (by kernel_rfl))
  f165:=Tryz.func196.trans (congrArg some (by kernel_rfl))
  f166:=Tryz.func197.trans (congrArg some (by kernel_rfl))
  f169:=Tryz.func198.trans (congrArg some (by kernel_rfl))
  f240:=Tryz.func199.trans (congrArg some (by kernel_rfl))
  f241:=Tryz.func200.trans (congrArg some (by kernel_rfl))
  f276:=Tryz.func201.trans (congrArg some (by kernel_rfl))
  f277:=Tryz.func202.trans (congrArg some (by kernel_rfl))
  t0:=Tryz.underlying0
  a0:=Tryz.isAgg0
  z0:=Tryz.sizeOf0
  v0:=Tryz.zeroValue0
  t3:=Tryz.underlying3
  a3:=Tryz.isAgg3
  z3:=Tryz.sizeOf3
  v3:=Tryz.zeroValue3
  t4:=Tryz.underlying4
  a4:=Tryz.isAgg4
  z4:=Tryz.sizeOf4
  v4:=Tryz.zeroValue4
  t9:=Tryz.underlying9
  a9:=Tryz.isAgg9
  z9:=Tryz.sizeOf9
  v9:=Tryz.zeroValue9
  t20:=Tryz.underlying20
  a20:=Tryz.isAgg20
  z20:=Tryz.sizeOf20
  v20:=Tryz.zeroValue20
  t31:=Tryz.underlying36
  a31:=Tryz.isAgg36
  z31:=Tryz.sizeOf36
  v31:=Tryz.zeroValue36
  t37:=Tryz.underlying124
  a37:=Tryz.isAgg124
  z37:=Tryz.sizeOf124
  v37:=Tryz.zeroValue124
  t70:=Tryz.underlying226
  a70:=Tryz.isAgg226
  z70:=Tryz.sizeOf226
  v70:=Tryz.zeroValue226
  t72:=Tryz.underlying228
  a72:=Tryz.isAgg228
  z72:=Tryz.sizeOf228
  v72:=Tryz.zeroValue228
  t75:=Tryz.underlying231
  a75:=Tryz.isAgg231
  z75:=Tryz.sizeOf231
  v75:=Tryz.zeroValue231
  t76:=Tryz.underlying232
  a76:=Tryz.isAgg232
  z76:=Tryz.sizeOf232
  v76:=Tryz.zeroValue232
  t127:=Tryz.underlying220
  a127:=Tryz.isAgg220
  z127:=Tryz.sizeOf220
  v127:=Tryz.zeroValue220
  t164:=Tryz.underlying234
  a164:=Tryz.isAgg234
  z164:=Tryz.sizeOf234
  v164:=Tryz.zeroValue234 }
theorem Tryz.Builder_Extra_156:Builder.Extra Tryz.prog Tryz.lays156_ren:={
  sizeBuilder:=by kernel_rfl
  liesBuilder:=by kernel_rfl
  t5:=Tryz.underlying5
  a5:=Tryz.isAgg5
  z5:=Tryz.sizeOf5
  v5:=Tryz.zeroValue5
  infoByte:=by kernel_rfl
  cellsByte:=by kernel_rfl
  sizeByte:=by kernel_rfl
  neB5:=by decide }
open Go.RowKit in
theorem Tryz.strings_Join (bk o c:Nat) (xs:List ByteArray) (sep:ByteArray) (w:World) (hcells:∀ (j:Nat) x,xs[j]?=some x→w.cell? ⟨bk,o+j,none⟩=some (.string x)) (hbk:bk < w.heap.size) (hN:xs.length≤140737488355328) (hcap:xs.length≤c) (hlen:(Lib.join (xs.map (·.data.toList)) sep.data.toList).length≤140737488355328) :
    Calls Tryz.prog 195 #[.slice (some ⟨bk,o,none⟩) xs.length c,.string sep] w fun e w'=>e=.returned (.string ⟨(Lib.join (xs.map (·.data.toList)) sep.data.toList).toArray⟩)∧Below w.heap.size w w':=Any.strings_Join Tryz.lays156 Tryz.Builder_Extra_156 bk o c xs sep w hcells hbk hN hcap hlen
def Tryz.laysSlE041_f108_ren:Go.Shelf.Ren:=⟨fun|41=>108|n=>n,fun|22=>36|23=>9|4=>4|n=>n,fun|n=>n⟩
theorem Tryz.laysSlE041_f108:Go.Proofs.SlLaysE0.n41 Tryz.prog Tryz.laysSlE041_f108_ren:={
  mixed:=by kernel_rfl
  f41:=⟨Tryz.f108.name,by decide,Tryz.func108.trans (congrArg some (by kernel_rfl))⟩
  t4:=Tryz.underlying4
  a4:=Tryz.isAgg4
  z4:=Tryz.sizeOf4
  v4:=Tryz.zeroValue4
  t22:=Tryz.underlying36
  a22:=Tryz.isAgg36
  z22:=Tryz.sizeOf36
  v22:=Tryz.zeroValue36 }
open Go.RowKit Go.Lib in
theorem Tryz.slices_Clone_f108 (i0:TypeInfo) (z:Value) (size bytes:Nat) (hi:Tryz.prog.info? 9=some i0) (hz0:i0.zero=some z) (hz1:i0.size=size) (hz2:i0.bytes=bytes) (hzs:z.cells.size=size) (hsz:0 < size) (z23:∀ w,(Go.sizeOf 9).run Tryz.prog w=.ok size w) (b off n c:Nat) (news:List Value) (w:World) (hl:news.length=n * size) (hn:n≤maxLen) (hbig:n * bytes≤140737488355328) (hc:∀ j u,news[j]?=some u→w.cell? ⟨b,off+j,none⟩=some u) (h1:∀ u∈news,u.oneCell'=true) :
    Calls Tryz.prog 108 #[.slice (some ⟨b,off,none⟩) n c] w fun e w'=>∃ v',e=.returned v'∧w'.ownsRow w.heap.size 9 size v' n news∧v'≠.slice none 0 0∧Below w.heap.size w w':=AnyE.slices_Clone Tryz.laysSlE041_f108 i0 z size bytes hi hz0 hz1 hz2 hzs hsz z23 b off n c news w hl hn hbig hc h1
end Go.Proofs
namespace Go.Proofs.YtaafeallcaiooaaGreat.Pr
open Go.RowKit Go.Proofs.Zw Go.Proofs.Zl Go.Proofs.Zm
set_option linter.unusedVariables false
set_option linter.unusedSimpArgs false
theorem encode_one {c:Int} (hc:97≤c∧c≤122):Utf8.encode c=⟨#[UInt8.ofNat c.toNat]⟩:=by
  have h:c=97∨c=98∨c=99∨c=100∨c=101∨c=102∨c=103∨c=104∨c=105∨c=106∨c=107∨c=108∨c=109∨c=110∨c=111∨c=112∨c=113∨c=114∨c=115∨c=116∨c=117∨c=118∨c=119∨c=120∨c=121∨c=122:=by omega
  rcases h with rfl|rfl|rfl|rfl|rfl|rfl|rfl|rfl|rfl|rfl|rfl|rfl|rfl|rfl|rfl|rfl|rfl|rfl|rfl|rfl|rfl|rfl|rfl|rfl|rfl|rfl<;>(clear hc;first|rfl|decide)
def ch (c:Int):UInt8:=UInt8.ofNat c.toNat
mutual
def Tm.tx:Tm→List UInt8
  | .var c=>[ch c]
  | .app s l=>if l.isEmpty then [ch s] else [ch s]++[40]++Lib.join (Tm.txs l) [44]++[41]
def Tm.txs:List Tm→List (List UInt8)
  | []=>[]
  | t :: l=>t.tx :: Tm.txs l
end
theorem txs_map:∀ l,Tm.txs l=l.map Tm.tx
  | []=>by rw [Tm.txs];rfl
  | t :: l=>by rw [Tm.txs,txs_map l];rfl
def Tm.text (t:Tm):ByteArray:=⟨t.tx.toArray⟩
theorem join_le (x:List UInt8):∀ (l:List (List UInt8)),(Lib.join l x).length≤(l.map List.length).sum+x.length * l.length
  | []=>by simp [Lib.join]
  | [a]=>by simp [Lib.join]
  | a :: b :: l=>by
    have:=join_le x (b :: l)
    simp [Lib.join,Nat.mul_add] at this ⊢
    omega
mutual
theorem tx_le:∀ t:Tm,(t.tx.length:Int)+1≤4 * t.size
  | .var c=>by simp [Tm.tx,Tm.size]
  | .app s l=>by
    have h1:=txs_le l
    have h2:=join_le [44] (Tm.txs l)
    have h3:(Tm.txs l).length=l.length:=by rw [txs_map];simp
    rw [Tm.tx,Tm.size]
    have:=Tm.sizes_nn l
    split
    · simp;omega
    · simp at h2 ⊢;omega
theorem txs_le:∀ l:List Tm,(((Tm.txs l).map List.length).sum:Int)+l.length≤4 * Tm.sizes l
  | []=>by simp [Tm.txs,Tm.sizes]
  | t :: l=>by
    have h1:=tx_le t
    have h2:=txs_le l
    rw [Tm.txs,Tm.sizes]
    simp at h2 ⊢
    omega
end
def txF (q:Nat × Value):Nat:=if q.1=131 then 190 else 193
theorem meth_text {w:World} {ok:Nat→Prop} {t:Tm} {tid:Nat} {pv:Value} (h:Has w ok t (tid,pv)) (w':World):(method 337 tid pv "numnah/rules.text").run Tryz.prog w'=.ok (txF (tid,pv),pv) w':=by
  cases t with
  | var c=>rw [Has.var_] at h;cases h;kernel_rfl
  | app s l=>rw [Has.app_] at h;obtain ⟨A,cap,h,_⟩:=h;cases h;kernel_rfl
theorem enters_text {w:World} {ok:Nat→Prop} {t:Tm} {tid:Nat} {pv:Value} (h:Has w ok t (tid,pv)) (args:Array Value) (w':World):(callFunc (txF (tid,pv)) args).run Tryz.prog w'=.ok (.enter (txF (tid,pv)) args) w':=by
  cases t with
  | var c=>rw [Has.var_] at h;cases h;exact enters_ Tryz.func190 (by kernel_rfl) rfl _ _
  | app s l=>rw [Has.app_] at h;obtain ⟨A,cap,h,_⟩:=h;cases h;exact enters_ Tryz.func193 (by kernel_rfl) rfl _ _
theorem var_text (c:Int) (hc:97≤c∧c≤122) (w:World):Calls Tryz.prog 190 #[.int .u8 c] w fun e w'=>e=.returned (.string ⟨#[ch c]⟩)∧w'=w:=by
  have h:=encode_one hc
  go_enter Tryz.func190,Tryz.ntmps190
  go_wp2
  go_ret
  exact ⟨rfl,rfl⟩
def TxOk (t:Tm):Prop:=∀ (q:Nat × Value) (w:World) (ok:Nat→Prop),Has w ok t q→t.good→t.size≤1000000→Calls Tryz.prog (txF q) #[q.2] w fun e w'=>e=.returned (.string t.text)∧Below w.heap.size w w'
set_option maxRecDepth 100000 in
theorem comp_text0 (s:Int) (hs:97≤s∧s≤122) (A:Option Addr) (cap:Nat) (w:World) :
    Calls Tryz.prog 193 #[.agg #[.int .u8 s,.slice A 0 cap]] w fun e w'=>e=.returned (.string ⟨#[ch s]⟩)∧Below w.heap.size w w':=by
  have h:=encode_one hs
  have hb:=below_alloc (Below.refl w.heap.size w) (.cells #[.int .u8 s,.slice A 0 cap] 149)
  go_enter Tryz.func193,Tryz.ntmps193
  go_wp2
  go_ret
  exact ⟨rfl,hb⟩
theorem strs_of_R {w:World} {base:Nat} {okr:Nat→Prop} {v:Value} {xs:List ByteArray} (h:Kd.R Kd.string 9 w base okr v xs) (hz:0 < xs.length) :
    ∃ g cap,v=.slice (some ⟨g,0,none⟩) xs.length cap∧xs.length≤cap∧g < w.heap.size∧base≤g∧∀ j x,xs[j]?=some x→w.cell? ⟨g,0+j,none⟩=some (.string x):=by
  obtain ⟨g,cap,rfl,hb,hlt,cells,hc⟩:=Kd.R_form h hz
  obtain ⟨e1,e2,hC⟩:=Kd.R_reads' h
  refine ⟨g,cap,rfl,by omega,(gl_ hc),Kd.R_base h g rfl,fun j x hx=>?_⟩
  have hj2:j < xs.length:=(List.getElem?_eq_some_iff.1 hx).1
  obtain ⟨ad,c,ea,_,hK,hget⟩:=Kd.C_get hC ⟨#[]⟩ (j:Int) (by omega) (by omega)
  have ea2:ad=⟨g,0,none⟩:=by injection ea with ea;exact ea.symm
  subst ea2
  have hK2:c=[.string (xs.getD ((j:Int)).toNat ⟨#[]⟩)]:=hK
  have hxj:xs.getD ((j:Int)).toNat ⟨#[]⟩=x:=by rw [Int.toNat_natCast,List.getD_eq_getElem?_getD,hx];rfl
  rw [hxj] at hK2
  have:=hget 0 (.string x) (by rw [hK2];rfl)
  simp [Addr.add,Kd.string,Kd.scalar] at this
  rw [Nat.zero_add]
  by_cases hj0:j=0
  · subst hj0
    simpa using this
  · simpa [hj0] using this
theorem app_text (s:Int) (l:List Tm) (hl:0 < l.length):Tm.text (.app s l)=⟨#[ch s]++#[40]++(Lib.join (Tm.txs l) [44]).toArray++#[41]⟩:=by
  unfold Tm.text
  rw [Tm.tx,if_neg (by rw [List.isEmpty_iff];intro h;rw [h] at hl;simp at hl)]
  simp
set_option maxHeartbeats 2000000 in
set_option maxRecDepth 100000 in
theorem comp_text (s:Int) (hs:97≤s∧s≤122) (l:List Tm) (ih:∀ x,x∈l→TxOk x) (A:Option Addr) (cap:Nat) (w:World) (ok:Nat→Prop) (hL:HasL w ok l A 0) (hsz:Tm.sizes l≤1000000) (hln:l.length≤1000) (hne:0 < l.length) (hgo:Tm.goods l) :
    Calls Tryz.prog 193 #[.agg #[.int .u8 s,.slice A l.length cap]] w fun e w'=>e=.returned (.string (Tm.text (.app s l)))∧Below w.heap.size w w':=by
  have hBk:(w.alloc (.cells #[.int .u8 s,.slice A l.length cap] 149)).heap[w.heap.size]?=some (.cells #[.int .u8 s,.slice A l.length cap] 149 (0,0)):=blk_new w _
  have hz:((l.length:Int) == 0)=false:=beq_eq_false_iff_ne.2 (by omega)
  have henc:=encode_one hs
  have h32:wrap32 s=s:=by unfold wrap32;omega
  have HP:=Aside0.mk (And.intro hBk (And.intro ih (And.intro hL (And.intro hsz (And.intro hln (And.intro hgo hne))))))
  clear hBk ih hL hsz hln hgo hne
  go_enter Tryz.func193,Tryz.ntmps193
  go_wp2
  go_loopw [3,17] (fun v3 v17 wr=>∃ (i:Nat) (acc:List ByteArray),v17=.int .i64 (i:Int)∧Aside0 (i≤l.length∧l.length≤1000∧acc.length=i)∧Aside0 (acc=(l.take i).map Tm.text)∧Aside0 (Kd.R Kd.string 9 wr (w.heap.size+1) (fun _=>True) v3 acc)∧Aside0 (Below (w.heap.size+1) (w.alloc (.cells #[.int .u8 s,.slice A l.length cap] 149)) wr)) (fun _ v17 _=>l.length - (intOf v17).toNat)
  case atStart =>
    obtain ⟨hBk,ih,hL,hsz,hln,hgo,hne⟩:=HP.out
    exact ⟨0,[],rfl,⟨Nat.zero_le _,hln,rfl⟩,⟨by simp⟩,⟨Kd.R_nil _ _ _ _ _⟩,⟨Below.refl _ _⟩⟩
  case round =>
    obtain ⟨i,acc,rfl,HI,HA,HO,HB⟩:=hrel
    by_cases hlt:i < l.length
    · have hlb:decide ((i:Int) < (l.length:Int))=true:=decide_eq_true (by omega)
      obtain ⟨hBk,ih,hL,hsz,hln,hgo,hne⟩:=HP.out
      obtain ⟨g,cs,⟨tid,pv⟩,rfl,_,hg,hcs,hq⟩:=hL.get i hlt
      rw [Nat.zero_add] at hcs
      have hgl:=(gl_ hg)
      have hg0:=(HB.out.block g (by omega)).trans (blk_alloc hg _)
      have hq2:Has wr ok l[i] (tid,pv):=Has.step (fun k hk hl=>⟨hk,(HB.out.block k (by omega)).trans ((below_alloc (Below.refl _ _) _).block k hl)⟩) hq
      have hcell:wr.cell? ⟨g,i,none⟩=some (encI (tid,pv)):=(blk_cell hg0 i).trans hcs
      have hst:=sizes_take l i hlt
      have hsp:=Tm.size_pos l[i]
      have hcall:=ih l[i] (List.getElem_mem hlt) (tid,pv) wr ok hq2 (goods_mem hgo (List.getElem_mem hlt)) (by have:=Tm.sizes_nn (l.take i);omega)
      obtain ⟨F,hF⟩:∃ F,F=txF (tid,pv):=⟨_,rfl⟩
      have hm1:∀ w,(method 337 tid pv "numnah/rules.text").run Tryz.prog w=.ok (F,pv) w:=hF ▸ meth_text hq2
      have hm2:∀ args w,(callFunc F args).run Tryz.prog w=.ok (.enter F args) w:=hF ▸ enters_text hq2
      rw [←hF] at hcall
      have e1:(l.take (i+1)).map Tm.text=(l.take i).map Tm.text++[l[i].text]:=by rw [List.take_succ_eq_append_getElem hlt,List.map_append];rfl
      have hbs:w.heap.size+1≤wr.heap.size:=by have:=HB.out.size;simp at this;omega
      have HC:=Aside0.mk hcall
      have HE:=Aside0.mk e1
      have HS:=Aside0.mk hbs
      generalize l[i]=x at *
      obtain ⟨X,hX⟩:∃ X,X=x.text:=⟨_,rfl⟩
      have HX:=Aside0.mk hX
      rw [←hX] at HC
      have w1i:wrap64 ((i:Int)+1)=(i:Int)+1:=wrp i (by omega)
      clear hcall hF hq2 hq hg hg0 hgl hcs hL ih hsz hln hgo hne hBk e1 hst hsp hX hbs
      unfold encI at hcell
      go_wp2_with (first
        | (refine HC.out.mono ?_;rintro e w5 ⟨rfl,hb⟩;have n0_:=Aside0.mk (Kd.R_below HO.out hb);have n1_:=Aside0.mk (below_then HB.out HS.out hb);have n2_:=Aside0.mk (Nat.le_trans HS.out hb.size);clear HO HB HS hb;have HO:=n0_;have HB:=n1_;have HS:=n2_;clear n0_ n1_ n2_)
        | ((with_reducible refine gate_builtin (b:=.append) (xs:=#[.tmp 21,.tmp 24]) rfl ?_);at_builtin;refine Kd.R_append Kd.string (w0:=?w0) (w.heap.size+1) rfl (.tmp 21) (.tmp 24) 36 9 (.string ⟨#[]⟩) 16 rfl Tryz.underlying36 info9 rfl (by decide) (by omega) u3 acc X [.string X] (fun _=>True) (fun _=>False) rfl rfl ?aP (fun _ hk=>hk.elim) ?aF ?aO ?aB ?aS ?aL ?_;(case aP=>exact rfl);(case aB=>exact HB.out);(case aF=>exact (fun _ _=>trivial));(case aO=>exact HO.out);(case aS=>exact HS.out);(case aL=>have:=HI.out;omega);intro v616 w7 ho hb hg hat;have n1_:=Aside0.mk (hb);have n2_:=Aside0.mk (ho);clear HB HO;have HB:=n1_;have HO:=n2_;clear n1_ n2_;clear ho hb hg hat))
      rw [w1i]
      refine ⟨⟨i+1,acc++[X],by simp,⟨by omega,HI.out.2.1,by rw [List.length_append,HI.out.2.2];rfl⟩,⟨by rw [HE.out,HA.out,HX.out]⟩,HO,HB⟩,?_⟩
      simp only [intOf]
      omega
    · have hlb:decide ((i:Int) < (l.length:Int))=false:=decide_eq_false (by omega)
      obtain ⟨hBk,ih,hL,hsz,hln,hgo,hne⟩:=HP.out
      have ei:i=l.length:=by have:=HI.out;omega
      have ea:acc=l.map Tm.text:=by rw [HA.out,List.take_of_length_le (by omega)]
      have hblk:=(HB.out.block w.heap.size (by omega)).trans hBk
      have hlt0:=(gl_ hblk)
      have hal:acc.length=l.length:=by have:=HI.out;omega
      obtain ⟨g3,cap3,hv3,hcap3,hg3,hgb3,hcs3⟩:=strs_of_R HO.out (by omega)
      subst hv3
      have hj1:acc.map (·.data.toList)=Tm.txs l:=by rw [ea,txs_map,List.map_map];rfl
      have hj2:(Lib.join (acc.map (·.data.toList)) (⟨#[44]⟩:ByteArray).data.toList).length≤140737488355328:=by
        rw [hj1]
        have h1:=join_le [44] (Tm.txs l)
        have h2:=txs_le l
        have h3:(Tm.txs l).length=l.length:=by rw [txs_map];simp
        simp at h1 h2 ⊢
        omega
      have hlenJ:=Aside0.mk hj2
      have hfin:Tm.text (.app s l)=⟨#[ch s]++#[40]++(Lib.join (acc.map (·.data.toList)) (⟨#[44]⟩:ByteArray).data.toList).toArray++#[41]⟩:=by rw [hj1];exact app_text s l hne
      have HFIN:=Aside0.mk hfin
      clear hfin
      have HB9:Aside0 (Below w.heap.size w wr):=⟨(below_alloc (Below.refl _ _) _).trans (HB.out.mono (Nat.le_succ _))⟩
      clear HP hBk ih hL hsz hgo hj2 hj1 hal ea ei
      go_wp2
      refine start_ (n:=10) (S:=fun w'=>w'.cell? ⟨w.heap.size,0,none⟩=some (.int .u8 s)) (ds:=[]) (bm 10 0) (by kernel_rfl) rfl rfl ((blk_cell (blk_drew hblk) 0)) (fun hHeld=>?_)
      refine pk_ 0 27 (bm 10 1) ?_
      refine pk_ 5 32 (bm 10 33) ?_
      refine take_ (i:=1) (N:=some 28) (v:=?_) (a':=?_) (bm 10 35) rfl rfl (by kernel_rfl) (fun _ _ _ h=>h) (Or.inl ⟨by rfl,?_⟩) hHeld ?_ ?_;rotate_left
      · intro w' s0
        go_simp
        with_reducible rfl
      rotate_left;exact tP_
      refine pk_ 2 29 (bm 10 39) ?_
      refine pk_ 3 30 (bm 10 47) ?_
      refine pk_ 4 31 (bm 10 63) ?_
      refine one_ (i:=6) (N:=some 33) (bm 10 127) rfl rfl (by kernel_rfl) (by decide) (fun K hK=>?_)
      refine goesD_ Tryz.func195 (by kernel_rfl) rfl #[.slice (some ⟨g3,0,none⟩) acc.length cap3,.string ⟨#[44]⟩] (by rfl) rfl rfl (by simp only [List.map_toArray,List.map_cons,List.map_nil];rfl) ?_
      refine (Tryz.strings_Join g3 0 cap3 acc ⟨#[44]⟩ wr.drew (fun j x hx=>(hcs3 j x hx)) hg3 (by have:=HI.out;omega) hcap3 hlenJ.out).mono ?_
      rintro e w5 ⟨rfl,hb5⟩
      obtain ⟨J,hJ⟩:∃ J:ByteArray,J=⟨(Lib.join (acc.map (·.data.toList)) (⟨#[44]⟩:ByteArray).data.toList).toArray⟩:=⟨_,rfl⟩
      rw [←hJ]
      have hJs:J.size≤140737488355328:=by rw [hJ];exact hlenJ.out
      have hl1:¬ 9223372036854775807 < 2+J.size:=by omega
      have hl2:¬ 9223372036854775807 < 2+J.size+1:=by omega
      have HJ:=Aside0.mk hJ
      clear hJ
      refine .inl ⟨_,rfl,?_⟩
      have hb5w:Below wr.heap.size wr w5:=⟨hb5.os,hb5.tape,hb5.output,hb5.size,hb5.block⟩
      have hblk5:=(hb5w.block _ hlt0).trans hblk
      have hc1:=blk_cell hblk5 0
      refine hK.out _ _ (hc1) (fun hHeld=>?_)
      clear hK K
      refine norm_ (a':=?_) ?_ ?_;rotate_left;(show Act.put _ (some 33) _=_;exact tP_)
      refine pk_ 7 34 (bm 10 255) ?_
      refine pk_ 8 35 (bm 10 511) ?_
      refine pk_ 9 2 (bm 10 1023) ?_
      refine done_ (by kernel_rfl) ?_
      go_wp2
      have hout:Tm.text (.app s l)=⟨#[UInt8.ofNat s.toNat]⟩++⟨#[40]⟩++J++⟨#[41]⟩:=by
        rw [HFIN.out,HJ.out]
        apply ByteArray.ext
        simp [ch]
      rw [hout]
      go_ret
      exact ⟨rfl,below_step HB9.out hb5w⟩
theorem text_calls:∀ t,TxOk t:=by
  refine Tm.ind (fun c q w ok h hg hs=>?_) (fun s l ih q w ok h hg hs=>?_)
  · rw [Has.var_] at h
    subst h
    rw [Tm.good] at hg
    refine (var_text c (by omega) w).mono (fun e w' hh=>?_)
    rw [hh.1,hh.2]
    exact ⟨by rw [Tm.text,Tm.tx],Below.refl _ _⟩
  · rw [Has.app_] at h
    obtain ⟨A,cap,rfl,hc,hL⟩:=h
    have hl2:=good_len hg
    rw [Tm.good] at hg
    rw [Tm.size] at hs
    by_cases hl:0 < l.length
    · exact comp_text s (by omega) l ih A cap w ok hL (by omega) (by omega) hl hg.2.2
    · have e0:l=[]:=List.length_eq_zero_iff.1 (by omega)
      subst e0
      refine (comp_text0 s (by omega) A cap w).mono (fun e w' hh=>?_)
      rw [hh.1]
      exact ⟨by rw [Tm.text,Tm.tx];rfl,hh.2⟩
open Go.Maps
def sameB (s t:Tm):Bool:=decide (s.tx=t.tx)
theorem text_beq (s t:Tm):(s.text.toList == t.text.toList)=sameB s t:=by
  unfold sameB
  rw [ByteArray.toList_eq,ByteArray.toList_eq]
  unfold Tm.text
  by_cases h:s.tx=t.tx
  · rw [decide_eq_true h,beq_iff_eq,h]
  · rw [decide_eq_false h,beq_eq_false_iff_ne]
    exact fun e=>h (by simpa using e)
theorem same_calls (s t:Tm) (p q:Nat × Value) (w:World) (ok ok2:Nat→Prop) (hp:Has w ok s p) (hq:Has w ok2 t q) (hs:s.good) (ht:t.good) (h1:s.size≤1000000) (h2:t.size≤1000000) :
    Calls Tryz.prog 125 #[encI p,encI q] w fun e w'=>e=.returned (.bool (sameB s t))∧Below w.heap.size w w':=by
  obtain ⟨tid,pv⟩:=p
  obtain ⟨tid2,pv2⟩:=q
  obtain ⟨F,hF⟩:∃ F,F=txF (tid,pv):=⟨_,rfl⟩
  obtain ⟨G,hG⟩:∃ G,G=txF (tid2,pv2):=⟨_,rfl⟩
  have hm1:∀ w,(method 337 tid pv "numnah/rules.text").run Tryz.prog w=.ok (F,pv) w:=hF ▸ meth_text hp
  have hm2:∀ args w,(callFunc F args).run Tryz.prog w=.ok (.enter F args) w:=hF ▸ enters_text hp
  have hm3:∀ w,(method 337 tid2 pv2 "numnah/rules.text").run Tryz.prog w=.ok (G,pv2) w:=hG ▸ meth_text hq
  have hm4:∀ args w,(callFunc G args).run Tryz.prog w=.ok (.enter G args) w:=hG ▸ enters_text hq
  have c1:=text_calls s (tid,pv) w ok hp hs h1
  have c2:∀ w',Below w.heap.size w w'→_:=fun w' hb=>text_calls t (tid2,pv2) w' ok2 (hq.below hb) ht h2
  rw [←hF] at c1
  rw [←hG] at c2
  rw [←text_beq]
  obtain ⟨X,hX⟩:∃ X,X=s.text:=⟨_,rfl⟩
  obtain ⟨Y,hY⟩:∃ Y,Y=t.text:=⟨_,rfl⟩
  rw [←hX] at c1 ⊢
  rw [←hY] at c2 ⊢
  have C1:=Aside0.mk c1
  have C2:=Aside0.mk c2
  clear c1 c2 hp hq hs ht h1 h2 hF hG hX hY
  unfold encI
  go_enter Tryz.func125,Tryz.ntmps125
  go_wp2_with (first
    | (refine C1.out.mono ?_;rintro e w1 ⟨rfl,hb⟩;have B1:=Aside0.mk hb;clear hb)
    | (refine (C2.out _ B1.out).mono ?_;rintro e w2 ⟨rfl,hb⟩;have B2:=Aside0.mk (below_step B1.out hb);clear hb))
  go_ret
  exact ⟨rfl,B2.out⟩
abbrev Sub:=Int→Option Tm
def upd (σ:Sub) (c:Int) (t:Tm):Sub:=fun d=>if d=c then some t else σ d
def SubGood (σ:Sub):Prop:=∀ c u,σ c=some u→u.good∧u.size≤1000000
theorem SubGood.upd {σ:Sub} {c:Int} {t:Tm} (h:SubGood σ) (hg:t.good) (hs:t.size≤1000000):SubGood (upd σ c t):=by
  intro d u hu
  unfold Pr.upd at hu
  split at hu
  · injection hu with hu
    subst hu
    exact ⟨hg,hs⟩
  · exact h d u hu
mutual
def matchT:Tm→Tm→Sub→Option Sub
  | .var c,t,σ=>match σ c with
    | some old=>if sameB old t then some σ else none
    | none=>some (upd σ c t)
  | .app s l,.app s' l',σ=>if s'=s then matchL l l' σ else none
  | .app _ _,.var _,_=>none
def matchL:List Tm→List Tm→Sub→Option Sub
  | [],_,σ=>some σ
  | p :: ps,t :: ts,σ=>(matchT p t σ).bind fun σ'=>matchL ps ts σ'
  | _ :: _,[],_=>none
end
mutual
theorem matchT_good:∀ (p t:Tm) (σ σ':Sub),SubGood σ→t.good→t.size≤1000000→matchT p t σ=some σ'→SubGood σ'
  | .var c,t,σ,σ',h,hg,hs,e=>by
    rw [matchT] at e
    split at e
    · split at e
      · injection e with e
        subst e
        exact h
      · cases e
    · injection e with e
      subst e
      exact h.upd hg hs
  | .app s l,.app s' l',σ,σ',h,hg,hs,e=>by
    rw [matchT] at e
    rw [Tm.good] at hg
    rw [Tm.size] at hs
    split at e
    · exact matchL_good l l' σ σ' h hg.2.2 (by omega) e
    · cases e
  | .app _ _,.var _,_,_,_,_,_,e=>by rw [matchT] at e;cases e
theorem matchL_good:∀ (p t:List Tm) (σ σ':Sub),SubGood σ→Tm.goods t→Tm.sizes t≤1000000→matchL p t σ=some σ'→SubGood σ'
  | [],_,σ,σ',h,_,_,e=>by
    rw [matchL] at e
    injection e with e
    subst e
    exact h
  | p :: ps,t :: ts,σ,σ',h,hg,hs,e=>by
    rw [matchL] at e
    rw [Tm.goods] at hg
    rw [Tm.sizes] at hs
    have h1:=Tm.size_pos t
    have h2:=Tm.sizes_nn ts
    cases hm:matchT p t σ with
    | none=>rw [hm] at e;cases e
    | some σ1 =>
      rw [hm] at e
      exact matchL_good ps ts σ1 σ' (matchT_good p t σ σ1 h hg.1 (by omega) hm) hg.2 (by omega) e
  | _ :: _,[],_,_,_,_,_,e=>by rw [matchL] at e;cases e
end
theorem SubOk.put {w w1:World} {ok:Nat→Prop} {b n:Nat} {σ:Sub} {D:DataW Value} {c:Int} {t:Tm} {p:Nat × Value} (hown:w.ownsMap Tryz.prog 131 rH b n D) (hD:∀ c,0≤c∧c≤255→match σ c with
    | none=>Maps.has D (.int .u8 c)=false
    | some t=>Maps.has D (.int .u8 c)=true∧∃ p,D.atKey (.int .u8 c) (.held .nilIface)=.held (encI p)∧Has w ok t p) (ht:Has w ok t p)
    (h1:w1.ownsMap Tryz.prog 131 rH b (n+1) (D.put (.int .u8 c) (.held (encI p)))) (hg:w.grownBy w1 (some b)) (hb:∀ k,ok k→k≠b):SubOk w1 ok b (n+1) (upd σ c t):=by
  have hst:∀ k,ok k→k < w.heap.size→ok k∧w1.heap[k]?=w.heap[k]?:=fun k hk hl=>⟨hk,hg.block k hl (fun e=>hb k hk (by injection e))⟩
  refine ⟨_,h1,fun d hd=>?_⟩
  unfold upd
  by_cases hdc:d=c
  · subst hdc
    rw [if_pos rfl]
    exact ⟨has_put_same hown.isMap (by trivial) _,p,atKey_put_same hown.isMap (by trivial) _ _,ht.step hst⟩
  · rw [if_neg hdc]
    have hne:(Lit.int .u8 d)≠(Lit.int .u8 c):=fun e=>hdc (by injection e)
    rw [has_put_other hne,atKey_put_other hne]
    have:=hD d hd
    cases hs:σ d with
    | none=>rw [hs] at this;exact this
    | some u =>
      rw [hs] at this
      obtain ⟨a,q,b1,c1⟩:=this
      exact ⟨a,q,b1,c1.step hst⟩
def OutM (w:World) (ok:Nat→Prop) (b n:Nat) (R:Option Sub) (e:Ending) (w':World):Prop :=
  But b w w'∧match R with
  | none=>e=.returned (.bool false)
  | some σ'=>e=.returned (.bool true)∧SubOk w' ok b n σ'
section
attribute [local go_sem] asVV asVC asCC asCV
set_option maxRecDepth 100000 in
theorem match_var (c:Int) (hc:0≤c∧c≤255) (T:Tm) (q:Nat × Value) (w:World) (ok:Nat→Prop) (b n:Nat) (σ:Sub) (hT:Has w ok T q) (hg:T.good) (hs:T.size≤1000000) (hσ:SubOk w ok b n σ) (hG:SubGood σ) (hb:∀ k,ok k→k≠b) (hn:n≤1000000) :
    Calls Tryz.prog 96 #[.iface 131 (.int .u8 c),encI q,.map (some b)] w (OutM w ok b (n+1) (matchT (.var c) T σ)):=by
  have hσ0:=hσ
  obtain ⟨D,hown,hD⟩:=hσ
  have hDc:=hD c hc
  rw [matchT]
  cases hσc:σ c with
  | none =>
    rw [hσc] at hDc
    have HH:=Aside0.mk (And.intro hD hT)
    clear hD hT hσ0
    go_enter Tryz.func96,Tryz.ntmps96
    go_wp2_with (first
      | (at_lookup;refine wpList_lookup_own_ok _ rfl _ _ 128 rfl 131 99 k131 Tryz.underlying128 rH (zero99 _) (.held .nilIface) [] rfl b n D rfl hown _ _ rfl (key131 c hc) ?_;intro v ps hv;rw [hDc];clear hv)
      | (at_mapUpdate;refine wpList_mapUpdate_own _ rfl _ _ _ 128 rfl 131 99 k131 Tryz.underlying128 rH b n D rfl hown (by unfold maxLen;omega) (.int .u8 c) (encI q) (.int .u8 c) rfl rfl (key131 c hc) (.held (encI q)) [] rfl ?_;intro w1 hown1 hgrow1;have H1:=Aside0.mk (And.intro hown1 hgrow1);clear hown1 hgrow1))
    go_ret
    obtain ⟨hown1,hgrow1⟩:=H1.out
    obtain ⟨hD,hT⟩:=HH.out
    exact ⟨⟨hgrow1.os,hgrow1.tape,hgrow1.output,hgrow1.size,fun k hk hkb=>hgrow1.block k hk (fun e=>hkb (by injection e))⟩,rfl,SubOk.put hown hD hT hown1 hgrow1 hb⟩
  | some old =>
    rw [hσc] at hDc
    obtain ⟨hD1,p,hD2,hp⟩:=hDc
    have hgo:=hG c old hσc
    have hc1:=same_calls old T p q w ok ok hp hT hgo.1 hg hgo.2 hs
    have hfin:∀ w',Below w.heap.size w w'→OutM w ok b (n+1) (if sameB old T then some σ else none) (.returned (.bool (sameB old T))) w':=by
      intro w' hb1
      refine ⟨But.of_below hb1,?_⟩
      cases sameB old T with
      | true=>exact ⟨rfl,by
          obtain ⟨D',h1,h2⟩:=hσ0.below hb1
          exact ⟨D',h1.mono (Nat.le_succ _),h2⟩⟩
      | false=>rfl
    show Calls Tryz.prog 96 _ w (OutM w ok b (n+1) (if sameB old T then some σ else none))
    generalize (if sameB old T then some σ else none)=R at *
    have HC:=Aside0.mk hc1
    have HH:=Aside0.mk (And.intro hD (And.intro hT (And.intro hσ0 (And.intro hb hfin))))
    clear hD hT hσ0 hc1 hp hb hfin
    go_enter Tryz.func96,Tryz.ntmps96
    go_wp2_with (first
      | (at_lookup;refine wpList_lookup_own_ok _ rfl _ _ 128 rfl 131 99 k131 Tryz.underlying128 rH (zero99 _) (.held .nilIface) [] rfl b n D rfl hown _ _ rfl (key131 c hc) ?_;intro v ps hv;rw [hD1];obtain rfl:v=encI p:=(by unfold rH at hv;rw [hD2] at hv;injection hv with hv;injection hv with hv1 hv2;injection hv1);clear hv)
      | (go_at_call 125;refine HC.out.mono ?_;rintro e w1 ⟨rfl,hb1⟩;have H1:=Aside0.mk hb1;clear hb1))
    all_goals (go_ret;exact HH.out.2.2.2.2 _ H1.out)
theorem HasL.step' {w w':World} {ok:Nat→Prop} {l:List Tm} {A:Option Addr} (hL:HasL w ok l A 0) (h:∀ k,ok k→k < w.heap.size→w'.heap[k]?=w.heap[k]?) (i:Nat) (hi:i < l.length) :
    ∃ g p,A=some ⟨g,0,none⟩∧w'.cell? ⟨g,i,none⟩=some (encI p)∧Has w' ok l[i] p:=by
  obtain ⟨g,cs,p,h1,h2,h3,h4,h5⟩:=hL.get i hi
  rw [Nat.zero_add] at h4
  have hgl:=(gl_ h3)
  exact ⟨g,p,h1,(blk_cell ((h g h2 hgl).trans h3) i).trans h4,h5.step (fun k hk hl=>⟨hk,h k hk hl⟩)⟩
def MaOk (P:Tm):Prop:=∀ (T:Tm) (p q:Nat × Value) (w:World) (ok okP:Nat→Prop) (b n:Nat) (σ:Sub),Has w okP P p→Has w ok T q→P.good→T.good→T.size≤1000000→SubOk w ok b n σ→SubGood σ→(∀ k,ok k→k≠b)→(∀ k,okP k→k≠b)→(n:Int)+P.size≤1000000 →
  Calls Tryz.prog 96 #[encI p,encI q,.map (some b)] w (OutM w ok b (n+P.size.toNat) (matchT P T σ))
set_option maxHeartbeats 1000000 in
set_option maxRecDepth 100000 in
theorem match_app (s:Int) (l l':List Tm) (ih:∀ x,x∈l→MaOk x) (A A':Option Addr) (cap cap':Nat) (w:World) (ok okP:Nat→Prop) (b n:Nat) (σ:Sub) (hL:HasL w okP l A 0) (hL':HasL w ok l' A' 0) (hg:Tm.goods l) (hg':Tm.goods l') (hll:l.length=l'.length) (hs':Tm.sizes l'≤1000000) (hσ:SubOk w ok b n σ) (hG:SubGood σ) (hb:∀ k,ok k→k≠b) (hbP:∀ k,okP k→k≠b) (hn:(n:Int)+Tm.sizes l≤1000000) (hl2:l.length≤1000) (R:Option Sub) (hR:R=matchL l l' σ) :
    Calls Tryz.prog 96 #[.iface 149 (.agg #[.int .u8 s,.slice A l.length cap]),.iface 149 (.agg #[.int .u8 s,.slice A' l'.length cap']),.map (some b)] w (OutM w ok b (n+(Tm.sizes l).toNat) R):=by
  have hbl:=hσ.lt
  have hB2:Below w.heap.size w ((w.alloc (.cells #[.int .u8 s,.slice A l.length cap] 149)).alloc (.cells #[.int .u8 s,.slice A' l'.length cap'] 149)):=below_alloc (below_alloc (Below.refl _ _) _) _
  have hsz2:((w.alloc (.cells #[.int .u8 s,.slice A l.length cap] 149)).alloc (.cells #[.int .u8 s,.slice A' l'.length cap'] 149)).heap.size=w.heap.size+2:=by simp
  have hcB:((w.alloc (.cells #[.int .u8 s,.slice A l.length cap] 149)).alloc (.cells #[.int .u8 s,.slice A' l'.length cap'] 149)).heap[w.heap.size+1]?=some (.cells #[.int .u8 s,.slice A' l'.length cap'] 149 (0,0)):=by
    have:=blk_new (w.alloc (.cells #[.int .u8 s,.slice A l.length cap] 149)) (.cells #[.int .u8 s,.slice A' l'.length cap'] 149)
    simpa using this
  have HP:=Aside0.mk (And.intro ih (And.intro hL (And.intro hL' (And.intro hg (And.intro hg' (And.intro hs' (And.intro hσ (And.intro hG (And.intro hb (And.intro hbP (And.intro hn (And.intro hl2 (And.intro hR (And.intro hbl (And.intro hB2 (And.intro hsz2 hcB))))))))))))))))
  have HLL:=Aside0.mk hll
  clear ih hL hL' hg hg' hs' hσ hG hb hbP hn hl2 hR hbl hB2 hsz2 hcB hll
  go_enter Tryz.func96,Tryz.ntmps96
  go_wp2
  go_loopw [52] (fun v52 wr=>∃ (i:Nat) (σi:Sub) (ni:Nat),v52=.int .i64 (i:Int)∧Aside0 (i≤l.length)∧Aside0 (R=matchL (l.drop i) (l'.drop i) σi)∧Aside0 (SubOk wr ok b ni σi)∧Aside0 (SubGood σi)∧Aside0 ((ni:Int)+Tm.sizes (l.drop i)≤n+Tm.sizes l)∧Aside0 (But b ((w.alloc (.cells #[.int .u8 s,.slice A l.length cap] 149)).alloc (.cells #[.int .u8 s,.slice A' l'.length cap'] 149)) wr)) (fun v52 _=>l.length - (intOf v52).toNat)
  case atStart =>
    obtain ⟨ih,hL,hL',hg,hg',hs',hσ,hG,hb,hbP,hn,hl2,hR,hbl,hB2,hsz2,hcB⟩:=HP.out
    exact ⟨0,σ,n,rfl,⟨Nat.zero_le _⟩,⟨by rw [List.drop_zero,List.drop_zero];exact hR⟩,⟨hσ.below hB2⟩,⟨hG⟩,⟨by rw [List.drop_zero];omega⟩,⟨But.refl _ _⟩⟩
  case round =>
    obtain ⟨i,σi,ni,rfl,HI,HR,HS,HG,HN,HB⟩:=hrel
    obtain ⟨ih,hL,hL',hg,hg',hs',hσ,hG,hb,hbP,hn,hl2,hR,hbl,hB2,hsz2,hcB⟩:=HP.out
    have hfr:∀ k,k≠b→k < w.heap.size→wr.heap[k]?=w.heap[k]?:=fun k hk hl=>(HB.out.block k (by omega) hk).trans (hB2.block k hl)
    by_cases hlt:i < l.length
    · have hlb:decide ((i:Int) < (l.length:Int))=true:=decide_eq_true (by omega)
      have hlt':i < l'.length:=by have:=HLL.out;omega
      obtain ⟨g,⟨t1,v1⟩,rfl,hc1,hq1⟩:=hL.step' (fun k hk hl=>hfr k (hbP k hk) hl) i hlt
      obtain ⟨g',⟨t2,v2⟩,rfl,hc2,hq2⟩:=hL'.step' (fun k hk hl=>hfr k (hb k hk) hl) i hlt'
      have hcB2:=(HB.out.block (w.heap.size+1) (by omega) (by omega)).trans hcB
      have hcF:wr.cell? ⟨w.heap.size+1,1,none⟩=some (.slice (some ⟨g',0,none⟩) l'.length cap'):=blk_cell hcB2 1
      have hd1:l.drop i=l[i] :: l.drop (i+1):=List.drop_eq_getElem_cons hlt
      have hd2:l'.drop i=l'[i] :: l'.drop (i+1):=List.drop_eq_getElem_cons hlt'
      have hm1:l[i]∈l:=List.getElem_mem hlt
      have hm2:l'[i]∈l':=List.getElem_mem hlt'
      have hsl:l'[i].size≤1000000:=by have:=sizes_mem l' _ hm2;omega
      have hcall:=ih l[i] hm1 l'[i] (t1,v1) (t2,v2) wr ok okP b ni σi hq1 hq2 (goods_mem hg hm1) (goods_mem hg' hm2) hsl HS.out HG.out hb hbP (by have:=HN.out;rw [hd1,Tm.sizes] at this;have:=Tm.sizes_nn (l.drop (i+1));omega)
      have hR2:=HR.out
      rw [hd1,hd2,matchL] at hR2
      have hN2:=HN.out
      rw [hd1,Tm.sizes] at hN2
      have hsp:=Tm.size_pos l[i]
      have hgs:=matchT_good l[i] l'[i] σi
      have hg2:=goods_mem hg' hm2
      have w1i:wrap64 ((i:Int)+1)=(i:Int)+1:=wrp i (by omega)
      generalize l[i]=x at *
      generalize l'[i]=y at *
      cases hm:matchT x y σi with
      | none =>
        rw [hm] at hcall hR2
        have HC:=Aside0.mk hcall
        have HH:=Aside0.mk (And.intro hR2 (And.intro hbl hB2))
        clear hcall hR2 hB2 hbl ih hL hL' hg hg' hs' hσ hG hb hbP hn hl2 hR hsz2 hcB hcB2 hfr hd1 hd2 hm1 hm2 hsl hN2 hsp hgs hg2 hq1 hq2
        unfold encI at hc1 hc2 HC
        go_wp2_with (go_at_call 96;refine HC.out.mono ?_;rintro e w1 ⟨hb1,rfl⟩;have H1:=Aside0.mk hb1;clear hb1)
        obtain ⟨hR2,hbl,hB2⟩:=HH.out
        rw [hR2]
        go_ret
        exact ⟨((But.of_below hB2).trans HB.out).trans H1.out,rfl⟩
      | some σ1 =>
        rw [hm] at hcall hR2
        have HC:=Aside0.mk hcall
        have HH:=Aside0.mk (And.intro hR2 (And.intro hN2 (And.intro hsp (And.intro hlt (hgs σ1 HG.out hg2 hsl hm)))))
        clear hcall hR2 hB2 hbl ih hL hL' hg hg' hs' hσ hG hb hbP hn hl2 hR hsz2 hcB hcB2 hfr hd1 hd2 hm1 hm2 hsl hN2 hsp hgs hg2 hq1 hq2
        unfold encI at hc1 hc2 HC
        go_wp2_with (go_at_call 96;refine HC.out.mono ?_;rintro e w1 ⟨hb1,rfl,hs1⟩;have H1:=Aside0.mk (And.intro hb1 hs1);clear hb1 hs1)
        obtain ⟨hR2,hN2,hsp,hlt2,hgs⟩:=HH.out
        rw [w1i]
        refine ⟨⟨i+1,σ1,ni+x.size.toNat,by simp,⟨by omega⟩,⟨hR2⟩,⟨H1.out.2⟩,⟨hgs⟩,⟨by omega⟩,⟨HB.out.trans H1.out.1⟩⟩,?_⟩
        simp only [intOf]
        omega
    · have hlb:decide ((i:Int) < (l.length:Int))=false:=decide_eq_false (by omega)
      have e1:l.drop i=[]:=List.drop_of_length_le (by omega)
      have hfin:OutM w ok b (n+(Tm.sizes l).toNat) R (.returned (.bool true)) wr:=by
        have hR2:=HR.out
        rw [e1,matchL] at hR2
        rw [hR2]
        have hN2:=HN.out
        rw [e1,Tm.sizes] at hN2
        obtain ⟨D,h1,h2⟩:=HS.out
        exact ⟨(But.of_below hB2).trans HB.out,rfl,D,h1.mono (by omega),h2⟩
      have HF:=Aside0.mk hfin
      clear hfin hB2 hbl ih hL hL' hg hg' hs' hσ hG hb hbP hn hl2 hR hsz2 hcB hfr e1
      go_wp2
      go_ret
      exact HF.out
theorem match_no1 (s:Int) (A:Option Addr) (k cap:Nat) (c:Int) (w:World) (ok:Nat→Prop) (b n:Nat) :
    Calls Tryz.prog 96 #[.iface 149 (.agg #[.int .u8 s,.slice A k cap]),.iface 131 (.int .u8 c),.map (some b)] w (OutM w ok b n none):=by
  have hB:∀ w',Below w.heap.size w w'→OutM w ok b n none (.returned (.bool false)) w':=fun w' h=>⟨But.of_below h,rfl⟩
  go_enter Tryz.func96,Tryz.ntmps96
  go_wp2
  go_ret
  exact hB _ (below_alloc (below_alloc (Below.refl _ _) _) _)
theorem match_no2 (s s':Int) (hs:s'≠s) (A A':Option Addr) (k cap k' cap':Nat) (w:World) (ok:Nat→Prop) (b n:Nat) :
    Calls Tryz.prog 96 #[.iface 149 (.agg #[.int .u8 s,.slice A k cap]),.iface 149 (.agg #[.int .u8 s',.slice A' k' cap']),.map (some b)] w (OutM w ok b n none):=by
  have hB:∀ w',Below w.heap.size w w'→OutM w ok b n none (.returned (.bool false)) w':=fun w' h=>⟨But.of_below h,rfl⟩
  have hne:(s' == s)=false:=beq_eq_false_iff_ne.2 hs
  go_enter Tryz.func96,Tryz.ntmps96
  go_wp2
  go_ret
  exact hB _ (below_alloc (below_alloc (Below.refl _ _) _) _)
end
theorem match_calls:∀ P,MaOk P:=by
  refine Tm.ind (fun c T p q w ok okP b n σ h hT hg hg' hs hσ hG hb hbP hn=>?_) (fun s l ih T p q w ok okP b n σ h hT hg hg' hs hσ hG hb hbP hn=>?_)
  · rw [Has.var_] at h
    subst h
    rw [Tm.good] at hg
    rw [Tm.size] at hn
    exact match_var c (by omega) T q w ok b n σ hT hg' hs hσ hG hb (by omega)
  · rw [Has.app_] at h
    obtain ⟨A,cap,rfl,hc,hL⟩:=h
    have hl2:=good_len hg
    rw [Tm.size] at hn
    have h1:(n+(Tm.sizes l).toNat)≤n+(Tm.size (.app s l)).toNat:=by rw [Tm.size];have:=Tm.sizes_nn l;omega
    have hm:∀ (R:Option Sub) e w',OutM w ok b (n+(Tm.sizes l).toNat) R e w'→OutM w ok b (n+(Tm.size (.app s l)).toNat) R e w':=by
      rintro R e w' ⟨h2,h3⟩
      refine ⟨h2,?_⟩
      cases R with
      | none=>exact h3
      | some σ' =>
        obtain ⟨h4,D,h5,h6⟩:=h3
        exact ⟨h4,D,h5.mono h1,h6⟩
    cases T with
    | var c =>
      rw [Has.var_] at hT
      subst hT
      rw [matchT]
      exact match_no1 s A l.length cap c w ok b _
    | app s' l' =>
      rw [Has.app_] at hT
      obtain ⟨A',cap',rfl,hc',hL'⟩:=hT
      rw [matchT]
      by_cases hss:s'=s
      · subst hss
        rw [if_pos rfl]
        have e1:l.length=l'.length:=by
          rw [Tm.good] at hg hg'
          omega
        rw [Tm.good] at hg hg'
        rw [Tm.size] at hs
        exact (match_app s' l l' ih A A' cap cap' w ok okP b n σ hL hL' hg.2.2 hg'.2.2 e1 (by omega) hσ hG hb hbP (by omega) (by omega) _ rfl).mono (fun e w' hh=>hm _ e w' hh)
      · rw [if_neg hss]
        exact match_no2 s s' hss A A' l.length cap l'.length cap' w ok b _
def HasW (w:World) (ok:Nat→Prop) (ls:List (Tm × Tm)) (A:Option Addr):Prop :=
  ∀ j (h:j < ls.length),∃ g cs p q,A=some ⟨g,0,none⟩∧ok g∧w.heap[g]?=some (.cells cs 144 (0,0))∧cs[j * 2]?=some (encI p)∧cs[j * 2+1]?=some (encI q)∧Has w ok ls[j].1 p∧Has w ok ls[j].2 q
theorem HasW.step {w w':World} {ok ok':Nat→Prop} {ls:List (Tm × Tm)} {A:Option Addr} (hh:HasW w ok ls A) (h:∀ k,ok k→k < w.heap.size→ok' k∧w'.heap[k]?=w.heap[k]?):HasW w' ok' ls A:=by
  intro j hj
  obtain ⟨g,cs,p,q,h1,h2,h3,h4,h5,h6,h7⟩:=hh j hj
  have hg:=h g h2 (gl_ h3)
  exact ⟨g,cs,p,q,h1,hg.1,hg.2.trans h3,h4,h5,h6.step h,h7.step h⟩
theorem HasW.below {w w':World} {ok:Nat→Prop} {ls:List (Tm × Tm)} {A:Option Addr} (hh:HasW w ok ls A) (h:Below w.heap.size w w'):HasW w' ok ls A:=hh.step (fun k hk hl=>⟨hk,h.block k hl⟩)
def LawsGood (ls:List (Tm × Tm)):Prop:=∀ l,l∈ls→l.1.good∧l.2.good∧l.1.size≤12∧l.2.size≤12
def noSub:Sub:=fun _=>none
theorem noSub_good:SubGood noSub:=fun c u h=>by cases h
def rootT (ls:List (Tm × Tm)) (T:Tm):List Tm:=ls.filterMap fun l=>(matchT l.1 T noSub).map fun σ=>l.2.sub σ
theorem subOk_new (w:World) (ok:Nat→Prop):SubOk (w.alloc (.map #[] 0)) ok w.heap.size 0 noSub :=
  ⟨.map [],World.ownsMap_made w Tryz.prog 131 rH,fun c hc=>rfl⟩
def Row (w:World) (base:Nat) (ok:Nat→Prop) (v:Value) (ts:List Tm):Prop :=
  ∃ vs,Kd.R kI 99 w base (fun _=>True) v vs∧ts.length=vs.length∧∀ j (h1:j < ts.length) (h2:j < vs.length),Has w (fun k=>ok k∧some k≠v.ownBlock) ts[j] vs[j]
theorem Row.nil (w:World) (base:Nat) (ok:Nat→Prop):Row w base ok (.slice none 0 0) []:=⟨[],Kd.R_nil _ _ _ _ _,rfl,fun j h=>absurd h (by simp)⟩
theorem Row.below {w w':World} {base:Nat} {ok:Nat→Prop} {v:Value} {ts:List Tm} (h:Row w base ok v ts) (hb:Below w.heap.size w w'):Row w' base ok v ts:=by
  obtain ⟨vs,h1,h2,h3⟩:=h
  exact ⟨vs,Kd.R_below h1 hb,h2,fun j a b=>(h3 j a b).below hb⟩
theorem Row.own {w:World} {base:Nat} {ok:Nat→Prop} {v:Value} {ts:List Tm} (h:Row w base ok v ts) (k:Nat) (hk:v.ownBlock=some k):base≤k∧k < w.heap.size:=by
  obtain ⟨vs,h1,h2,h3⟩:=h
  exact ⟨Kd.R_base h1 k hk,Kd.R_lt h1 k hk⟩
theorem Row.read {w:World} {base:Nat} {ok:Nat→Prop} {v:Value} {ts:List Tm} (h:Row w base ok v ts) (hok:∀ k,base≤k→ok k):∃ A cap,v=.slice A ts.length cap∧ts.length≤cap∧HasL w ok ts A 0:=by
  obtain ⟨vs,h1,h2,h3⟩:=h
  exact hasL_of_R h1 h2 (fun j a b=>(h3 j a b).mono (fun k hk=>hk.1)) (fun k hk=>hok k (Kd.R_base h1 k hk))
theorem Row.snoc {w3 w6:World} {base:Nat} {ok:Nat→Prop} {v v6:Value} {acc:List Tm} {vs:List (Nat × Value)} {t:Tm} {p:Nat × Value} (hl:acc.length=vs.length) (hT:∀ j (h1:j < acc.length) (h2:j < vs.length),Has w3 (fun k=>ok k∧some k≠v.ownBlock) acc[j] vs[j]) (hp:Has w3 (fun k=>ok k∧some k≠v.ownBlock) t p)
    (ho:Kd.R kI 99 w6 base (fun _=>True) v6 (vs++[p])) (hg:w3.grownBy w6 v.ownBlock) (hat:v6.ownBlock=v.ownBlock∨∃ b,v6.ownBlock=some b∧w3.heap.size≤b):Row w6 base ok v6 (acc++[t]):=by
  have hst:∀ {t':Tm} {p':Nat × Value},Has w3 (fun k=>ok k∧some k≠v.ownBlock) t' p'→Has w6 (fun k=>ok k∧some k≠v6.ownBlock) t' p':=by
    intro t' p' hh
    refine Has.step (fun k hk hl=>⟨⟨hk.1,?_⟩,hg.block k hl hk.2⟩) hh
    intro e
    rcases hat with h6|⟨b,h6,h7⟩
    · exact hk.2 (e.trans h6)
    · rw [h6] at e
      injection e with e
      omega
  refine ⟨vs++[p],ho,by simp [hl],fun j h1 h2=>?_⟩
  by_cases hj:j < acc.length
  · have hj2:j < vs.length:=by omega
    rw [List.getElem_append_left hj,List.getElem_append_left hj2]
    exact hst (hT j hj hj2)
  · have hj1:j=acc.length:=by rw [List.length_append] at h1;simp at h1;omega
    have hj2:j=vs.length:=by omega
    rw [List.getElem_append_right (by omega),List.getElem_append_right (by omega)]
    simp only [hj1,Nat.sub_self,show acc.length - vs.length=0 by omega,List.getElem_cons_zero]
    exact hst hp
theorem rootT_snoc (ls:List (Tm × Tm)) (T:Tm) (i:Nat) (h:i < ls.length):rootT (ls.take (i+1)) T=rootT (ls.take i) T++(match matchT ls[i].1 T noSub with|none=>[]|some σ=>[ls[i].2.sub σ]):=by
  unfold rootT
  rw [List.take_succ_eq_append_getElem h,List.filterMap_append]
  congr 1
  rw [List.filterMap_cons]
  cases matchT ls[i].1 T noSub<;>rfl
set_option maxHeartbeats 1000000 in
set_option maxRecDepth 100000 in
theorem root_calls (ls:List (Tm × Tm)) (A:Option Addr) (cap:Nat) (T:Tm) (q:Nat × Value) (w:World) (ok okL:Nat→Prop) (hL:HasW w okL ls A) (hT:Has w ok T q) (hg:T.good) (hs:T.size≤1000000) (hls:LawsGood ls) (hln:ls.length≤1000) (hok:∀ k,w.heap.size≤k→ok k) :
    Calls Tryz.prog 123 #[.slice A ls.length cap,encI q] w fun e w'=>∃ v,e=.returned v∧Row w' w.heap.size ok v (rootT ls T)∧Below w.heap.size w w':=by
  have HP:=Aside0.mk (And.intro hL (And.intro hT (And.intro hg (And.intro hs (And.intro hls (And.intro hln hok))))))
  clear hL hT hg hs hls hln hok
  have hmm:=@run_makeMap Tryz.prog
  go_enter Tryz.func123,Tryz.ntmps123
  go_wp2
  go_loopw [5,11] (fun v5 v11 wr=>∃ (i:Nat) (acc:List Tm) (vs:List (Nat × Value)),v11=.int .i64 (i:Int)∧Aside0 (i≤ls.length∧ls.length≤1000)∧Aside0 (acc=rootT (ls.take i) T∧acc.length≤i)∧Aside0 (Kd.R kI 99 wr w.heap.size (fun _=>True) v5 vs)∧Aside0 (acc.length=vs.length∧∀ j (h1:j < acc.length) (h2:j < vs.length),Has wr (fun k=>ok k∧some k≠v5.ownBlock) acc[j] vs[j])∧Aside0 (Below w.heap.size w wr)) (fun _ v11 _=>ls.length - (intOf v11).toNat)
  case atStart =>
    obtain ⟨hL,hT,hg,hs,hls,hln,hok⟩:=HP.out
    exact ⟨0,[],[],rfl,⟨Nat.zero_le _,hln⟩,⟨by simp [rootT],Nat.le_refl _⟩,⟨Kd.R_nil _ _ _ _ _⟩,⟨rfl,fun j h=>absurd h (by simp)⟩,⟨Below.refl _ _⟩⟩
  case round =>
    obtain ⟨i,acc,vs,rfl,HI,HA,HO,HT,HB⟩:=hrel
    by_cases hlt:i < ls.length
    · have hlb:decide ((i:Int) < (ls.length:Int))=true:=decide_eq_true (by omega)
      obtain ⟨hL,hT,hg,hs,hls,hln,hok⟩:=HP.out
      obtain ⟨g,cs,⟨t1,p1⟩,⟨t2,p2⟩,rfl,hg1,hg2,hc1,hc2,hl1,hl2⟩:=(hL.below HB.out) i hlt
      have hcell1:wr.cell? ⟨g,i * 2,none⟩=some (.iface t1 p1):=(blk_cell hg2 (i * 2)).trans hc1
      have hcell2:wr.cell? ⟨g,i * 2+1,none⟩=some (.iface t2 p2):=(blk_cell hg2 (i * 2+1)).trans hc2
      have hlm:ls[i]∈ls:=List.getElem_mem hlt
      obtain ⟨hg3,hg4,hs3,hs4⟩:=hls _ hlm
      have hsn:=rootT_snoc ls T i hlt
      have hBW:Below wr.heap.size wr ((wr.alloc (.cells #[.iface t1 p1,.iface t2 p2] 144)).alloc (.map #[] 0)):=below_alloc (below_alloc (Below.refl _ _) _) _
      have hbw:w.heap.size≤wr.heap.size:=HB.out.size
      have hTm:Has ((wr.alloc (.cells #[.iface t1 p1,.iface t2 p2] 144)).alloc (.map #[] 0)) (fun k=>ok k∧k < w.heap.size) T q:=(hT.bound.below HB.out).below hBW
      have hLb:HasW wr (fun k=>okL k∧k < w.heap.size) ls (some ⟨g,0,none⟩):=(hL.step (ok':=fun k=>okL k∧k < w.heap.size) (fun k hk hl=>⟨⟨hk,hl⟩,rfl⟩)).below HB.out
      obtain ⟨g',cs',⟨t1',p1'⟩,⟨t2',p2'⟩,eg,_,hg2',hc1',hc2',hl1',hl2'⟩:=hLb i hlt
      obtain rfl:g=g':=by injection eg with eg;injection eg
      obtain rfl:cs=cs':=by have:=hg2.symm.trans hg2';injection this with this;injection this
      have e1:=hc1.symm.trans hc1'
      have e2:=hc2.symm.trans hc2'
      unfold encI at e1 e2
      injection e1 with e1
      injection e1 with e1 e1b
      injection e2 with e2
      injection e2 with e2 e2b
      dsimp only at e1 e1b e2 e2b
      subst e1 e1b e2 e2b
      have hsub0:SubOk ((wr.alloc (.cells #[.iface t1 p1,.iface t2 p2] 144)).alloc (.map #[] 0)) (fun k=>ok k∧k < w.heap.size) (wr.heap.size+1) 0 noSub:=by
        have:=subOk_new (wr.alloc (.cells #[.iface t1 p1,.iface t2 p2] 144)) (fun k=>ok k∧k < w.heap.size)
        simpa using this
      have hcm:=match_calls ls[i].1 T (t1,p1) q ((wr.alloc (.cells #[.iface t1 p1,.iface t2 p2] 144)).alloc (.map #[] 0)) (fun k=>ok k∧k < w.heap.size) (fun k=>okL k∧k < w.heap.size) (wr.heap.size+1) 0 noSub (hl1'.below hBW) hTm hg3 hg hs hsub0 noSub_good (fun k hk=>by omega) (fun k hk=>by omega) (by omega)
      have hO1:=fun (w2:World) (hb2:But (wr.heap.size+1) ((wr.alloc (.cells #[.iface t1 p1,.iface t2 p2] 144)).alloc (.map #[] 0)) w2)=>hBW.trans (hb2.below (B:=wr.heap.size) (by omega) (by simp;omega))
      have w1i:wrap64 ((i:Int)+1)=(i:Int)+1:=wrp i (by omega)
      cases hR:matchT ls[i].1 T noSub with
      | none =>
        rw [hR] at hcm hsn
        have HC:=Aside0.mk hcm
        have HH:=Aside0.mk (And.intro hsn (And.intro hO1 hbw))
        clear hcm hsn hO1 hbw hL hT hg hs hls hln hok hg1 hg2 hc1 hc2 hl1 hl2 hlm hg3 hg4 hs3 hs4 hBW hTm hLb eg hg2' hc1' hc2' hl1' hl2' hsub0 hR
        go_wp2_with (go_at_call 96;refine HC.out.mono ?_;rintro e w2 ⟨hb2,rfl⟩;have H1:=Aside0.mk hb2;clear hb2)
        obtain ⟨hsn,hO1,hbw⟩:=HH.out
        have hb3:=hO1 _ H1.out
        rw [w1i]
        refine ⟨⟨i+1,acc,vs,by simp,⟨by omega,HI.out.2⟩,⟨by rw [hsn,HA.out.1,List.append_nil],by have:=HA.out.2;omega⟩,⟨Kd.R_below HO.out hb3⟩,⟨HT.out.1,fun j h1 h2=>(HT.out.2 j h1 h2).below hb3⟩,⟨below_step HB.out hb3⟩⟩,?_⟩
        simp only [intOf]
        omega
      | some σ =>
        rw [hR] at hcm hsn
        have hcw:=fun (w2:World) (hb2:But (wr.heap.size+1) ((wr.alloc (.cells #[.iface t1 p1,.iface t2 p2] 144)).alloc (.map #[] 0)) w2) (hs2:SubOk w2 (fun k=>ok k∧k < w.heap.size) (wr.heap.size+1) (0+ls[i].1.size.toNat) σ) =>
          with_calls ls[i].2 (t2,p2) w2 (fun k=>ok k∧some k≠u5.ownBlock) _ _ _ σ (hl2'.below (hO1 w2 hb2)) (hs2.mono (ok':=fun k=>ok k∧some k≠u5.ownBlock) (fun k hk=>⟨hk.1,fun e=>by have:=Kd.R_base HO.out k e.symm;omega⟩)) (fun k hk=>⟨hok k (by have:=(hO1 w2 hb2).size;omega),fun e=>by have:=Kd.R_lt HO.out k e.symm;have:=(hO1 w2 hb2).size;omega⟩) hg4
        obtain ⟨F,hF⟩:∃ F,F=wiF (t2,p2):=⟨_,rfl⟩
        have hm1:∀ w,(method 337 t2 p2 "numnah/rules.with").run Tryz.prog w=.ok (F,p2) w:=hF ▸ meth_with hl2'
        have hm2:∀ args w,(callFunc F args).run Tryz.prog w=.ok (.enter F args) w:=hF ▸ enters_with hl2'
        rw [←hF] at hcw
        have HC:=Aside0.mk hcm
        have HC2:=Aside0.mk hcw
        have HH:=Aside0.mk (And.intro hsn (And.intro hO1 hbw))
        clear hcm hsn hO1 hbw hL hT hg hs hls hln hok hg1 hg2 hc1 hc2 hl1 hl2 hlm hg3 hg4 hs3 hs4 hBW hTm hLb eg hg2' hc1' hc2' hl1' hl2' hsub0 hR hcw hF
        generalize ls[i].2=y at *
        go_wp2_with (first
          | (go_at_call 96;refine HC.out.mono ?_;rintro e w2 ⟨hb2,rfl,hs2⟩;have H1:=Aside0.mk (And.intro hb2 hs2);clear hb2 hs2;have hbl:=((H1.out.1.block wr.heap.size (by simp;omega) (by omega)).trans (blk_alloc (blk_new wr _) _));have hx0:=blk_cell hbl 0;have hx1:=blk_cell hbl 1;clear hbl)
          | (refine (HC2.out _ H1.out.1 H1.out.2).mono ?_;rintro e w3 ⟨⟨t3,p3⟩,he3,hp3,hb3⟩;obtain rfl:e=.returned (.iface t3 p3):=he3;have H3:=Aside0.mk (And.intro hp3 (below_step (HH.out.2.1 _ H1.out.1) hb3));clear hp3 hb3)
          | ((with_reducible refine gate_builtin (b:=.append) (xs:=#[.tmp 21,.tmp 26]) rfl ?_);at_builtin;refine Kd.R_append kI (w0:=w) w.heap.size rfl (.tmp 21) (.tmp 26) 111 99 .nilIface 16 rfl Tryz.underlying111 info99 rfl (by decide) (by omega) u5 vs (t3,p3) [.iface t3 p3] (fun _=>True) (fun _=>False) rfl rfl ?aP (fun _ hk=>hk.elim) ?aF ?aO ?aB ?aS ?aL ?_;(case aP=>exact rfl);(case aB=>exact below_then HB.out HB.out.size H3.out.2);(case aF=>exact (fun _ _=>trivial));(case aO=>exact Kd.R_below HO.out H3.out.2);(case aS=>exact Nat.le_trans HB.out.size H3.out.2.size);(case aL=>have:=HI.out;have:=HA.out;have:=HT.out.1;omega);intro v6 w6 ho hb hg hat;have H6:=Aside0.mk (And.intro ho (And.intro hb (And.intro hg hat)));clear ho hb hg hat))
        obtain ⟨hsn,hO1,hbw⟩:=HH.out
        obtain ⟨ho6,hb6,hg6,hat6⟩:=H6.out
        obtain ⟨hp3,hb3⟩:=H3.out
        obtain ⟨vs',ho',hl',hT'⟩:=Row.snoc (ok:=ok) HT.out.1 (fun j h1 h2=>(HT.out.2 j h1 h2).below hb3) hp3 ho6 hg6 hat6
        rw [w1i]
        refine ⟨⟨i+1,acc++[y.sub σ],vs',by simp,⟨by omega,HI.out.2⟩,⟨by rw [hsn,HA.out.1],by have:=HA.out.2;simp;omega⟩,⟨ho'⟩,⟨hl',hT'⟩,⟨hb6⟩⟩,?_⟩
        simp only [intOf]
        omega
    · have hlb:decide ((i:Int) < (ls.length:Int))=false:=decide_eq_false (by omega)
      go_wp2
      have ea:acc=rootT ls T:=by rw [HA.out.1,List.take_of_length_le (by omega)]
      subst ea
      go_ret
      exact ⟨_,rfl,⟨vs,HO.out,HT.out.1,HT.out.2⟩,HB.out⟩
end Go.Proofs.YtaafeallcaiooaaGreat.Pr
namespace Go.Proofs
open Go.Shelf
def Tryz.laysSlE041_f126_ren:Go.Shelf.Ren:=⟨fun|41=>126|n=>n,fun|22=>111|23=>99|4=>4|n=>n,fun|n=>n⟩
theorem Tryz.laysSlE041_f126:Go.Proofs.SlLaysE0.n41 Tryz.prog Tryz.laysSlE041_f126_ren:={
  mixed:=by kernel_rfl
  f41:=⟨Tryz.f126.name,by decide,Tryz.func126.trans (congrArg some (by kernel_rfl))⟩
  t4:=Tryz.underlying4
  a4:=Tryz.isAgg4
  z4:=Tryz.sizeOf4
  v4:=Tryz.zeroValue4
  t22:=Tryz.underlying111
  a22:=Tryz.isAgg111
  z22:=Tryz.sizeOf111
  v22:=Tryz.zeroValue111 }
end Go.Proofs
namespace Go.Proofs.YtaafeallcaiooaaGreat.Pr
open Go.RowKit Go.Maps Go.Proofs.Zw Go.Proofs.Zl Go.Proofs.Zm
set_option linter.unusedVariables false
set_option linter.unusedSimpArgs false
theorem kI_cells {w:World} {base:Nat} {okr:Nat→Prop} {v:Value} {vs:List (Nat × Value)} (h:Kd.R kI 99 w base okr v vs) (hz:0 < vs.length) :
    ∃ g cap cells,v=.slice (some ⟨g,0,none⟩) vs.length cap∧vs.length≤cap∧base≤g∧w.heap[g]?=some (.cells cells 99 (0,0))∧∀ j (hj:j < vs.length),cells[j]?=some (encI vs[j]):=by
  obtain ⟨g,cap,rfl,hb,hlt,cells,hc⟩:=Kd.R_form h hz
  obtain ⟨e1,e2,hC⟩:=Kd.R_reads' h
  refine ⟨g,cap,cells,rfl,by omega,hb,hc,fun j hj=>?_⟩
  obtain ⟨ad,c,ea,_,hK,hget⟩:=Kd.C_get hC (0,.nilIface) (j:Int) (by omega) (by omega)
  have ea2:ad=⟨g,0,none⟩:=by injection ea with ea;exact ea.symm
  subst ea2
  have hK2:c=[encI (vs.getD ((j:Int)).toNat (0,.nilIface))]:=hK
  rw [Int.toNat_natCast,List.getD_eq_getElem?_getD,List.getElem?_eq_getElem hj] at hK2
  have:=hget 0 (encI vs[j]) (by rw [hK2];rfl)
  have h4:w.cell? ⟨g,j,none⟩=cells[j]?:=blk_cell hc j
  rw [←h4]
  simp [Addr.add,kI,Kd.scalar] at this
  by_cases hj0:j=0
  · subst hj0
    simpa using this
  · simpa [hj0] using this
theorem sizeOf99 (w:World):(Go.sizeOf 99).run Tryz.prog w=.ok 1 w:=by kernel_rfl
theorem clone_calls (ps:List (Nat × Value)) (g c:Nat) (cs:Array Value) (w:World) (hg:w.heap[g]?=some (.cells cs 99 (0,0))) (hcs:∀ j (h:j < ps.length),cs[j]?=some (encI ps[j])) (hn:ps.length≤1000) :
    Calls Tryz.prog 126 #[.slice (some ⟨g,0,none⟩) ps.length c] w fun e w'=>∃ v',e=.returned v'∧Kd.R kI 99 w' w.heap.size (fun _=>True) v' ps∧Below w.heap.size w w':=by
  obtain ⟨i0,hi,hz0,hz1,hz2⟩:=info_parts info99
  refine (AnyE.slices_Clone Tryz.laysSlE041_f126 i0 .nilIface 1 16 hi hz0 hz1 hz2 rfl (by omega) sizeOf99 g 0 ps.length c (encs encI ps) w (by simp [encs]) (by unfold maxLen;omega) (by omega) (fun j u hu=>?_) (fun u hu=>?_)).mono (fun e w' hh=>?_)
  · have hj:j < ps.length:=by
      have:=(List.getElem?_eq_some_iff.1 hu).1
      simpa [encs] using this
    have e1:u=encI ps[j]:=by
      have:=(List.getElem?_eq_some_iff.1 hu).2
      rw [←this]
      simp [encs]
    rw [Nat.zero_add,e1]
    exact (blk_cell hg j).trans (hcs j hj)
  · simp [encs] at hu
    obtain ⟨a,b,_,rfl⟩:=hu
    rfl
  · obtain ⟨v',h1,h2,h3,h4⟩:=hh
    exact ⟨v',h1,Kd.R_of_own (enc:=encI) (h1:=encI_one) h2 (fun _ _=>trivial),h4⟩
end Go.Proofs.YtaafeallcaiooaaGreat.Pr
