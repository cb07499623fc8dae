/- newPrecedence: the ranks of the letters. -/
import Derived.Test.YtaafeallcaiooaaGreatHLe0
import Derived.Test.YtaafeallcaiooaaGreatHLp
import Derived.MapKept
import Derived.Laws.StructEq
import Derived.Carry
namespace Go.Proofs.YtaafeallcaiooaaGreat.Pr
open Go.RowKit
set_option linter.unusedVariables false
set_option linter.unusedSimpArgs false
theorem ch_inj {a b:Int} (ha:0≤a∧a≤255) (hb:0≤b∧b≤255) (h:ch a=ch b):a=b:=by
  unfold ch at h
  have:=congrArg UInt8.toNat h
  simp at this
  omega
theorem tx_app (s:Int) (l:List Tm):(Tm.app s l).tx=match l with
    | []=>[ch s]
    | [x]=>[ch s,40]++x.tx++[41]
    | [x,y]=>[ch s,40]++x.tx++[44]++y.tx++[41]
    | l=>[ch s]++[40]++Lib.join (Tm.txs l) [44]++[41]:=by
  cases l with
  | nil=>rw [Tm.tx];rfl
  | cons x l =>
    cases l with
    | nil=>rw [Tm.tx,Tm.txs,Tm.txs];simp [Lib.join]
    | cons y l =>
      cases l with
      | nil=>rw [Tm.tx,Tm.txs,Tm.txs,Tm.txs];simp [Lib.join]
      | cons z l=>rw [Tm.tx];rfl
theorem tx_inj:∀ a:Tm,a.good→∀ b:Tm,b.good→∀ r r':List UInt8,a.tx++r=b.tx++r'→a=b∧r=r':=by
  refine Tm.ind (fun c hg b hb r r' h=>?_) (fun s l ih hg b hb r r' h=>?_)
  · rw [Tm.good] at hg
    cases b with
    | var c' =>
      rw [Tm.good] at hb
      rw [Tm.tx,Tm.tx] at h
      injection h with h1 h2
      exact ⟨by rw [ch_inj (by omega) (by omega) h1],h2⟩
    | app s' l' =>
      rw [Tm.good] at hb
      exfalso
      have hc:ch c=ch s':=by
        rw [Tm.tx,Tm.tx] at h
        split at h<;>(injection h with h1 h2)
      have:=ch_inj (by omega) (by omega) hc
      omega
  · have hgl:=good_len hg
    rw [Tm.good] at hg
    cases b with
    | var c' =>
      rw [Tm.good] at hb
      exfalso
      have hc:ch s=ch c':=by
        rw [Tm.tx,Tm.tx] at h
        split at h<;>(injection h with h1 h2)
      have:=ch_inj (by omega) (by omega) hc
      omega
    | app s' l' =>
      have hgl':=good_len hb
      rw [Tm.good] at hb
      have hc:ch s=ch s':=by
        rw [Tm.tx,Tm.tx] at h
        split at h<;>split at h<;>(injection h with h1 h2)
      obtain rfl:=ch_inj (by omega) (by omega) hc
      have hll:l.length=l'.length:=by omega
      rw [tx_app,tx_app] at h
      match l,l',hll,hgl,h,ih,hg,hb with
      | [],[],_,_,h,_,_,_ =>
        injection h with h1 h2
        exact ⟨rfl,h2⟩
      | [x],[x'],_,_,h,ih,hg,hb =>
        have hx:=hg.2.2
        have hx':=hb.2.2
        rw [Tm.goods] at hx hx'
        simp only [List.cons_append,List.nil_append,List.append_assoc] at h
        injection h with _ h
        injection h with _ h
        obtain ⟨rfl,h2⟩:=ih x (by simp) hx.1 x' hx'.1 _ _ h
        injection h2 with _ h2
        exact ⟨rfl,h2⟩
      | [x,y],[x',y'],_,_,h,ih,hg,hb =>
        have hx:=hg.2.2
        have hx':=hb.2.2
        rw [Tm.goods,Tm.goods] at hx hx'
        simp only [List.cons_append,List.nil_append,List.append_assoc] at h
        injection h with _ h
        injection h with _ h
        obtain ⟨rfl,h2⟩:=ih x (by simp) hx.1 x' hx'.1 _ _ h
        injection h2 with _ h2
        obtain ⟨rfl,h3⟩:=ih y (by simp) hx.2.1 y' hx'.2.1 _ _ h2
        injection h3 with _ h3
        exact ⟨rfl,h3⟩
      | _ :: _ :: _ :: _,_,_,hgl,_,_,_,_=>simp at hgl
theorem text_inj {a b:Tm} (ha:a.good) (hb:b.good) (h:a.text=b.text):a=b:=by
  have h1:a.tx=b.tx:=by
    unfold Tm.text at h
    injection h with h
    have:=congrArg Array.toList h
    simpa using this
  exact (tx_inj a ha b hb [] [] (by rw [h1])).1
def lexF (g:Tm→Tm→Bool):List Tm→List Tm→Bool
  | t :: ts,u :: us=>if sameB t u then lexF g ts us else g t u
  | _,_=>false
def gtF:Nat→(Int→Int)→Tm→Tm→Bool
  | 0,_,_,_=>false
  | n+1,r,.var _,.var _=>false
  | n+1,r,.app s l,.var v=>occT v (.app s l)
  | n+1,r,.var _,.app _ _=>false
  | n+1,r,.app s l,.app s' l' =>
    if l.any (fun t=>sameB t (.app s' l') || gtF n r t (.app s' l')) then true
    else if r s > r s' then false
    else if !(l'.all (fun u=>gtF n r (.app s l) u)) then false
    else if s≠s' then true
    else lexF (gtF n r) l l'
theorem any_congr' {f g:Tm→Bool}:∀ {l:List Tm},(∀ x,x∈l→f x=g x)→l.any f=l.any g
  | [],_=>rfl
  | x :: l,h=>by rw [List.any_cons,List.any_cons,h x (by simp),any_congr' (fun y hy=>h y (by simp [hy]))]
theorem all_congr' {f g:Tm→Bool}:∀ {l:List Tm},(∀ x,x∈l→f x=g x)→l.all f=l.all g
  | [],_=>rfl
  | x :: l,h=>by rw [List.all_cons,List.all_cons,h x (by simp),all_congr' (fun y hy=>h y (by simp [hy]))]
theorem lex_congr {f g:Tm→Tm→Bool}:∀ {l m:List Tm},(∀ x y,x∈l→y∈m→f x y=g x y)→lexF f l m=lexF g l m
  | [],[],_=>rfl
  | [],_ :: _,_=>rfl
  | _ :: _,[],_=>rfl
  | x :: l,y :: m,h=>by
    rw [lexF,lexF,h x y (by simp) (by simp),lex_congr (fun a b ha hb=>h a b (by simp [ha]) (by simp [hb]))]
theorem gtF_stable (r:Int→Int):∀ (n m:Nat) (a b:Tm),a.size+b.size≤n→a.size+b.size≤m→gtF n r a b=gtF m r a b
  | 0,_,a,b,hn,_=>by have:=Tm.size_pos a;have:=Tm.size_pos b;omega
  | _,0,a,b,_,hm=>by have:=Tm.size_pos a;have:=Tm.size_pos b;omega
  | n+1,m+1,.var _,.var v,hn,hm=>by rw [gtF,gtF]
  | n+1,m+1,.app _ _,.var v,hn,hm=>by rw [gtF,gtF]
  | n+1,m+1,.var _,.app _ _,hn,hm=>by rw [gtF,gtF]
  | n+1,m+1,.app s l,.app s' l',hn,hm=>by
    have e1:=Tm.size.eq_2 s l
    have e2:=Tm.size.eq_2 s' l'
    have h1:l.any (fun t=>sameB t (.app s' l') || gtF n r t (.app s' l'))=l.any (fun t=>sameB t (.app s' l') || gtF m r t (.app s' l')) :=
      any_congr' (fun x hx=>by rw [gtF_stable r n m x _ (by have:=sizes_mem l x hx;omega) (by have:=sizes_mem l x hx;omega)])
    have h2:l'.all (fun u=>gtF n r (.app s l) u)=l'.all (fun u=>gtF m r (.app s l) u) :=
      all_congr' (fun x hx=>gtF_stable r n m _ x (by have:=sizes_mem l' x hx;omega) (by have:=sizes_mem l' x hx;omega))
    have h3:lexF (gtF n r) l l'=lexF (gtF m r) l l' :=
      lex_congr (fun x y hx hy=>gtF_stable r n m x y (by have:=sizes_mem l x hx;have:=sizes_mem l' y hy;omega) (by have:=sizes_mem l x hx;have:=sizes_mem l' y hy;omega))
    rw [gtF,gtF,h1,h2,h3]
def gt (r:Int→Int) (a b:Tm):Bool:=gtF (a.size+b.size).toNat r a b
theorem gt_of (r:Int→Int) (a b:Tm) (n:Nat) (h:a.size+b.size≤n):gtF n r a b=gt r a b:=by
  have:=Tm.size_pos a
  have:=Tm.size_pos b
  exact gtF_stable r _ _ a b h (by omega)
theorem gt_var (r:Int→Int) (a:Tm) (v:Int):gt r a (.var v)=match a with
    | .var _=>false
    | .app s l=>occT v (.app s l):=by
  rw [←gt_of r a (.var v) ((a.size+(Tm.var v).size).toNat+1) (by have:=Tm.size_pos a;have:=Tm.size_pos (.var v);omega)]
  cases a<;>rw [gtF]
theorem gt_va (r:Int→Int) (c s:Int) (l:List Tm):gt r (.var c) (.app s l)=false:=by
  rw [←gt_of r (.var c) (.app s l) (((Tm.var c).size+(Tm.app s l).size).toNat+1) (by have:=Tm.size_pos (.var c);have:=Tm.size_pos (.app s l);omega),gtF]
theorem gt_app (r:Int→Int) (s:Int) (l:List Tm) (s':Int) (l':List Tm):gt r (.app s l) (.app s' l') =
    (if l.any (fun t=>sameB t (.app s' l') || gt r t (.app s' l')) then true
    else if r s > r s' then false
    else if !(l'.all (fun u=>gt r (.app s l) u)) then false
    else if s≠s' then true
    else lexF (gt r) l l'):=by
  have hp1:=Tm.size_pos (.app s l)
  have hp2:=Tm.size_pos (.app s' l')
  obtain ⟨n,hn⟩:∃ n:Nat,n=((Tm.app s l).size+(Tm.app s' l').size).toNat:=⟨_,rfl⟩
  have e1:=Tm.size.eq_2 s l
  have e2:=Tm.size.eq_2 s' l'
  rw [←gt_of r (.app s l) (.app s' l') (n+1) (by omega),gtF]
  have h1:l.any (fun t=>sameB t (.app s' l') || gtF n r t (.app s' l'))=l.any (fun t=>sameB t (.app s' l') || gt r t (.app s' l')) :=
    any_congr' (fun x hx=>by rw [gt_of r x _ n (by have:=sizes_mem l x hx;omega)])
  have h2:l'.all (fun u=>gtF n r (.app s l) u)=l'.all (fun u=>gt r (.app s l) u) :=
    all_congr' (fun x hx=>gt_of r _ x n (by have:=sizes_mem l' x hx;omega))
  have h3:lexF (gtF n r) l l'=lexF (gt r) l l' :=
    lex_congr (fun x y hx hy=>gt_of r x y n (by have:=sizes_mem l x hx;have:=sizes_mem l' y hy;omega))
  rw [h1,h2,h3]
open Go.Proofs.Zw Go.Proofs.Zl Go.Proofs.Zm
def MapIs {α:Type} (enc:α→Value) (w:World) (m:Nat) (L:List (α × Value)):Prop :=
  ∃ es clock,w.heap[m]?=some (.map es clock)∧es.toList.map (fun e=>(e.key,e.val))=L.map (fun p=>(enc p.1,p.2))
def blockSet (w:World) (m:Nat) (o:Obj):World:={ w with heap:=w.heap.setIfInBounds m o }
theorem MapIs.keys {α:Type} {enc:α→Value} {es:Array MapEntry} {L:List (α × Value)} (h:es.toList.map (fun e=>(e.key,e.val))=L.map (fun p=>(enc p.1,p.2))):es.toList.map (·.key)=(L.map (·.1)).map enc:=by
  have:=congrArg (List.map Prod.fst) h
  simpa [List.map_map,Function.comp_def] using this
theorem MapIs.val_at {α:Type} {enc:α→Value} {es:Array MapEntry} {L:List (α × Value)} (h:es.toList.map (fun e=>(e.key,e.val))=L.map (fun p=>(enc p.1,p.2))) (i:Nat):(es.toList[i]?).map (·.val)=(L[i]?).map (·.2):=by
  have:=congrArg (fun l=>(l[i]?).map Prod.snd) h
  simpa [List.getElem?_map,Option.map_map,Function.comp_def] using this
section
variable {α:Type} [DecidableEq α]
structure Keyd (P:Program) (kt:TypeId) (enc:α→Value):Prop where
  check:∀ (a:α) (em:Bool) (w:World),(Instr.checkKey em 10000 kt (enc a)).run P w=.ok () w
  find:∀ (a:α) (es:List MapEntry) (ks:List α) (w:World),es.map (·.key)=ks.map enc→(Instr.findKey kt (enc a) es).run P w=.ok (match ks.findIdx? (·=a) with|some i=>(es[i]?).map (fun e=>(i,e.val))|none=>none) w
  same:∀ a:α,Instr.sameBits 10000 (enc a) (enc a)=true
def getL (L:List (α × Value)) (a:α):Option Value:=(L.find? (fun p=>p.1=a)).map (·.2)
def putL:List (α × Value)→α→Value→List (α × Value)
  | [],a,v=>[(a,v)]
  | p :: L,a,v=>if p.1=a then (a,v) :: L else p :: putL L a v
theorem find_of_eq {P:Program} {kt:TypeId} {enc:α→Value} (heq:∀ (a b:α) (w:World),(Op.equal kt (enc a) (enc b)).run P w=.ok (decide (a=b)) w) (a:α) (w:World):∀ (es:List MapEntry) (ks:List α) (i:Nat),es.map (·.key)=ks.map enc →
    (Instr.findAsking kt (enc a) es i).run P w=.ok (match ks.findIdx? (·=a) with|some j=>(es[j]?).map (fun e=>(i+j,e.val))|none=>none) w:=by
  intro es
  induction es with
  | nil =>
    intro ks i h
    cases ks with
    | nil=>simp [Instr.findAsking]
    | cons k ks=>simp at h
  | cons e es ih =>
    intro ks i h
    cases ks with
    | nil=>simp at h
    | cons k ks =>
      simp only [List.map_cons,List.cons.injEq] at h
      obtain ⟨hk,h⟩:=h
      simp only [Instr.findAsking,Sem.run_bind,hk,heq,Result.andThen_ok]
      by_cases e1:a=k
      · subst e1
        simp [List.findIdx?_cons]
      · have e2:¬ k=a:=fun h=>e1 h.symm
        simp only [e1,decide_false,Bool.false_eq_true,if_false,List.findIdx?_cons,e2]
        rw [ih ks (i+1) h]
        cases hf:ks.findIdx? (·=a) with
        | none=>simp
        | some j=>simp [Nat.add_assoc,Nat.add_comm 1 j]
theorem keyd_of_asking {P:Program} {kt:TypeId} {d:TypeDesc} {enc:α→Value} (hd:P.underlying kt=some d) (hn:∀ (a:α) (v:Value),Instr.sameNow d (enc a) v=none) (heq:∀ (a b:α) (w:World),(Op.equal kt (enc a) (enc b)).run P w=.ok (decide (a=b)) w)
    (hc:∀ (a:α) (em:Bool) (w:World),(Instr.checkKey em 10000 kt (enc a)).run P w=.ok () w) (hs:∀ a:α,Instr.sameBits 10000 (enc a) (enc a)=true):Keyd P kt enc:=by
  refine ⟨hc,?_,hs⟩
  intro a es ks w h
  simp only [Instr.findKey,Sem.run_bind,run_underlying hd,Result.andThen_ok]
  cases es with
  | nil =>
    cases ks with
    | nil=>simp [Instr.findNow]
    | cons k ks=>simp at h
  | cons e es =>
    cases ks with
    | nil=>simp at h
    | cons k ks =>
      have:Instr.findNow d (enc a) (e :: es) 0=none:=by simp [Instr.findNow,hn]
      rw [this]
      dsimp only
      rw [find_of_eq heq a w (e :: es) (k :: ks) 0 h]
      simp
theorem find_now {d:TypeDesc} {enc:α→Value} (hn:∀ a b:α,Instr.sameNow d (enc a) (enc b)=some (decide (a=b))) (a:α):∀ (es:List MapEntry) (ks:List α) (i:Nat),es.map (·.key)=ks.map enc →
    Instr.findNow d (enc a) es i=some (match ks.findIdx? (·=a) with|some j=>(es[j]?).map (fun e=>(i+j,e.val))|none=>none):=by
  intro es
  induction es with
  | nil =>
    intro ks i h
    cases ks with
    | nil=>simp [Instr.findNow]
    | cons k ks=>simp at h
  | cons e es ih =>
    intro ks i h
    cases ks with
    | nil=>simp at h
    | cons k ks =>
      simp only [List.map_cons,List.cons.injEq] at h
      obtain ⟨hk,h⟩:=h
      simp only [Instr.findNow,hk,hn]
      by_cases e1:a=k
      · subst e1
        simp [List.findIdx?_cons]
      · have e2:¬ k=a:=fun h=>e1 h.symm
        simp only [e1,decide_false,List.findIdx?_cons,e2,Bool.false_eq_true,if_false]
        rw [ih ks (i+1) h]
        cases hf:ks.findIdx? (·=a) with
        | none=>simp
        | some j=>simp [Nat.add_assoc,Nat.add_comm 1 j]
theorem keyd_of_now {P:Program} {kt:TypeId} {d:TypeDesc} {enc:α→Value} (hd:P.underlying kt=some d) (hn:∀ a b:α,Instr.sameNow d (enc a) (enc b)=some (decide (a=b)))
    (hc:∀ (a:α) (em:Bool) (w:World),(Instr.checkKey em 10000 kt (enc a)).run P w=.ok () w) (hs:∀ a:α,Instr.sameBits 10000 (enc a) (enc a)=true):Keyd P kt enc:=by
  refine ⟨hc,?_,hs⟩
  intro a es ks w h
  simp only [Instr.findKey,Sem.run_bind,run_underlying hd,Result.andThen_ok]
  rw [find_now hn a es ks 0 h]
  simp
theorem getL_find (L:List (α × Value)) (a:α):(match (L.map (·.1)).findIdx? (·=a) with|some i=>(L[i]?).map (·.2)|none=>none)=getL L a:=by
  induction L with
  | nil=>simp [getL]
  | cons p L ih =>
    unfold getL at ih ⊢
    simp only [List.map_cons,List.findIdx?_cons,List.find?_cons]
    by_cases e:p.1=a
    · simp [e]
    · simp only [e,decide_false,Bool.false_eq_true,if_false]
      rw [←ih]
      cases (L.map (·.1)).findIdx? (·=a) with
      | none=>simp
      | some j=>simp
theorem MapIs.lookup {P:Program} {T kt et:TypeId} {enc:α→Value} (K:Keyd P kt enc) (hT:P.underlying T=some (.map kt et)) {z:Value} (hz:∀ w,(zeroValue et).run P w=.ok z w) {w:World} {m:Nat} {L:List (α × Value)} (h:MapIs enc w m L) (a:α) (ok:Bool) :
    (Instr.lookup T (.map (some m)) (enc a) ok).run P w=.ok (if ok then .tuple #[(getL L a).getD z,.bool (getL L a).isSome] else (getL L a).getD z) w:=by
  obtain ⟨es,clock,hb,he⟩:=h
  have hf:=K.find a es.toList (L.map (·.1)) w (MapIs.keys he)
  have hg:=getL_find L a
  simp only [Instr.lookup,Sem.run_bind,run_underlying hT,MapKept.run_getObj_map hb,K.check,hf,Result.andThen_ok,Sem.run_pure]
  cases hi:(L.map (·.1)).findIdx? (·=a) with
  | none =>
    rw [hi] at hg
    dsimp only at hg
    simp only [←hg,hz,Sem.run_bind,Result.andThen_ok,Sem.run_pure]
    cases ok<;>rfl
  | some i =>
    rw [hi] at hg
    dsimp only at hg ⊢
    have hlt:i < L.length:=by
      have:=List.findIdx?_eq_some_iff_findIdx_eq.1 hi
      simpa using this.1
    have hv:=MapIs.val_at he i
    rw [List.getElem?_eq_getElem hlt] at hv hg
    cases hx:es.toList[i]? with
    | none=>rw [hx] at hv;cases hv
    | some e =>
      rw [hx] at hv
      simp only [Option.map_some,Option.some.injEq] at hv hg
      simp only [Option.map_some,Sem.run_pure,Result.andThen_ok,←hg,hv]
      cases ok<;>rfl
theorem putL_none {L:List (α × Value)} {a:α} (v:Value) (h:(L.map (·.1)).findIdx? (·=a)=none):putL L a v=L++[(a,v)]:=by
  induction L with
  | nil=>rfl
  | cons p L ih =>
    simp only [List.map_cons,List.findIdx?_cons] at h
    by_cases e:p.1=a
    · simp [e] at h
    · simp only [e,decide_false,Bool.false_eq_true,if_false,Option.map_eq_none_iff] at h
      simp only [putL,if_neg e,ih h,List.cons_append]
theorem putL_some {L:List (α × Value)} {a:α} (v:Value):∀ {i:Nat},(L.map (·.1)).findIdx? (·=a)=some i→putL L a v=L.set i (a,v):=by
  induction L with
  | nil=>intro i h;simp at h
  | cons p L ih =>
    intro i h
    simp only [List.map_cons,List.findIdx?_cons] at h
    by_cases e:p.1=a
    · simp [e] at h
      subst h
      simp [putL,e]
    · simp only [e,decide_false,Bool.false_eq_true,if_false,Option.map_eq_some_iff] at h
      obtain ⟨j,hj,rfl⟩:=h
      simp only [putL,if_neg e,ih hj,List.set_cons_succ]
theorem MapIs.update {P:Program} {T kt et:TypeId} {enc:α→Value} (K:Keyd P kt enc) (hT:P.underlying T=some (.map kt et)) {w:World} {m:Nat} {L:List (α × Value)} (h:MapIs enc w m L) (a:α) (v:Value) :
    ∃ o,(Instr.mapUpdate T (.map (some m)) (enc a) v).run P w=.ok () (blockSet w m o)∧MapIs enc (blockSet w m o) m (putL L a v):=by
  obtain ⟨es,clock,hb,he⟩:=h
  have hlt:m < w.heap.size:=(gl_ hb)
  have hf:=K.find a es.toList (L.map (·.1)) w (MapIs.keys he)
  cases hi:(L.map (·.1)).findIdx? (·=a) with
  | none =>
    rw [hi] at hf
    refine ⟨.map (es.push { key:=enc a,val:=v,born:=clock }) (clock+1),?_,es.push { key:=enc a,val:=v,born:=clock },clock+1,by simp [blockSet,hlt],?_⟩
    · simp only [Instr.mapUpdate,Sem.run_bind,run_underlying hT,MapKept.run_getObj_map hb,K.check,hf,Result.andThen_ok]
      exact MapKept.run_setObj_map _ hb
    · rw [putL_none v hi]
      simp [he]
  | some i =>
    rw [hi] at hf
    have hlt2:i < L.length:=by
      have:=List.findIdx?_eq_some_iff_findIdx_eq.1 hi
      simpa using this.1
    have hka:(L[i]).1=a:=by
      have h2:=List.findIdx?_eq_some_iff_getElem.1 hi
      simpa using h2.2.1
    have hes:es.size=L.length:=by simpa using congrArg List.length he
    have hki:(es[i]?).map (·.key)=some (enc a):=by
      have:=congrArg (fun l=>(l[i]?).map Prod.fst) he
      simp [List.getElem?_map,Option.map_map,Function.comp_def,hlt2,hka] at this
      simpa using this
    refine ⟨.map (es.modify i fun e=>{ e with key:=enc a,val:=v }) clock,?_,es.modify i fun e=>{ e with key:=enc a,val:=v },clock,by simp [blockSet,hlt],?_⟩
    · have hx:es.toList[i]?=some es[i]:=by simp [show i < es.size by omega]
      have hk:(Instr.keyThatStays (enc a) (enc a)).run P w=.ok (enc a) w:=by simp [Instr.keyThatStays,K.same]
      simp only [Instr.mapUpdate,Sem.run_bind,run_underlying hT,MapKept.run_getObj_map hb,K.check,hf,Result.andThen_ok,hx,Option.map_some,hki,Option.getD_some,hk]
      exact MapKept.run_setObj_map _ hb
    · rw [putL_some v hi]
      apply List.ext_getElem?
      intro j
      have hj:=congrArg (fun l=>l[j]?) he
      simp only [List.getElem?_map] at hj
      simp only [List.getElem?_map,Array.getElem?_toList,Array.getElem?_modify,List.getElem?_set]
      by_cases e:i=j
      · subst e
        simp [hlt2,show i < es.size by omega]
      · simp only [if_neg e]
        simpa using hj
end
def enP (p:ByteArray × ByteArray):Value:=.agg #[.string p.1,.string p.2]
theorem equalS (n:Nat) (a b:ByteArray) (w:World):(Op.equalIn (n+1) 9 (.string a) (.string b)).run Tryz.prog w=.ok (a == b) w:=by
  unfold Op.equalIn
  simp [Sem.run_bind,run_underlying Tryz.underlying9]
theorem partP (a b:ByteArray) (w:World):(part 9 #[.string a,.string b] 0).run Tryz.prog w=.ok (.string a) w∧(part 9 #[.string a,.string b] 1).run Tryz.prog w=.ok (.string b) w:=by
  constructor<;>go_simp
theorem size9 (w:World):(sizeOf 9).run Tryz.prog w=.ok 1 w:=by kernel_rfl
theorem bs_beq (a b:ByteArray):(a == b)=decide (a=b):=by
  cases a with
  | mk x=>cases b with
    | mk y =>
      rw [show ((ByteArray.mk x == ByteArray.mk y)=(x == y)) from rfl,Bool.eq_iff_iff]
      simp
theorem eq42 (p q:ByteArray × ByteArray) (w:World):(Op.equal 42 (enP p) (enP q)).run Tryz.prog w=.ok (decide (p=q)) w:=by
  have e:(p.1 == q.1 && p.2 == q.2)=decide (p=q):=by
    rw [Bool.eq_iff_iff,bs_beq,bs_beq]
    simp [Prod.ext_iff]
  rw [←e]
  unfold Op.equal enP
  rw [show Op.maxDepth=9998+2 from rfl,Op.equalIn]
  cases h1:(p.1 == q.1)<;>cases h2:(p.2 == q.2)<;>simp [Sem.run_bind,run_underlying Tryz.underlying42,size9,partP,equalS,List.range',Result.andThen,h1,h2]
theorem checkS (em:Bool) (n:Nat) (v:ByteArray) (w:World):(Instr.checkKey em (n+1) 9 (.string v)).run Tryz.prog w=.ok () w:=by
  simp [Instr.checkKey,Sem.run_bind,run_underlying Tryz.underlying9]
theorem check42 (em:Bool) (a:ByteArray × ByteArray) (w:World):(Instr.checkKey em (9998+2) 42 (enP a)).run Tryz.prog w=.ok () w:=by
  rw [Instr.checkKey,enP]
  simp [Sem.run_bind,run_underlying Tryz.underlying42,size9,partP,checkS,List.range',Result.andThen]
theorem keyd42:Keyd (α:=ByteArray × ByteArray) Tryz.prog 42 enP:=by
  refine keyd_of_asking Tryz.underlying42 (fun a v=>by cases v<;>rfl) eq42 (fun a em w=>check42 em a w) ?_
  intro a
  simp [enP,Instr.sameBits,bs_beq]
def enB (c:Int):Value:=.int .u8 c
theorem keyd5:Keyd (α:=Int) Tryz.prog 5 enB:=by
  refine keyd_of_now Tryz.underlying5 (fun a b=>?_) (fun a em w=>?_) (fun a=>?_)
  · simp [enB,Instr.sameNow]
    rw [Bool.eq_iff_iff]
    simp
  · have h:∀ n,(Instr.checkKey em (n+1) 5 (enB a)).run Tryz.prog w=.ok () w:=fun n=>by simp [Instr.checkKey,Sem.run_bind,run_underlying Tryz.underlying5,enB]
    exact h 9999
  · simp [enB,Instr.sameBits]
theorem set_size (w:World) (m:Nat) (o:Obj):(blockSet w m o).heap.size=w.heap.size:=by simp [blockSet]
theorem set_other {w:World} {m k:Nat} (o:Obj) (h:k≠m):(blockSet w m o).heap[k]?=w.heap[k]?:=by
 simp only [blockSet,Array.getElem?_setIfInBounds]
 rw [if_neg (fun e=>h e.symm)]
theorem below_blockSet {B:Nat} {w w':World} {m:Nat} (o:Obj) (h:Below B w w') (hm:B≤m):Below B w (blockSet w' m o) :=
 ⟨h.os,h.tape,h.output,by rw [set_size];exact h.size,fun k hk=>(set_other o (by omega)).trans (h.block k hk)⟩
theorem but_blockSet (w:World) (m:Nat) (o:Obj):But m w (blockSet w m o):=⟨rfl,rfl,rfl,by rw [set_size];exact Nat.le_refl _,fun k hk hg=>set_other o hg⟩
theorem MapIs.move {α:Type} {enc:α→Value} {w w':World} {m:Nat} {L:List (α × Value)} (h:MapIs enc w m L) (hb:w'.heap[m]?=w.heap[m]?):MapIs enc w' m L:=by
 obtain ⟨es,clock,h1,h2⟩:=h
 exact ⟨es,clock,hb.trans h1,h2⟩
theorem MapIs.lt {α:Type} {enc:α→Value} {w:World} {m:Nat} {L:List (α × Value)} (h:MapIs enc w m L):m < w.heap.size:=by
 obtain ⟨es,clock,h1,h2⟩:=h
 exact (gl_ h1)
theorem MapIs.below {α:Type} {enc:α→Value} {w w':World} {m:Nat} {L:List (α × Value)} (h:MapIs enc w m L) (hb:Below w.heap.size w w'):MapIs enc w' m L:=h.move (hb.block m h.lt)
theorem MapIs.len {α:Type} {enc:α→Value} {w:World} {m:Nat} {L:List (α × Value)} (h:MapIs enc w m L):∃ es clock,w.heap[m]?=some (.map es clock)∧es.size=L.length:=by
 obtain ⟨es,clock,h1,h2⟩:=h
 exact ⟨es,clock,h1,by simpa using congrArg List.length h2⟩
theorem zero3 (w:World):(zeroValue 3).run Tryz.prog w=.ok (.int .i64 0) w:=by kernel_rfl
theorem lookB {w:World} {m:Nat} {L:List (Int × Value)} (h:MapIs enB w m L) (c:Int) (w':World) (hw:w'.heap=w.heap:=by rfl):(Instr.lookup 117 (.map (some m)) (.int .u8 c) true).run Tryz.prog w'=.ok (.tuple #[(getL L c).getD (.int .i64 0),.bool (getL L c).isSome]) w':=by
 have h2:MapIs enB w' m L:=h.move (by rw [hw])
 have:=MapIs.lookup keyd5 Tryz.underlying117 zero3 h2 c true
 unfold enB at this
 simpa using this
theorem blk_new1' (w:World) (o1 o2:Obj):((w.alloc o1).alloc o2).heap[w.heap.size+1]?=some o2:=by
 have:=blk_new (w.alloc o1) o2
 rwa [World.size_alloc] at this
theorem run_len_map {α:Type} {enc:α→Value} {w:World} {m:Nat} {L:List (α × Value)} (h:MapIs enc w m L) {t k e:TypeId} (ht:Tryz.prog.underlying t=some (.map k e)) (hl:L.length≤1000000):(Builtin.len_ #[t] 3 #[.map (some m)]).run Tryz.prog w=.ok (.int .i64 (L.length:Int)) w:=by
 obtain ⟨es,clock,h1,h2⟩:=h.len
 simp [Builtin.len_,Sem.run_bind,run_underlying ht,MapKept.run_getObj_map h1,h2,Result.andThen,goInt]
 try exact wrp _ hl
theorem putL_len {α:Type} [DecidableEq α] (L:List (α × Value)) (a:α) (v:Value):(putL L a v).length≤L.length+1:=by
 induction L with
 | nil=>simp [putL]
 | cons q L ih =>
  simp only [putL]
  split
  ·simp
  ·simp only [List.length_cons];omega
theorem wr4 (k:Nat) (h:k < 1000):wrap64 ((k:Int)+1)=(k:Int)+1:=wrS (by omega) (by omega)
theorem blk_new2 (w:World) (o1 o2 o3:Obj):(((w.alloc o1).alloc o2).alloc o3).heap[w.heap.size+2]?=some o3:=by
 have:=blk_new ((w.alloc o1).alloc o2) o3
 rwa [World.size_alloc,World.size_alloc] at this
theorem blk_new3 (w:World) (o1 o2 o3 o4:Obj):((((w.alloc o1).alloc o2).alloc o3).alloc o4).heap[w.heap.size+3]?=some o4:=by
 have:=blk_new (((w.alloc o1).alloc o2).alloc o3) o4
 rwa [World.size_alloc,World.size_alloc,World.size_alloc] at this
def bAt (p:ByteArray) (k:Nat):Int:=if h:k < p.size then ((p[k]'h).toNat:Int) else 0
def rkL (p:ByteArray):Nat→List (Int × Value)
 | 0=>[]
 | k+1=>putL (rkL p k) (bAt p k) (.int .i64 k)
theorem rkL_len (p:ByteArray):∀ k,(rkL p k).length≤k
 | 0=>Nat.le_refl _
 | k+1=>by
  have:=rkL_len p k
  have:=putL_len (rkL p k) (bAt p k) (.int .i64 k)
  rw [rkL];omega
def rankP (p:ByteArray) (c:Int):Int:=match getL (rkL p p.size) c with
 | some (.int _ x)=>x
 | _=>0
def precOk (p:ByteArray):Bool:=decide (p.size=6) && (decide ((rkL p p.size).length=6) && [97,98,99,100,101,102].all fun c=>(getL (rkL p p.size) c).isSome)
def Ranks (w:World) (b:Nat) (r:Int→Int):Prop:=∃ L,MapIs enB w b L∧∀ c,97≤c∧c≤102→getL L c=some (.int .i64 (r c))
def OutP (w:World) (p:ByteArray) (e:Ending) (w':World):Prop :=
 Below w.heap.size w w'∧match precOk p with
 | true=>∃ b1 b2,e=.returned (.agg #[.map (some b1),.map (some b2)])∧b1≠b2∧w.heap.size≤b1∧w.heap.size≤b2∧Ranks w' b1 (rankP p)∧MapIs enP w' b2 ([]:List ((ByteArray × ByteArray) × Value))
 | false=>e=troubled 2
theorem getL_put {L:List (Int × Value)} {a c:Int} {v:Value}:getL (putL L a v) c=if c=a then some v else getL L c:=by
 induction L with
 | nil =>
  simp only [putL,getL,List.find?_cons,List.find?_nil]
  by_cases h:a=c
  ·subst h;simp
  ·simp [h,show ¬ c=a from fun e=>h e.symm]
 | cons q L ih =>
  simp only [putL]
  split
  ·rename_i hq
   simp only [getL,List.find?_cons]
   by_cases h:a=c
   ·subst h;simp
   ·have:¬ q.1=c:=fun e=>h (hq.symm.trans e)
    simp [h,this,show ¬ c=a from fun e=>h e.symm]
  ·rename_i hq
   simp only [getL,List.find?_cons] at ih ⊢
   by_cases h:q.1=c
   ·have:¬ c=a:=fun e=>hq (h.trans e)
    simp [h,this]
   ·simp only [h,decide_false]
    exact ih
theorem rkL_int (p:ByteArray) (c:Int) (v:Value):∀ k,getL (rkL p k) c=some v→∃ x:Int,v=.int .i64 x
 | 0,h=>by cases h
 | k+1,h=>by
  rw [rkL,getL_put] at h
  split at h
  ·injection h with h
   exact ⟨_,h.symm⟩
  ·exact rkL_int p c v k h
theorem rank_at {p:ByteArray} {c:Int} (h:(getL (rkL p p.size) c).isSome=true):getL (rkL p p.size) c=some (.int .i64 (rankP p c)):=by
 obtain ⟨v,hv⟩:=Option.isSome_iff_exists.1 h
 obtain ⟨x,rfl⟩:=rkL_int p c v _ hv
 unfold rankP
 rw [hv]
set_option maxRecDepth 100000 in
set_option maxHeartbeats 2000000 in
theorem newPrec_calls (p:ByteArray) (hp:p.size≤1000000) (w:World):Calls Tryz.prog 87 #[.string p] w (OutP w p):=by
 have hmm:=@run_makeMap Tryz.prog
 obtain ⟨Q,hQ⟩:∃ Q,Q=OutP w p:=⟨_,rfl⟩
 rw [←hQ]
 have HQ:=Aside0.mk hQ
 clear hQ
 have HPS:=Aside0.mk hp
 clear hp
 go_enter Tryz.func87,Tryz.ntmps87
 go_wp2
 go_loopw [13] (fun v13 wr=>∃ i:Nat,v13=.int .i64 (i:Int)∧Aside0 (i≤p.size)∧Aside0 (MapIs enB wr (w.heap.size+1) (rkL p i))∧Aside0 (MapIs enP wr (w.heap.size+2) ([]:List ((ByteArray × ByteArray) × Value)))∧Aside0 (wr.heap[w.heap.size+3]?=some (.cells #[.map (some (w.heap.size+1)),.map (some (w.heap.size+2))] 120 (0,0)))∧Aside0 (∃ x y,wr.heap[w.heap.size]?=some (.cells #[x,y] 120 (0,0)))∧Aside0 (Below w.heap.size w wr)) (fun v13 _=>p.size - (intOf v13).toNat)
 case atStart =>
  refine ⟨0,rfl,⟨Nat.zero_le _⟩,⟨⟨#[],0,blk_alloc (blk_alloc (blk_new1' w _ _) _) _,rfl⟩⟩,⟨⟨#[],0,blk_alloc (blk_new2 w _ _ _) _,rfl⟩⟩,⟨blk_new3 w _ _ _ _⟩,⟨⟨.map none,.map none,blk_alloc (blk_alloc (blk_alloc (blk_new w _) _) _) _⟩⟩,⟨below_alloc (below_alloc (below_alloc (below_alloc (Below.refl _ _) _) _) _) _⟩⟩
 case round =>
  obtain ⟨i,rfl,HI,HM,HM2,HS,HRS,HB⟩:=hrel
  by_cases hlt:i < p.size
  ·have hlb:decide ((i:Int) < (p.size:Int))=true:=decide_eq_true (by omega)
   have hw1:wrap64 ((i:Int)+1)=(i:Int)+1:=wrS (by omega) (by have:=HPS.out;omega)
   obtain ⟨o,ho,hm⟩:=MapIs.update (w:=wr.drew) keyd5 Tryz.underlying117 (HM.out.move rfl) (bAt p i) (.int .i64 (i:Int))
   have hbt:∀ h,(((p[i]'h).toNat:Nat):Int)=bAt p i:=fun h=>by unfold bAt;rw [dif_pos h]
   unfold enB at ho
   have HMU:=Aside0.mk hm
   clear hm
   go_wp2
   refine start_ (n:=7) (S:=fun w'=>w'.cell? ⟨w.heap.size+3,0,none⟩=some (.map (some (w.heap.size+1)))) (ds:=[6]) (bm 7 0) (by kernel_rfl) rfl rfl ((blk_cell (blk_drew HS.out) 0)) (fun hHeld=>?_)
   refine pk_ 0 16 (bm 7 1) ?_
   refine pk_ 2 18 (bm 7 5) ?_
   refine pk_ 3 19 (bm 7 13) ?_
   refine pk_ 5 21 (bm 7 45) ?_
   refine take_ (i:=1) (N:=some 17) (v:=?_) (a':=?_) (bm 7 47) rfl rfl (by kernel_rfl) (fun _ _ _ h=>h) (Or.inl ⟨by rfl,?_⟩) hHeld ?_ ?_;rotate_left
   ·intro w' s0
    go_simp
    with_reducible rfl
   rotate_left;exact tP_
   refine take_ (i:=4) (N:=some 20) (v:=?_) (a':=?_) (bm 7 63) rfl rfl (by kernel_rfl) (fun _ _ _ h=>h) (Or.inl ⟨by rfl,?_⟩) hHeld ?_ ?_;rotate_left
   ·intro w' s0
    go_simp
    with_reducible rfl
   rotate_left;exact tP_
   refine last_ (i:=6) (N:=none) (bm 7 127) rfl rfl (by kernel_rfl) (by decide) (fun K hK=>?_)
   refine skip_ (w1:=?_) (by rfl) rfl ?_ ?_
   rotate_left
   ·go_simp
    rfl
   refine hK.out _ _ ?_
   clear hK K
   refine done_ (by kernel_rfl) ?_
   go_wp2
   refine ⟨⟨i+1,by rw [hw1];rfl,⟨hlt⟩,⟨HMU.out⟩,⟨HM2.out.move (set_other o (by omega))⟩,⟨(set_other o (by omega)).trans HS.out⟩,⟨?_⟩,⟨below_blockSet o (pw_below_drewN HB.out 1) (by omega)⟩⟩,?_⟩
   ·obtain ⟨x,y,hxy⟩:=HRS.out
    exact ⟨x,y,(set_other o (by omega)).trans hxy⟩
   ·rw [hw1]
    simp only [intOf]
    clear hw1
    omega
  ·have hlb:decide ((i:Int) < (p.size:Int))=false:=decide_eq_false (by omega)
   obtain rfl:i=p.size:=by have:=HI.out;omega
   have hc0:=blk_cell HS.out 0
   by_cases h6:p.size=6
   ·have hlen:=run_len_map HM.out Tryz.underlying117 (by have:=rkL_len p p.size;omega)
    have h66:(p.size:Int)=6:=by omega
    by_cases hl:(rkL p p.size).length=6
    ·rw [hl] at hlen
     go_wp2_with (go_at_call 67;refine (demand_ok 2 _).mono ?_;rintro e w2 ⟨rfl,h2⟩;subst w2)
     clear hlen
     have HG:=Aside0.mk (And.intro h6 hl)
     clear h6 hl h66 hlb
     go_loopw [35] (fun v35 wi=>∃ i:Nat,v35=.int .i64 (i:Int)∧Aside0 (i≤6∧∀ j:Nat,j < i→(getL (rkL p p.size) (97+(j:Int))).isSome=true)∧Aside0 (MapIs enB wi (w.heap.size+1) (rkL p p.size))∧Aside0 (MapIs enP wi (w.heap.size+2) ([]:List ((ByteArray × ByteArray) × Value)))∧Aside0 (wi.heap[w.heap.size+3]?=some (.cells #[.map (some (w.heap.size+1)),.map (some (w.heap.size+2))] 120 (0,0)))∧Aside0 (∃ x y,wi.heap[w.heap.size]?=some (.cells #[x,y] 120 (0,0)))∧Aside0 (Below w.heap.size w wi)) (fun v35 _=>6 - (intOf v35).toNat)
     case atStart=>exact ⟨0,rfl,⟨Nat.zero_le _,fun j hj=>absurd hj (Nat.not_lt_zero _)⟩,HM,HM2,HS,HRS,HB⟩
     case round =>
      clear HM HM2 HS HRS HB HI hlt hc0
      obtain ⟨i,rfl,HI,HM,HM2,HS,HRS,HB⟩:=hrel
      by_cases hlt:i < 6
      ·have hlb:decide ((i:Int) < 6)=true:=decide_eq_true (by omega)
       have hli:(i:Int) < 6:=by omega
       have hsym:∀ h,((((⟨#[97,98,99,100,101,102]⟩:ByteArray)[i]'h).toNat:Nat):Int)=97+(i:Int):=by
        intro h
        have:i=0∨i=1∨i=2∨i=3∨i=4∨i=5:=by omega
        rcases this with rfl|rfl|rfl|rfl|rfl|rfl<;>rfl
       have hw1:=wr4 i (by omega)
       have hlook:=lookB HM.out (97+(i:Int)) wr.drew
       obtain ⟨g,hg⟩:∃ g,g=getL (rkL p p.size) (97+(i:Int)):=⟨_,rfl⟩
       rw [←hg] at hlook
       obtain ⟨bb,hbb⟩:∃ bb,bb=g.isSome:=⟨_,rfl⟩
       obtain ⟨vv,hvv⟩:∃ vv,vv=g.getD (.int .i64 0):=⟨_,rfl⟩
       rw [←hbb,←hvv] at hlook
       have HL:=Aside0.mk hlook
       have HBB:=Aside0.mk (hbb.trans (by rw [hg]))
       clear hlook hbb hvv hg
       go_wp2
       refine start_ (n:=10) (S:=fun w'=>w'.cell? ⟨w.heap.size+3,0,none⟩=some (.map (some (w.heap.size+1)))∧(Instr.lookup 117 (.map (some (w.heap.size+1))) (.int .u8 (97+(i:Int))) true).run Tryz.prog w'=.ok (.tuple #[vv,.bool bb]) w') (ds:=[]) (bm 10 0) (by kernel_rfl) rfl rfl ⟨(blk_cell (blk_drew HS.out) 0),HL.out⟩ (fun hHeld=>?_)
       refine pk_ 0 39 (bm 10 1) ?_
       refine pk_ 2 41 (bm 10 5) ?_
       refine take_ (i:=1) (N:=some 40) (v:=?_) (a':=?_) (bm 10 7) rfl rfl (by kernel_rfl) (fun _ _ _ h=>h) (Or.inl ⟨by rfl,?_⟩) hHeld ?_ ?_;rotate_left;(rintro w' ⟨s0,s1⟩;go_simp;with_reducible rfl);rotate_left;exact tP_
       refine take_ (i:=3) (N:=some 42) (v:=?_) (a':=?_) (bm 10 15) rfl rfl (by kernel_rfl) (fun _ _ _ h=>h) (Or.inl ⟨by rfl,?_⟩) hHeld ?_ ?_;rotate_left;(rintro w' ⟨s0,s1⟩;go_simp;with_reducible rfl);rotate_left;exact tP_
       refine take_ (i:=4) (N:=some 43) (v:=?_) (a':=?_) (bm 10 31) rfl rfl (by kernel_rfl) (fun _ _ _ h=>h) (Or.inl ⟨by rfl,?_⟩) hHeld ?_ ?_;rotate_left;(rintro w' ⟨s0,s1⟩;go_simp;with_reducible rfl);rotate_left;exact tP_
       refine pk_ 5 38 (bm 10 63) ?_
       refine pk_ 6 44 (bm 10 127) ?_
       refine pk_ 7 45 (bm 10 255) ?_
       refine pk_ 8 6 (bm 10 511) ?_
       refine pk_ 9 7 (bm 10 1023) ?_
       refine done_ (by kernel_rfl) ?_
       cases bb with
       | true =>
        go_wp2_with (go_at_call 67;refine (demand_ok 2 _).mono ?_;rintro e w2 ⟨rfl,h2⟩;subst w2)
        refine ⟨⟨i+1,rfl,⟨hlt,fun j hj=>?_⟩,⟨HM.out.move rfl⟩,⟨HM2.out.move rfl⟩,HS,HRS,⟨pw_below_drewN HB.out 1⟩⟩,?_⟩
        ·by_cases hji:j=i
         ·subst hji
          exact HBB.out.symm
         ·exact HI.out.2 j (by omega)
        ·clear hw1 hsym
         simp only [intOf]
         omega
       | false =>
        have hpo:precOk p=false:=by
         unfold precOk
         have:([97,98,99,100,101,102].all fun c=>(getL (rkL p p.size) c).isSome)=false:=by
          rw [List.all_eq_false]
          have hor:i=0∨i=1∨i=2∨i=3∨i=4∨i=5:=by omega
          exact ⟨97+(i:Int),by rcases hor with rfl|rfl|rfl|rfl|rfl|rfl<;>simp,by rw [←HBB.out];simp⟩
         rw [this,Bool.and_false,Bool.and_false]
        have hQ:Q=fun e w'=>Below w.heap.size w w'∧e=troubled 2:=by rw [HQ.out];funext e w';unfold OutP;rw [hpo]
        subst hQ
        clear hpo
        go_wp2_with (go_at_call 67;refine (demand_no 2 _).mono ?_;rintro e w2 ⟨rfl,h2⟩;subst w2)
        exact ⟨rfl,pw_below_drewN HB.out 1,rfl⟩
      ·have hlb:decide ((i:Int) < 6)=false:=decide_eq_false (by omega)
       obtain ⟨x,y,hxy⟩:=HRS.out
       have hc0:wr.cell? ⟨w.heap.size+1+1+1,0,none⟩=some (.map (some (w.heap.size+1))):=blk_cell HS.out 0
       have hc1:wr.cell? ⟨w.heap.size+1+1+1,1,none⟩=some (.map (some (w.heap.size+2))):=blk_cell HS.out 1
       have hd0:wr.cell? ⟨w.heap.size,0,none⟩=some x:=blk_cell hxy 0
       have hd1:wr.cell? ⟨w.heap.size,1,none⟩=some y:=blk_cell hxy 1
       have hz0:=blk_frozen hxy 0
       have hz1:=blk_frozen hxy 1
       have HXY:=Aside0.mk hxy
       clear hxy
       go_wp2
       have hset:=(blk_set2 (blk_set2 HXY.out (.map (some (w.heap.size+1)))).1 (.map (some (w.heap.size+2)))).2
       refine bodyPost_ret (results_cell_row (P:=Tryz.prog) rfl _ _ w.heap.size 120 _ (0,0) _ rfl hset Tryz.underlying120 rfl (by kernel_rfl)) rfl ?_
       have hpo:precOk p=true:=by
        unfold precOk
        rw [decide_eq_true HG.out.1,decide_eq_true HG.out.2,Bool.true_and,Bool.true_and,List.all_eq_true]
        intro c hc
        have h6:i=6:=by have:=HI.out.1;omega
        subst h6
        have hj:=HI.out.2
        simp only [List.mem_cons,List.not_mem_nil,or_false] at hc
        rcases hc with rfl|rfl|rfl|rfl|rfl|rfl
        ·exact hj 0 (by decide)
        ·exact hj 1 (by decide)
        ·exact hj 2 (by decide)
        ·exact hj 3 (by decide)
        ·exact hj 4 (by decide)
        ·exact hj 5 (by decide)
       rw [HQ.out]
       unfold OutP
       rw [hpo]
       refine ⟨below_set (below_set HB.out (Nat.le_refl _)) (Nat.le_refl _),w.heap.size+1,w.heap.size+2,rfl,by omega,by omega,by omega,⟨rkL p p.size,HM.out.move ((Below.heap_setCell _ _ _ _ (by show w.heap.size+1≠w.heap.size;omega)).trans (Below.heap_setCell _ _ _ _ (by show w.heap.size+1≠w.heap.size;omega))),fun c hc=>rank_at ?_⟩,HM2.out.move ((Below.heap_setCell _ _ _ _ (by show w.heap.size+2≠w.heap.size;omega)).trans (Below.heap_setCell _ _ _ _ (by show w.heap.size+2≠w.heap.size;omega)))⟩
       have hall:=hpo
       unfold precOk at hall
       simp only [Bool.and_eq_true,List.all_eq_true] at hall
       refine hall.2.2 c ?_
       have:c=97∨c=98∨c=99∨c=100∨c=101∨c=102:=by omega
       rcases this with rfl|rfl|rfl|rfl|rfl|rfl<;>simp
    ·have hpo:precOk p=false:=by unfold precOk;rw [decide_eq_false hl,Bool.false_and,Bool.and_false]
     have hQ:Q=fun e w'=>Below w.heap.size w w'∧e=troubled 2:=by rw [HQ.out];funext e w';unfold OutP;rw [hpo]
     subst hQ
     obtain ⟨q,hq⟩:∃ q:Int,q=((rkL p p.size).length:Int):=⟨_,rfl⟩
     rw [←hq] at hlen
     have hl6:¬ q=6:=by omega
     clear hpo hq hl
     have hqb:(q == 6)=false:=beq_eq_false_iff_ne.2 hl6
     go_wp2_with (go_at_call 67;refine (demand_no 2 _).mono ?_;rintro e w2 ⟨rfl,h2⟩;subst w2)
     exact ⟨rfl,HB.out,rfl⟩
   ·have h6i:((p.size:Int) == 6)=false:=beq_eq_false_iff_ne.2 (by omega)
    have hne:¬ ((p.size:Int)=6):=by omega
    have hpo:precOk p=false:=by unfold precOk;rw [decide_eq_false h6,Bool.false_and]
    have hQ:Q=fun e w'=>Below w.heap.size w w'∧e=troubled 2:=by rw [HQ.out];funext e w';unfold OutP;rw [hpo]
    subst hQ
    clear hpo
    go_wp2_with (go_at_call 67;refine (demand_no 2 _).mono ?_;rintro e w2 ⟨rfl,h2⟩;subst w2)
    exact ⟨rfl,HB.out,rfl⟩
end Go.Proofs.YtaafeallcaiooaaGreat.Pr
