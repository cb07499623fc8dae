/- the path order, plainly; texts name terms. -/
import Derived.Test.YtaafeallcaiooaaGreatHOc
namespace Go.Proofs.YtaafeallcaiooaaGreat.Pr
open Go.RowKit
set_option linter.unusedVariables false
set_option linter.unusedSimpArgs false
theorem ch_inj {a b:Int} (ha:0≤a∧a≤255) (hb:0≤b∧b≤255) (h:ch a=ch b):a=b:=by
  unfold ch at h
  have:=congrArg UInt8.toNat h
  simp at this
  omega
theorem tx_app (s:Int) (l:List Tm):(Tm.app s l).tx=match l with
    | []=>[ch s]
    | [x]=>[ch s,40]++x.tx++[41]
    | [x,y]=>[ch s,40]++x.tx++[44]++y.tx++[41]
    | l=>[ch s]++[40]++Lib.join (Tm.txs l) [44]++[41]:=by
  cases l with
  | nil=>rw [Tm.tx];rfl
  | cons x l =>
    cases l with
    | nil=>rw [Tm.tx,Tm.txs,Tm.txs];simp [Lib.join]
    | cons y l =>
      cases l with
      | nil=>rw [Tm.tx,Tm.txs,Tm.txs,Tm.txs];simp [Lib.join]
      | cons z l=>rw [Tm.tx];rfl
theorem tx_inj:∀ a:Tm,a.good→∀ b:Tm,b.good→∀ r r':List UInt8,a.tx++r=b.tx++r'→a=b∧r=r':=by
  refine Tm.ind (fun c hg b hb r r' h=>?_) (fun s l ih hg b hb r r' h=>?_)
  · rw [Tm.good] at hg
    cases b with
    | var c' =>
      rw [Tm.good] at hb
      rw [Tm.tx,Tm.tx] at h
      injection h with h1 h2
      exact ⟨by rw [ch_inj (by omega) (by omega) h1],h2⟩
    | app s' l' =>
      rw [Tm.good] at hb
      exfalso
      have hc:ch c=ch s':=by
        rw [Tm.tx,Tm.tx] at h
        split at h<;>(injection h with h1 h2)
      have:=ch_inj (by omega) (by omega) hc
      omega
  · have hgl:=good_len hg
    rw [Tm.good] at hg
    cases b with
    | var c' =>
      rw [Tm.good] at hb
      exfalso
      have hc:ch s=ch c':=by
        rw [Tm.tx,Tm.tx] at h
        split at h<;>(injection h with h1 h2)
      have:=ch_inj (by omega) (by omega) hc
      omega
    | app s' l' =>
      have hgl':=good_len hb
      rw [Tm.good] at hb
      have hc:ch s=ch s':=by
        rw [Tm.tx,Tm.tx] at h
        split at h<;>split at h<;>(injection h with h1 h2)
      obtain rfl:=ch_inj (by omega) (by omega) hc
      have hll:l.length=l'.length:=by omega
      rw [tx_app,tx_app] at h
      match l,l',hll,hgl,h,ih,hg,hb with
      | [],[],_,_,h,_,_,_ =>
        injection h with h1 h2
        exact ⟨rfl,h2⟩
      | [x],[x'],_,_,h,ih,hg,hb =>
        have hx:=hg.2.2
        have hx':=hb.2.2
        rw [Tm.goods] at hx hx'
        simp only [List.cons_append,List.nil_append,List.append_assoc] at h
        injection h with _ h
        injection h with _ h
        obtain ⟨rfl,h2⟩:=ih x (by simp) hx.1 x' hx'.1 _ _ h
        injection h2 with _ h2
        exact ⟨rfl,h2⟩
      | [x,y],[x',y'],_,_,h,ih,hg,hb =>
        have hx:=hg.2.2
        have hx':=hb.2.2
        rw [Tm.goods,Tm.goods] at hx hx'
        simp only [List.cons_append,List.nil_append,List.append_assoc] at h
        injection h with _ h
        injection h with _ h
        obtain ⟨rfl,h2⟩:=ih x (by simp) hx.1 x' hx'.1 _ _ h
        injection h2 with _ h2
        obtain ⟨rfl,h3⟩:=ih y (by simp) hx.2.1 y' hx'.2.1 _ _ h2
        injection h3 with _ h3
        exact ⟨rfl,h3⟩
      | _ :: _ :: _ :: _,_,_,hgl,_,_,_,_=>simp at hgl
theorem text_inj {a b:Tm} (ha:a.good) (hb:b.good) (h:a.text=b.text):a=b:=by
  have h1:a.tx=b.tx:=by
    unfold Tm.text at h
    injection h with h
    have:=congrArg Array.toList h
    simpa using this
  exact (tx_inj a ha b hb [] [] (by rw [h1])).1
theorem sameB_eq {a b:Tm} (ha:a.good) (hb:b.good):sameB a b=decide (a.text=b.text):=by
  unfold sameB
  by_cases h:a.tx=b.tx
  · rw [decide_eq_true h,decide_eq_true (by unfold Tm.text;rw [h])]
  · rw [decide_eq_false h,decide_eq_false (fun e=>h (by rw [text_inj ha hb e]))]
def lexF (g:Tm→Tm→Bool):List Tm→List Tm→Bool
  | t :: ts,u :: us=>if sameB t u then lexF g ts us else g t u
  | _,_=>false
def gtF:Nat→(Int→Int)→Tm→Tm→Bool
  | 0,_,_,_=>false
  | n+1,r,.var _,.var _=>false
  | n+1,r,.app s l,.var v=>occT v (.app s l)
  | n+1,r,.var _,.app _ _=>false
  | n+1,r,.app s l,.app s' l' =>
    if l.any (fun t=>sameB t (.app s' l') || gtF n r t (.app s' l')) then true
    else if r s > r s' then false
    else if !(l'.all (fun u=>gtF n r (.app s l) u)) then false
    else if s≠s' then true
    else lexF (gtF n r) l l'
theorem any_congr' {f g:Tm→Bool}:∀ {l:List Tm},(∀ x,x∈l→f x=g x)→l.any f=l.any g
  | [],_=>rfl
  | x :: l,h=>by rw [List.any_cons,List.any_cons,h x (by simp),any_congr' (fun y hy=>h y (by simp [hy]))]
theorem all_congr' {f g:Tm→Bool}:∀ {l:List Tm},(∀ x,x∈l→f x=g x)→l.all f=l.all g
  | [],_=>rfl
  | x :: l,h=>by rw [List.all_cons,List.all_cons,h x (by simp),all_congr' (fun y hy=>h y (by simp [hy]))]
theorem lex_congr {f g:Tm→Tm→Bool}:∀ {l m:List Tm},(∀ x y,x∈l→y∈m→f x y=g x y)→lexF f l m=lexF g l m
  | [],[],_=>rfl
  | [],_ :: _,_=>rfl
  | _ :: _,[],_=>rfl
  | x :: l,y :: m,h=>by
    rw [lexF,lexF,h x y (by simp) (by simp),lex_congr (fun a b ha hb=>h a b (by simp [ha]) (by simp [hb]))]
theorem gtF_stable (r:Int→Int):∀ (n m:Nat) (a b:Tm),a.size+b.size≤n→a.size+b.size≤m→gtF n r a b=gtF m r a b
  | 0,_,a,b,hn,_=>by have:=Tm.size_pos a;have:=Tm.size_pos b;omega
  | _,0,a,b,_,hm=>by have:=Tm.size_pos a;have:=Tm.size_pos b;omega
  | n+1,m+1,.var _,.var v,hn,hm=>by rw [gtF,gtF]
  | n+1,m+1,.app _ _,.var v,hn,hm=>by rw [gtF,gtF]
  | n+1,m+1,.var _,.app _ _,hn,hm=>by rw [gtF,gtF]
  | n+1,m+1,.app s l,.app s' l',hn,hm=>by
    have e1:=Tm.size.eq_2 s l
    have e2:=Tm.size.eq_2 s' l'
    have h1:l.any (fun t=>sameB t (.app s' l') || gtF n r t (.app s' l'))=l.any (fun t=>sameB t (.app s' l') || gtF m r t (.app s' l')) :=
      any_congr' (fun x hx=>by rw [gtF_stable r n m x _ (by have:=sizes_mem l x hx;omega) (by have:=sizes_mem l x hx;omega)])
    have h2:l'.all (fun u=>gtF n r (.app s l) u)=l'.all (fun u=>gtF m r (.app s l) u) :=
      all_congr' (fun x hx=>gtF_stable r n m _ x (by have:=sizes_mem l' x hx;omega) (by have:=sizes_mem l' x hx;omega))
    have h3:lexF (gtF n r) l l'=lexF (gtF m r) l l' :=
      lex_congr (fun x y hx hy=>gtF_stable r n m x y (by have:=sizes_mem l x hx;have:=sizes_mem l' y hy;omega) (by have:=sizes_mem l x hx;have:=sizes_mem l' y hy;omega))
    rw [gtF,gtF,h1,h2,h3]
def gt (r:Int→Int) (a b:Tm):Bool:=gtF (a.size+b.size).toNat r a b
theorem gt_of (r:Int→Int) (a b:Tm) (n:Nat) (h:a.size+b.size≤n):gtF n r a b=gt r a b:=by
  have:=Tm.size_pos a
  have:=Tm.size_pos b
  exact gtF_stable r _ _ a b h (by omega)
theorem gt_var (r:Int→Int) (a:Tm) (v:Int):gt r a (.var v)=match a with
    | .var _=>false
    | .app s l=>occT v (.app s l):=by
  rw [←gt_of r a (.var v) ((a.size+(Tm.var v).size).toNat+1) (by have:=Tm.size_pos a;have:=Tm.size_pos (.var v);omega)]
  cases a<;>rw [gtF]
theorem gt_va (r:Int→Int) (c s:Int) (l:List Tm):gt r (.var c) (.app s l)=false:=by
  rw [←gt_of r (.var c) (.app s l) (((Tm.var c).size+(Tm.app s l).size).toNat+1) (by have:=Tm.size_pos (.var c);have:=Tm.size_pos (.app s l);omega),gtF]
theorem gt_app (r:Int→Int) (s:Int) (l:List Tm) (s':Int) (l':List Tm):gt r (.app s l) (.app s' l') =
    (if l.any (fun t=>sameB t (.app s' l') || gt r t (.app s' l')) then true
    else if r s > r s' then false
    else if !(l'.all (fun u=>gt r (.app s l) u)) then false
    else if s≠s' then true
    else lexF (gt r) l l'):=by
  have hp1:=Tm.size_pos (.app s l)
  have hp2:=Tm.size_pos (.app s' l')
  obtain ⟨n,hn⟩:∃ n:Nat,n=((Tm.app s l).size+(Tm.app s' l').size).toNat:=⟨_,rfl⟩
  have e1:=Tm.size.eq_2 s l
  have e2:=Tm.size.eq_2 s' l'
  rw [←gt_of r (.app s l) (.app s' l') (n+1) (by omega),gtF]
  have h1:l.any (fun t=>sameB t (.app s' l') || gtF n r t (.app s' l'))=l.any (fun t=>sameB t (.app s' l') || gt r t (.app s' l')) :=
    any_congr' (fun x hx=>by rw [gt_of r x _ n (by have:=sizes_mem l x hx;omega)])
  have h2:l'.all (fun u=>gtF n r (.app s l) u)=l'.all (fun u=>gt r (.app s l) u) :=
    all_congr' (fun x hx=>gt_of r _ x n (by have:=sizes_mem l' x hx;omega))
  have h3:lexF (gtF n r) l l'=lexF (gt r) l l' :=
    lex_congr (fun x y hx hy=>gt_of r x y n (by have:=sizes_mem l x hx;have:=sizes_mem l' y hy;omega))
  rw [h1,h2,h3]
end Go.Proofs.YtaafeallcaiooaaGreat.Pr
