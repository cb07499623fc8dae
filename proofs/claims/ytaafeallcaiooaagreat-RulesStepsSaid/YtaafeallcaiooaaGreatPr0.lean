import Derived.Test.YtaafeallcaiooaaGreatProg
import Derived.Below
import Derived.Deep.Draws
import Derived.Deep.AppendLies
import Derived.Maps.AppendAt
import Derived.OwnWalk
import Derived.Laws.BytesArg
import Derived.Laws.MakeOwn
import Derived.Laws.OwnMore
import Derived.Deep.OwnRows
import Derived.Tactics
import Derived.Lib.ConvBytes
import Derived.Laws.Slices
import Derived.WalkKit
import Derived.KernelRfl
import Derived.RowKit3
import Derived.Deep.LoopGhost
import Derived.Deep.QuietTactic
import Derived.BigQuiet
import Derived.WideLaws
import Derived.Deep.DeepCutAuto
import Derived.Deep.CutBlock
import Derived.Deep.RegionHeld3
import Derived.Laws.Rows
import Derived.Lib.AppendStr
import Derived.ArgAppend
import Derived.Laws.IdiomCopy
import Derived.OrdersHeld
import Derived.Laws.BitsLemmas
import Derived.RowKit
import Derived.Test.YtaafeallcaiooaaGreatWWords
import Derived.Test.YtaafeallcaiooaaGreatWLast
import Derived.Test.YtaafeallcaiooaaGreatWTab
import Derived.Test.YtaafeallcaiooaaGreatWFour
import Derived.Test.YtaafeallcaiooaaGreatWQPut
import Derived.Test.YtaafeallcaiooaaGreatWApart
import Derived.Test.YtaafeallcaiooaaGreatWArr
import Derived.Test.YtaafeallcaiooaaGreatWZeros
import Derived.Test.YtaafeallcaiooaaGreatWFoot
import Derived.Test.YtaafeallcaiooaaGreatWKept
import Derived.Test.YtaafeallcaiooaaGreatWShare
import Derived.Test.YtaafeallcaiooaaGreatWN
import Derived.Test.YtaafeallcaiooaaGreatWFootNe
import Derived.Test.YtaafeallcaiooaaGreatWAt
import Derived.Test.YtaafeallcaiooaaGreatWEqStruct
import Derived.Test.YtaafeallcaiooaaGreatWRepsOne
import Derived.Test.YtaafeallcaiooaaGreatWInv
import Derived.Test.YtaafeallcaiooaaGreatWInvWords
import Derived.Test.YtaafeallcaiooaaGreatWGuard
import Derived.Test.YtaafeallcaiooaaGreatWNEv
import Derived.Test.YtaafeallcaiooaaGreatWMore
namespace Go.Proofs.YtaafeallcaiooaaGreat.Pr
open Go.RowKit Go.Proofs.Zw Go.Proofs.Zl Go.Proofs.Zm
attribute [local go_sem] max2_int min2_int max_two min_two max_three min_three max_four min_four
set_option linter.unusedVariables false
set_option linter.unusedSimpArgs false
def errW:Option Int→Value
  | none=>.nilIface
  | some c=>.iface 0 (.int .i64 c)
theorem errW_none:errW none=.nilIface:=rfl
theorem errW_some (c:Int):errW (some c)=.iface 0 (.int .i64 c):=rfl
theorem info9:(Tryz.prog.info? 9).map (fun i=>(i.zero,i.size,i.bytes))=some (some (.string ⟨#[]⟩),1,16):=by kernel_rfl
theorem info94:(Tryz.prog.info? 94).map (fun i=>(i.zero,i.size,i.bytes))=some (some (.agg #[(.string ⟨#[]⟩),(.string ⟨#[]⟩)]),2,32):=by kernel_rfl
def rd_L1 (xs:List (List Int)) (i:Int):(List Int):=xs.getD i.toNat ([]:List Int)
theorem at_L1 {w:World} {A:Option Addr} {n:Nat} {xs:List (List Int)} (h:Kd.C (Kd.slice 3 (Kd.int .i64)) w A n xs) (i:Int) (h0:0≤i) (h1:i < n):∃ ad A0 c0,A=some ad∧w.cell? (ad.add i.toNat)=some (.slice A0 (rd_L1 xs i).length c0)∧(rd_L1 xs i).length≤c0∧(Kd.int .i64).C w A0 (rd_L1 xs i).length (rd_L1 xs i):=by
  obtain ⟨ad,c,e,_,hK,hc0⟩:=Kd.C_get h ([]:List Int) i h0 h1
  have hc:∀ j u,c[j]?=some u→w.cell? (ad.add (i.toNat * 1+j))=some u:=hc0
  obtain ⟨A0,c0,rfl,l0,g0⟩:=hK
  exact ⟨ad,A0,c0,e,by have hq:=hc 0 _ rfl;rwa [Nat.mul_one,Nat.add_zero] at hq,l0,g0⟩
structure S25 where
  f0:Int
  f1:Int
  f2:Int
  f3:Int
structure S94 where
  f0:ByteArray
  f1:ByteArray
def z94:S94:=⟨(⟨#[]⟩:ByteArray),(⟨#[]⟩:ByteArray)⟩
def k94:Kd S94:=Kd.iso (Kd.pair Kd.string Kd.string) (fun x:S94=>(x.f0,x.f1))
theorem k94_open {w:World} {x:S94} {cs:List Value} (h:k94.K w x cs):cs=[.string x.f0,.string x.f1]:=by
  obtain ⟨_,_,rfl,rfl,rfl⟩:=h
  exact rfl
theorem k94_mkM (w:World) (base:Nat) (ok:Nat→Prop) (x:S94) :k94.M w base ok x [.string x.f0,.string x.f1]:=⟨[.string x.f0],[.string x.f1],rfl,rfl,rfl⟩
def rd_T94 (xs:List S94) (i:Int):S94:=xs.getD i.toNat z94
theorem at_T94 {w:World} {A:Option Addr} {n:Nat} {xs:List S94} (h:Kd.C k94 w A n xs) (i:Int) (h0:0≤i) (h1:i < n):∃ ad ,A=some ad∧w.cell? (ad.add (i.toNat * 2))=some (.string (rd_T94 xs i).f0)∧w.cell? ⟨(ad.add (i.toNat * 2)).block,(ad.add (i.toNat * 2)).off+1,none⟩=some (.string (rd_T94 xs i).f1):=by
  obtain ⟨ad,c,e,_,hK,hc0⟩:=Kd.C_get h z94 i h0 h1
  have hc:∀ j u,c[j]?=some u→w.cell? (ad.add (i.toNat * 2+j))=some u:=hc0
  obtain rfl:=k94_open hK
  exact ⟨ad,e,hc 0 _ rfl,by rw [←add_field _ _ 1 (by omega)];exact hc 1 _ rfl⟩
structure S61 where
  f0:ByteArray
  f1:ByteArray
  f2:ByteArray
def bm (n m:Nat):Array Bool:=((List.range n).map fun i=>m.testBit i).toArray
theorem zSA_ {α:Type _} (l:List α) (i:Nat) (a:α):l.toArray.setIfInBounds i a=(l.set i a).toArray:=List.setIfInBounds_toArray ..
theorem zS0_ {α:Type _} {a b:α} {l:List α}:(a :: l).set 0 b=b :: l:=rfl
theorem zS1_ {α:Type _} {a b:α} {l:List α} {i:Nat}:(a :: l).set (i+1) b=a :: l.set i b:=rfl
theorem tB_ {p q:Prop} (HB:Aside0 p) (h:p→q:=by intro hb_;repeat (first|(with_reducible first|exact hb_|apply below_alloc|apply pw_below_drewN|apply below_drew1)|exact hb_)):q:=h HB.out
theorem tR_ {p q:Prop} (H:Aside0 p) (h:p→q:=by intro h_;(with_reducible repeat (first|apply Kd.R_alloc|apply Kd.R_drewN|apply Kd.R_drew));exact h_):q:=h H.out
theorem tA_ {p:Prop} (h:p:=by first|(with_reducible assumption)|assumption):p:=h
theorem tM_ {p:Prop} (h:p:=by (try simp only [List.map_toArray,List.map_cons,List.map_nil]);first|done|rfl|(simp only [List.length_drop,List.length_take];rfl)):p:=h
theorem tS_ {p:Prop} (h:p:=by first|rfl|(simp;done)|(simp [*];done)):p:=h
theorem tY_ {p:Prop} (h:p:=by intro w';go_simp;with_reducible rfl):p:=h
theorem tP_ {p:Prop} (h:p:=by simp only [Act.put,zSA_,zS0_,zS1_,i64_w,i32_w];rfl):p:=h
theorem tD_ {p:Prop} (h:p:=by repeat (first|exact Drawn0.refl _|apply Drawn0.step)):p:=h
theorem gl_ {α:Type _} {a:Array α} {i:Nat} {x:α} (h:a[i]?=some x):i < a.size:=(Array.getElem?_eq_some_iff.1 h).1
theorem oT_ {p:Prop} {d:Decidable p} (h:decide p=true:=by first|(with_reducible assumption)|assumption):p:=of_decide_eq_true h
theorem cB_ {w W:World} {p:Addr} {v:Value} (HB:Aside0 (Below w.heap.size w W)) (h:w.cell? p=some v):W.cell? p=some v:=(HB.out.cell (World.block_lt_of_cell? w _ h)).trans h
theorem tN_ {p:Prop} (h:p:=by first|exact ⟨rfl,_,World.drewN_drewN _ _ _⟩|exact ⟨rfl,_,Eq.trans (World.drewN_drewN _ _ _) (congrArg (World.drewN _) (Nat.add_assoc _ _ _))⟩):p:=h
theorem tE_ {p:Prop} (h:p:=by first|rfl|(simp [errW_none,errW_some]<;>rfl)|(simp [*,errW_none,errW_some]<;>rfl)):p:=h
open Go.Proofs.Zl in
section
variable {Pg:Program} {md:Region.Mode} {ops:Array Oper} {Q:Exit→Act→World→Prop} {S:World→Prop} {ds:List Nat}
theorem pk_ (i n:Nat) {oi:Oper} {v:Value} {fuel:Nat} {l:Array Bool} {a:Act} {w:World} (l':Array Bool) {a':Act} (h:wpAnyLast Pg md ops Q S ds fuel l' a' w) (hi:ops[i]?=some oi:=by rfl) (hN:oi.dst=some n:=by rfl) (hc:anyB md ops l l' i=true:=by kernel_rfl)
    (hQ:∀ c a w,Q (.panic c) (a.put oi.dst v) w→Q (.panic c) a w:=by exact fun _ _ _ h=>h) (hy:Yields Pg ops oi v a:=by exact .inl ⟨rfl,tY_⟩) (ha:a.put (some n) v=a':=by exact tP_):wpAnyLast Pg md ops Q S ds (fuel+1) l a w:=pure_ l' hi hN hc hQ hy ha h
theorem pj_ (i n:Nat) {oi:Oper} {v:Value} {fuel:Nat} {l:Array Bool} {a:Act} {w:World} (l':Array Bool) (hc:anyB md ops l l' i=true) {a':Act} (h:wpAnyLast Pg md ops Q S ds fuel l' a' w) (hi:ops[i]?=some oi:=by rfl) (hN:oi.dst=some n:=by rfl)
    (hQ:∀ c a w,Q (.panic c) (a.put oi.dst v) w→Q (.panic c) a w:=by exact fun _ _ _ h=>h) (hy:Yields Pg ops oi v a:=by exact .inl ⟨rfl,tY_⟩) (ha:a.put (some n) v=a':=by exact tP_):wpAnyLast Pg md ops Q S ds (fuel+1) l a w:=pure_ l' hi hN hc hQ hy ha h
end
end Go.Proofs.YtaafeallcaiooaaGreat.Pr
