import Derived.Test.YtaafeallcaiooaaGreatPr0
import Derived.Test.YtaafeallcaiooaaGreatHOt
import Derived.Test.YtaafeallcaiooaaGreatHNe
import Derived.Test.YtaafeallcaiooaaGreatPrA2
namespace Go.Proofs.YtaafeallcaiooaaGreat.Pr
open Go.RowKit Go.Proofs.Zw Go.Proofs.Zl Go.Proofs.Zm
attribute [local go_sem] max2_int min2_int max_two min_two max_three min_three max_four min_four
set_option linter.unusedVariables false
set_option linter.unusedSimpArgs false
theorem eqA25 (d:Nat) (w:World) (x0 y0:Int) (x1 y1:Int) (x2 y2:Int) (x3 y3:Int) :
    (Op.equalIn (d+2) 25 (.agg #[.int .i64 x0,.int .i64 x1,.int .i64 x2,.int .i64 x3]) (.agg #[.int .i64 y0,.int .i64 y1,.int .i64 y2,.int .i64 y3])).run Tryz.prog w=.ok (x0 == y0 && (x1 == y1 && (x2 == y2 && (x3 == y3)))) w:=by
  rw [Op.equalIn]
  have hs:(sizeOf 3).run Tryz.prog w=.ok 1 w:=by go_simp
  have p0:(part 3 #[.int .i64 x0,.int .i64 x1,.int .i64 x2,.int .i64 x3] 0).run Tryz.prog w=.ok (.int .i64 x0) w:=by go_simp;try rfl
  have p1:(part 3 #[.int .i64 x0,.int .i64 x1,.int .i64 x2,.int .i64 x3] 1).run Tryz.prog w=.ok (.int .i64 x1) w:=by go_simp;try rfl
  have p2:(part 3 #[.int .i64 x0,.int .i64 x1,.int .i64 x2,.int .i64 x3] 2).run Tryz.prog w=.ok (.int .i64 x2) w:=by go_simp;try rfl
  have p3:(part 3 #[.int .i64 x0,.int .i64 x1,.int .i64 x2,.int .i64 x3] 3).run Tryz.prog w=.ok (.int .i64 x3) w:=by go_simp;try rfl
  have q0:(part 3 #[.int .i64 y0,.int .i64 y1,.int .i64 y2,.int .i64 y3] 0).run Tryz.prog w=.ok (.int .i64 y0) w:=by go_simp;try rfl
  have q1:(part 3 #[.int .i64 y0,.int .i64 y1,.int .i64 y2,.int .i64 y3] 1).run Tryz.prog w=.ok (.int .i64 y1) w:=by go_simp;try rfl
  have q2:(part 3 #[.int .i64 y0,.int .i64 y1,.int .i64 y2,.int .i64 y3] 2).run Tryz.prog w=.ok (.int .i64 y2) w:=by go_simp;try rfl
  have q3:(part 3 #[.int .i64 y0,.int .i64 y1,.int .i64 y2,.int .i64 y3] 3).run Tryz.prog w=.ok (.int .i64 y3) w:=by go_simp;try rfl
  have e0:(Op.equalIn (d+1) 3 (.int .i64 x0) (.int .i64 y0)).run Tryz.prog w=.ok (x0 == y0) w:=by go_simp
  have e1:(Op.equalIn (d+1) 3 (.int .i64 x1) (.int .i64 y1)).run Tryz.prog w=.ok (x1 == y1) w:=by go_simp
  have e2:(Op.equalIn (d+1) 3 (.int .i64 x2) (.int .i64 y2)).run Tryz.prog w=.ok (x2 == y2) w:=by go_simp
  have e3:(Op.equalIn (d+1) 3 (.int .i64 x3) (.int .i64 y3)).run Tryz.prog w=.ok (x3 == y3) w:=by go_simp
  simp only [Sem.run_bind,run_underlying Tryz.underlying25,Result.andThen_ok,hs]
  generalize (x0 == y0)=r0 at e0 ⊢
  generalize (x1 == y1)=r1 at e1 ⊢
  generalize (x2 == y2)=r2 at e2 ⊢
  generalize (x3 == y3)=r3 at e3 ⊢
  cases r0<;>cases r1<;>cases r2<;>cases r3<;>simp [List.range',p0,p1,p2,p3,q0,q1,q2,q3,e0,e1,e2,e3]
end Go.Proofs.YtaafeallcaiooaaGreat.Pr
namespace Go.Proofs.YtaafeallcaiooaaGreat.Pr
open Go.RowKit Go.Maps Go.Proofs.Zw Go.Proofs.Zl Go.Proofs.Zm
set_option linter.unusedVariables false
set_option linter.unusedSimpArgs false
def rules_Next.f (l0:List S94) (a1:ByteArray):Option (List ByteArray × Int):=some ((nextsT l0 a1).2,(nextsT l0 a1).1)
theorem rules_Next.calls (A0:Option Addr) (c0:Nat) (l0:List S94) (a1:ByteArray) (r0:List ByteArray) (r1:Int) (w:World) (hr0:Kd.C k94 w A0 l0.length l0) (hc0:l0.length≤c0) (h:rules_Next.f l0 a1=some (r0,r1)) :
    Calls Tryz.prog 49 #[.slice A0 l0.length c0,.string a1] w fun e w'=>∃ v0_,e=.returned (.tuple #[v0_,.int .i64 r1])∧Kd.R Kd.string 9 w' w.heap.size (fun _=>True) v0_ r0∧Below w.heap.size w w':=by
  unfold rules_Next.f at h
  injection h with h
  injection h with h1 h2
  subst h1 h2
  refine (nexts_calls l0 a1 A0 c0 w hr0).mono ?_
  rintro e w' ⟨v,rfl,h1,h2⟩
  exact ⟨v,rfl,Kd.R_of_own (Kd.own_of_R h1) (fun _ _=>trivial),h2⟩
def rules_Orient.f (l0:List S94):Option (ByteArray × Int):=some ((orientT l0).2,(orientT l0).1)
theorem rules_Orient.calls (A0:Option Addr) (c0:Nat) (l0:List S94) (r0:ByteArray) (r1:Int) (w:World) (hr0:Kd.C k94 w A0 l0.length l0) (hc0:l0.length≤c0) (h:rules_Orient.f l0=some (r0,r1)) :
    Calls Tryz.prog 36 #[.slice A0 l0.length c0] w fun e w'=>e=.returned (.tuple #[.string r0,.int .i64 r1])∧Below w.heap.size w w':=by
  unfold rules_Orient.f at h
  injection h with h
  injection h with h1 h2
  subst h1 h2
  exact orient_calls l0 A0 c0 w hr0
def rules_Value.f (l0:List (List Int)) (a1:ByteArray):Option (Int × Int × Int × Int × Int):=some ((valT l0 a1).2 0,(valT l0 a1).2 1,(valT l0 a1).2 2,(valT l0 a1).2 3,(valT l0 a1).1)
theorem rules_Value.calls (A0:Option Addr) (c0:Nat) (l0:List (List Int)) (a1:ByteArray) (r0 r1 r2 r3 r4:Int) (w:World) (hr0:Kd.C (Kd.slice 3 (Kd.int .i64)) w A0 l0.length l0) (hc0:l0.length≤c0) (h:rules_Value.f l0 a1=some (r0,r1,r2,r3,r4)) :
    Calls Tryz.prog 22 #[.slice A0 l0.length c0,.string a1] w fun e w'=>e=.returned (.tuple #[.agg #[.int .i64 r0,.int .i64 r1,.int .i64 r2,.int .i64 r3],.int .i64 r4])∧Below w.heap.size w w':=by
  unfold rules_Value.f at h
  injection h with h
  injection h with h1 h
  injection h with h2 h
  injection h with h3 h
  injection h with h4 h5
  subst h1 h2 h3 h4 h5
  exact val_calls l0 a1 A0 c0 w hr0
attribute [local go_sem] max2_int min2_int max_two min_two max_three min_three max_four min_four
set_option linter.unusedVariables false
set_option linter.unusedSimpArgs false
attribute [local go_sem high] eqA25
def nl_awake.j0:Nat→List (S94)→Bool→Option (Bool)
 | 0,_,_=>none
 | k+1,x1,x56=>if x56=true then (some false) else ((rules_IsLoop.f x1 (([(⟨#[101,40,120,44,121,41]⟩:ByteArray),(⟨#[101,40,121,44,120,41]⟩:ByteArray)]:List ByteArray))).bind fun t170=>(if t170=0 then (some true) else (some false)))
def nl_awake.f (k:Nat) :Option (Bool):=(some (([(⟨(⟨#[101,40,120,44,121,41]⟩:ByteArray),(⟨#[101,40,121,44,120,41]⟩:ByteArray)⟩:S94)]:List (S94)):List (S94))).bind fun y124=>((rules_Next.f y124 (⟨#[101,40,97,44,98,41]⟩:ByteArray)).bind fun bt127=>((rules_Orient.f (([(⟨(⟨#[99,40,100,40,120,41,41]⟩:ByteArray),(⟨#[100,40,99,40,120,41,41]⟩:ByteArray)⟩:S94)]:List (S94)))).bind fun bt134=>((rules_Value.f (([(([0]:List Int)),(([1]:List Int)),(([1,1]:List Int)),(([0,1]:List Int)),(([0,1,1]:List Int)),(([0,1,2]:List Int))]:List (List Int))) (⟨#[102,40,99,40,98,41,44,120,41]⟩:ByteArray)).bind fun bt157=>(if bt127.2=0 then ((nl_texts.f k bt127.1 (([(⟨#[101,40,98,44,97,41]⟩:ByteArray)]:List ByteArray))).bind fun t166=>(if t166=true then (if bt134.2=0 then (if bt134.1.toList=([97,98,99,100,101,102]:List UInt8) then (if bt157.2.2.2.2=0 then (nl_awake.j0 k y124 (!(bt157.1 == 2) || (!(bt157.2.1 == 2) || (!(bt157.2.2.1 == 0) || (!(bt157.2.2.2.1 == 0)))))) else (nl_awake.j0 k y124 true)) else (nl_awake.j0 k y124 true)) else (nl_awake.j0 k y124 true)) else (nl_awake.j0 k y124 true))) else (nl_awake.j0 k y124 true)))))
theorem nl_awake.mono_l:∀ k,(∀ y0 y1,LeO (nl_awake.j0 k y0 y1) (nl_awake.j0 (k+1) y0 y1))
 | 0=>fun _ _ r h=>by simp [nl_awake.j0] at h
 | k+1=>by
  have ih0:=nl_awake.mono_l k
  ·intro y0 y1
   unfold nl_awake.j0
   repeat' first
   | (with_reducible exact ih0 _ _)
   | (with_reducible exact nl_texts.mono _ _ _)
   | (with_reducible exact LeO.refl _)
   | (with_reducible exact LeO.none _)
   | (with_reducible refine LeO.ite ?_ ?_)
   | (with_reducible refine LeO.bind ?_ (fun _=>?_))
   | exact ih0 _ _
   | exact nl_texts.mono _ _ _
   | exact LeO.none _
   | refine LeO.ite ?_ ?_
   | refine LeO.bind ?_ (fun _=>?_)
theorem nl_awake.mono:∀ k,LeO (nl_awake.f k ) (nl_awake.f (k+1) ):=by
 intro  k
 have ih0:=nl_awake.mono_l k
 unfold nl_awake.f
 repeat' first
   | (with_reducible exact ih0 _ _)
   | (with_reducible exact nl_texts.mono _ _ _)
   | (with_reducible exact LeO.refl _)
   | (with_reducible exact LeO.none _)
   | (with_reducible refine LeO.ite ?_ ?_)
   | (with_reducible refine LeO.bind ?_ (fun _=>?_))
   | exact ih0 _ _
   | exact nl_texts.mono _ _ _
   | exact LeO.none _
   | refine LeO.ite ?_ ?_
   | refine LeO.bind ?_ (fun _=>?_)
theorem nl_awake.j0_no:∀ k y0,nl_awake.j0 k y0 true≠some true:=by intro k y0;cases k<;>simp [nl_awake.j0]
theorem nl_awake.up:∀ n k r,nl_awake.f k=some r→nl_awake.f (k+n)=some r
 | 0,_,_,h=>h
 | n+1,k,r,h=>nl_awake.mono (k+n) r (nl_awake.up n k r h)
set_option maxRecDepth 100000 in
theorem awake_20:nl_awake.f 20=some true:=by kernel_rfl
theorem awake_r (k:Nat) (r:Bool) (h:nl_awake.f k=some r):r=true:=by
 have h1:=nl_awake.up 20 k r h
 have h2:=nl_awake.up k 20 true awake_20
 rw [Nat.add_comm] at h2
 exact Option.some.inj (h1.symm.trans h2)
set_option maxHeartbeats 8000000 in
set_option maxRecDepth 100000 in
theorem nl_awake.calls (k:Nat)  (r:Bool) (w:World) (h:nl_awake.f k =some r) :
  Calls Tryz.prog 24 #[] w fun e w'=>e=.returned (.bool r)∧Below w.heap.size w w':=by
 have HT0_:=Aside0.mk (awake_r k r h)
 have hu94:=Tryz.underlying94
 have hu25:=Tryz.underlying25
 have HB:=Aside0.mk (Below.refl w.heap.size w)
 have H:((some (([(⟨(⟨#[101,40,120,44,121,41]⟩:ByteArray),(⟨#[101,40,121,44,120,41]⟩:ByteArray)⟩:S94)]:List (S94)):List (S94))).bind fun y124=>((rules_Next.f y124 (⟨#[101,40,97,44,98,41]⟩:ByteArray)).bind fun bt127=>((rules_Orient.f (([(⟨(⟨#[99,40,100,40,120,41,41]⟩:ByteArray),(⟨#[100,40,99,40,120,41,41]⟩:ByteArray)⟩:S94)]:List (S94)))).bind fun bt134=>((rules_Value.f (([(([0]:List Int)),(([1]:List Int)),(([1,1]:List Int)),(([0,1]:List Int)),(([0,1,1]:List Int)),(([0,1,2]:List Int))]:List (List Int))) (⟨#[102,40,99,40,98,41,44,120,41]⟩:ByteArray)).bind fun bt157=>(if bt127.2=0 then ((nl_texts.f k bt127.1 (([(⟨#[101,40,98,44,97,41]⟩:ByteArray)]:List ByteArray))).bind fun t166=>(if t166=true then (if bt134.2=0 then (if bt134.1.toList=([97,98,99,100,101,102]:List UInt8) then (if bt157.2.2.2.2=0 then (nl_awake.j0 k y124 (!(bt157.1 == 2) || (!(bt157.2.1 == 2) || (!(bt157.2.2.1 == 0) || (!(bt157.2.2.2.1 == 0)))))) else (nl_awake.j0 k y124 true)) else (nl_awake.j0 k y124 true)) else (nl_awake.j0 k y124 true)) else (nl_awake.j0 k y124 true))) else (nl_awake.j0 k y124 true))))))=some r:=h
 clear h
 obtain ⟨y124,hy124⟩:∃ y_:List (S94),y_=(([(⟨(⟨#[101,40,120,44,121,41]⟩:ByteArray),(⟨#[101,40,121,44,120,41]⟩:ByteArray)⟩:S94)]:List (S94))):=⟨_,rfl⟩
 replace H:((rules_Next.f y124 (⟨#[101,40,97,44,98,41]⟩:ByteArray)).bind fun bt127=>((rules_Orient.f (([(⟨(⟨#[99,40,100,40,120,41,41]⟩:ByteArray),(⟨#[100,40,99,40,120,41,41]⟩:ByteArray)⟩:S94)]:List (S94)))).bind fun bt134=>((rules_Value.f (([(([0]:List Int)),(([1]:List Int)),(([1,1]:List Int)),(([0,1]:List Int)),(([0,1,1]:List Int)),(([0,1,2]:List Int))]:List (List Int))) (⟨#[102,40,99,40,98,41,44,120,41]⟩:ByteArray)).bind fun bt157=>(if bt127.2=0 then ((nl_texts.f k bt127.1 (([(⟨#[101,40,98,44,97,41]⟩:ByteArray)]:List ByteArray))).bind fun t166=>(if t166=true then (if bt134.2=0 then (if bt134.1.toList=([97,98,99,100,101,102]:List UInt8) then (if bt157.2.2.2.2=0 then (nl_awake.j0 k y124 (!(bt157.1 == 2) || (!(bt157.2.1 == 2) || (!(bt157.2.2.1 == 0) || (!(bt157.2.2.2.1 == 0)))))) else (nl_awake.j0 k y124 true)) else (nl_awake.j0 k y124 true)) else (nl_awake.j0 k y124 true)) else (nl_awake.j0 k y124 true))) else (nl_awake.j0 k y124 true)))))=some r:=by first|(rw [hy124];with_reducible exact H)|(have H2_:=(Option.bind_some _ _).symm.trans H;rw [hy124];with_reducible exact H2_)|(have H2_:=(Option.bind_some _ _).symm.trans H;with_reducible exact H2_)|with_reducible exact H|(rw [hy124];exact H)|exact H
 have Ny124:=Aside0.mk hy124
 clear hy124
 replace H:=Option.bind_eq_some_iff.mp H
 obtain ⟨⟨t127,t128⟩,A10,H⟩:=H
 replace H:((rules_Orient.f (([(⟨(⟨#[99,40,100,40,120,41,41]⟩:ByteArray),(⟨#[100,40,99,40,120,41,41]⟩:ByteArray)⟩:S94)]:List (S94)))).bind fun bt134=>((rules_Value.f (([(([0]:List Int)),(([1]:List Int)),(([1,1]:List Int)),(([0,1]:List Int)),(([0,1,1]:List Int)),(([0,1,2]:List Int))]:List (List Int))) (⟨#[102,40,99,40,98,41,44,120,41]⟩:ByteArray)).bind fun bt157=>(if t128=0 then ((nl_texts.f k t127 (([(⟨#[101,40,98,44,97,41]⟩:ByteArray)]:List ByteArray))).bind fun t166=>(if t166=true then (if bt134.2=0 then (if bt134.1.toList=([97,98,99,100,101,102]:List UInt8) then (if bt157.2.2.2.2=0 then (nl_awake.j0 k y124 (!(bt157.1 == 2) || (!(bt157.2.1 == 2) || (!(bt157.2.2.1 == 0) || (!(bt157.2.2.2.1 == 0)))))) else (nl_awake.j0 k y124 true)) else (nl_awake.j0 k y124 true)) else (nl_awake.j0 k y124 true)) else (nl_awake.j0 k y124 true))) else (nl_awake.j0 k y124 true))))=some r:=H
 have A1:=Aside0.mk A10
 clear A10
 obtain ⟨y131,hy131⟩:∃ y_:List (S94),y_=(([(⟨(⟨#[99,40,100,40,120,41,41]⟩:ByteArray),(⟨#[100,40,99,40,120,41,41]⟩:ByteArray)⟩:S94)]:List (S94))):=⟨_,rfl⟩
 replace H:((rules_Orient.f y131).bind fun bt134=>((rules_Value.f (([(([0]:List Int)),(([1]:List Int)),(([1,1]:List Int)),(([0,1]:List Int)),(([0,1,1]:List Int)),(([0,1,2]:List Int))]:List (List Int))) (⟨#[102,40,99,40,98,41,44,120,41]⟩:ByteArray)).bind fun bt157=>(if t128=0 then ((nl_texts.f k t127 (([(⟨#[101,40,98,44,97,41]⟩:ByteArray)]:List ByteArray))).bind fun t166=>(if t166=true then (if bt134.2=0 then (if bt134.1.toList=([97,98,99,100,101,102]:List UInt8) then (if bt157.2.2.2.2=0 then (nl_awake.j0 k y124 (!(bt157.1 == 2) || (!(bt157.2.1 == 2) || (!(bt157.2.2.1 == 0) || (!(bt157.2.2.2.1 == 0)))))) else (nl_awake.j0 k y124 true)) else (nl_awake.j0 k y124 true)) else (nl_awake.j0 k y124 true)) else (nl_awake.j0 k y124 true))) else (nl_awake.j0 k y124 true))))=some r:=by first|(rw [hy131];with_reducible exact H)|(have H2_:=(Option.bind_some _ _).symm.trans H;rw [hy131];with_reducible exact H2_)|(have H2_:=(Option.bind_some _ _).symm.trans H;with_reducible exact H2_)|with_reducible exact H|(rw [hy131];exact H)|exact H
 have Ny131:=Aside0.mk hy131
 clear hy131
 replace H:=Option.bind_eq_some_iff.mp H
 obtain ⟨⟨t134,t135⟩,A20,H⟩:=H
 replace H:((rules_Value.f (([(([0]:List Int)),(([1]:List Int)),(([1,1]:List Int)),(([0,1]:List Int)),(([0,1,1]:List Int)),(([0,1,2]:List Int))]:List (List Int))) (⟨#[102,40,99,40,98,41,44,120,41]⟩:ByteArray)).bind fun bt157=>(if t128=0 then ((nl_texts.f k t127 (([(⟨#[101,40,98,44,97,41]⟩:ByteArray)]:List ByteArray))).bind fun t166=>(if t166=true then (if t135=0 then (if t134.toList=([97,98,99,100,101,102]:List UInt8) then (if bt157.2.2.2.2=0 then (nl_awake.j0 k y124 (!(bt157.1 == 2) || (!(bt157.2.1 == 2) || (!(bt157.2.2.1 == 0) || (!(bt157.2.2.2.1 == 0)))))) else (nl_awake.j0 k y124 true)) else (nl_awake.j0 k y124 true)) else (nl_awake.j0 k y124 true)) else (nl_awake.j0 k y124 true))) else (nl_awake.j0 k y124 true)))=some r:=H
 have A2:=Aside0.mk A20
 clear A20
 obtain ⟨y136,hy136⟩:∃ y_:List Int,y_=(([0]:List Int)):=⟨_,rfl⟩
 replace H:((rules_Value.f (([y136,(([1]:List Int)),(([1,1]:List Int)),(([0,1]:List Int)),(([0,1,1]:List Int)),(([0,1,2]:List Int))]:List (List Int))) (⟨#[102,40,99,40,98,41,44,120,41]⟩:ByteArray)).bind fun bt157=>(if t128=0 then ((nl_texts.f k t127 (([(⟨#[101,40,98,44,97,41]⟩:ByteArray)]:List ByteArray))).bind fun t166=>(if t166=true then (if t135=0 then (if t134.toList=([97,98,99,100,101,102]:List UInt8) then (if bt157.2.2.2.2=0 then (nl_awake.j0 k y124 (!(bt157.1 == 2) || (!(bt157.2.1 == 2) || (!(bt157.2.2.1 == 0) || (!(bt157.2.2.2.1 == 0)))))) else (nl_awake.j0 k y124 true)) else (nl_awake.j0 k y124 true)) else (nl_awake.j0 k y124 true)) else (nl_awake.j0 k y124 true))) else (nl_awake.j0 k y124 true)))=some r:=by first|(rw [hy136];with_reducible exact H)|(have H2_:=(Option.bind_some _ _).symm.trans H;rw [hy136];with_reducible exact H2_)|(have H2_:=(Option.bind_some _ _).symm.trans H;with_reducible exact H2_)|with_reducible exact H|(rw [hy136];exact H)|exact H
 have Ny136:=Aside0.mk hy136
 clear hy136
 obtain ⟨y139,hy139⟩:∃ y_:List Int,y_=(([1]:List Int)):=⟨_,rfl⟩
 replace H:((rules_Value.f (([y136,y139,(([1,1]:List Int)),(([0,1]:List Int)),(([0,1,1]:List Int)),(([0,1,2]:List Int))]:List (List Int))) (⟨#[102,40,99,40,98,41,44,120,41]⟩:ByteArray)).bind fun bt157=>(if t128=0 then ((nl_texts.f k t127 (([(⟨#[101,40,98,44,97,41]⟩:ByteArray)]:List ByteArray))).bind fun t166=>(if t166=true then (if t135=0 then (if t134.toList=([97,98,99,100,101,102]:List UInt8) then (if bt157.2.2.2.2=0 then (nl_awake.j0 k y124 (!(bt157.1 == 2) || (!(bt157.2.1 == 2) || (!(bt157.2.2.1 == 0) || (!(bt157.2.2.2.1 == 0)))))) else (nl_awake.j0 k y124 true)) else (nl_awake.j0 k y124 true)) else (nl_awake.j0 k y124 true)) else (nl_awake.j0 k y124 true))) else (nl_awake.j0 k y124 true)))=some r:=by first|(rw [hy139];with_reducible exact H)|(have H2_:=(Option.bind_some _ _).symm.trans H;rw [hy139];with_reducible exact H2_)|(have H2_:=(Option.bind_some _ _).symm.trans H;with_reducible exact H2_)|with_reducible exact H|(rw [hy139];exact H)|exact H
 have Ny139:=Aside0.mk hy139
 clear hy139
 obtain ⟨y142,hy142⟩:∃ y_:List Int,y_=(([1,1]:List Int)):=⟨_,rfl⟩
 replace H:((rules_Value.f (([y136,y139,y142,(([0,1]:List Int)),(([0,1,1]:List Int)),(([0,1,2]:List Int))]:List (List Int))) (⟨#[102,40,99,40,98,41,44,120,41]⟩:ByteArray)).bind fun bt157=>(if t128=0 then ((nl_texts.f k t127 (([(⟨#[101,40,98,44,97,41]⟩:ByteArray)]:List ByteArray))).bind fun t166=>(if t166=true then (if t135=0 then (if t134.toList=([97,98,99,100,101,102]:List UInt8) then (if bt157.2.2.2.2=0 then (nl_awake.j0 k y124 (!(bt157.1 == 2) || (!(bt157.2.1 == 2) || (!(bt157.2.2.1 == 0) || (!(bt157.2.2.2.1 == 0)))))) else (nl_awake.j0 k y124 true)) else (nl_awake.j0 k y124 true)) else (nl_awake.j0 k y124 true)) else (nl_awake.j0 k y124 true))) else (nl_awake.j0 k y124 true)))=some r:=by first|(rw [hy142];with_reducible exact H)|(have H2_:=(Option.bind_some _ _).symm.trans H;rw [hy142];with_reducible exact H2_)|(have H2_:=(Option.bind_some _ _).symm.trans H;with_reducible exact H2_)|with_reducible exact H|(rw [hy142];exact H)|exact H
 have Ny142:=Aside0.mk hy142
 clear hy142
 obtain ⟨y145,hy145⟩:∃ y_:List Int,y_=(([0,1]:List Int)):=⟨_,rfl⟩
 replace H:((rules_Value.f (([y136,y139,y142,y145,(([0,1,1]:List Int)),(([0,1,2]:List Int))]:List (List Int))) (⟨#[102,40,99,40,98,41,44,120,41]⟩:ByteArray)).bind fun bt157=>(if t128=0 then ((nl_texts.f k t127 (([(⟨#[101,40,98,44,97,41]⟩:ByteArray)]:List ByteArray))).bind fun t166=>(if t166=true then (if t135=0 then (if t134.toList=([97,98,99,100,101,102]:List UInt8) then (if bt157.2.2.2.2=0 then (nl_awake.j0 k y124 (!(bt157.1 == 2) || (!(bt157.2.1 == 2) || (!(bt157.2.2.1 == 0) || (!(bt157.2.2.2.1 == 0)))))) else (nl_awake.j0 k y124 true)) else (nl_awake.j0 k y124 true)) else (nl_awake.j0 k y124 true)) else (nl_awake.j0 k y124 true))) else (nl_awake.j0 k y124 true)))=some r:=by first|(rw [hy145];with_reducible exact H)|(have H2_:=(Option.bind_some _ _).symm.trans H;rw [hy145];with_reducible exact H2_)|(have H2_:=(Option.bind_some _ _).symm.trans H;with_reducible exact H2_)|with_reducible exact H|(rw [hy145];exact H)|exact H
 have Ny145:=Aside0.mk hy145
 clear hy145
 obtain ⟨y148,hy148⟩:∃ y_:List Int,y_=(([0,1,1]:List Int)):=⟨_,rfl⟩
 replace H:((rules_Value.f (([y136,y139,y142,y145,y148,(([0,1,2]:List Int))]:List (List Int))) (⟨#[102,40,99,40,98,41,44,120,41]⟩:ByteArray)).bind fun bt157=>(if t128=0 then ((nl_texts.f k t127 (([(⟨#[101,40,98,44,97,41]⟩:ByteArray)]:List ByteArray))).bind fun t166=>(if t166=true then (if t135=0 then (if t134.toList=([97,98,99,100,101,102]:List UInt8) then (if bt157.2.2.2.2=0 then (nl_awake.j0 k y124 (!(bt157.1 == 2) || (!(bt157.2.1 == 2) || (!(bt157.2.2.1 == 0) || (!(bt157.2.2.2.1 == 0)))))) else (nl_awake.j0 k y124 true)) else (nl_awake.j0 k y124 true)) else (nl_awake.j0 k y124 true)) else (nl_awake.j0 k y124 true))) else (nl_awake.j0 k y124 true)))=some r:=by first|(rw [hy148];with_reducible exact H)|(have H2_:=(Option.bind_some _ _).symm.trans H;rw [hy148];with_reducible exact H2_)|(have H2_:=(Option.bind_some _ _).symm.trans H;with_reducible exact H2_)|with_reducible exact H|(rw [hy148];exact H)|exact H
 have Ny148:=Aside0.mk hy148
 clear hy148
 obtain ⟨y151,hy151⟩:∃ y_:List Int,y_=(([0,1,2]:List Int)):=⟨_,rfl⟩
 replace H:((rules_Value.f (([y136,y139,y142,y145,y148,y151]:List (List Int))) (⟨#[102,40,99,40,98,41,44,120,41]⟩:ByteArray)).bind fun bt157=>(if t128=0 then ((nl_texts.f k t127 (([(⟨#[101,40,98,44,97,41]⟩:ByteArray)]:List ByteArray))).bind fun t166=>(if t166=true then (if t135=0 then (if t134.toList=([97,98,99,100,101,102]:List UInt8) then (if bt157.2.2.2.2=0 then (nl_awake.j0 k y124 (!(bt157.1 == 2) || (!(bt157.2.1 == 2) || (!(bt157.2.2.1 == 0) || (!(bt157.2.2.2.1 == 0)))))) else (nl_awake.j0 k y124 true)) else (nl_awake.j0 k y124 true)) else (nl_awake.j0 k y124 true)) else (nl_awake.j0 k y124 true))) else (nl_awake.j0 k y124 true)))=some r:=by first|(rw [hy151];with_reducible exact H)|(have H2_:=(Option.bind_some _ _).symm.trans H;rw [hy151];with_reducible exact H2_)|(have H2_:=(Option.bind_some _ _).symm.trans H;with_reducible exact H2_)|with_reducible exact H|(rw [hy151];exact H)|exact H
 have Ny151:=Aside0.mk hy151
 clear hy151
 obtain ⟨y154,hy154⟩:∃ y_:List (List Int),y_=(([y136,y139,y142,y145,y148,y151]:List (List Int))):=⟨_,rfl⟩
 replace H:((rules_Value.f y154 (⟨#[102,40,99,40,98,41,44,120,41]⟩:ByteArray)).bind fun bt157=>(if t128=0 then ((nl_texts.f k t127 (([(⟨#[101,40,98,44,97,41]⟩:ByteArray)]:List ByteArray))).bind fun t166=>(if t166=true then (if t135=0 then (if t134.toList=([97,98,99,100,101,102]:List UInt8) then (if bt157.2.2.2.2=0 then (nl_awake.j0 k y124 (!(bt157.1 == 2) || (!(bt157.2.1 == 2) || (!(bt157.2.2.1 == 0) || (!(bt157.2.2.2.1 == 0)))))) else (nl_awake.j0 k y124 true)) else (nl_awake.j0 k y124 true)) else (nl_awake.j0 k y124 true)) else (nl_awake.j0 k y124 true))) else (nl_awake.j0 k y124 true)))=some r:=by first|(rw [hy154];with_reducible exact H)|(have H2_:=(Option.bind_some _ _).symm.trans H;rw [hy154];with_reducible exact H2_)|(have H2_:=(Option.bind_some _ _).symm.trans H;with_reducible exact H2_)|with_reducible exact H|(rw [hy154];exact H)|exact H
 have Ny154:=Aside0.mk hy154
 clear hy154
 replace H:=Option.bind_eq_some_iff.mp H
 obtain ⟨⟨t157,t158,t159,t160,t161⟩,A30,H⟩:=H
 replace H:(if t128=0 then ((nl_texts.f k t127 (([(⟨#[101,40,98,44,97,41]⟩:ByteArray)]:List ByteArray))).bind fun t166=>(if t166=true then (if t135=0 then (if t134.toList=([97,98,99,100,101,102]:List UInt8) then (if t161=0 then (nl_awake.j0 k y124 (!(t157 == 2) || (!(t158 == 2) || (!(t159 == 0) || (!(t160 == 0)))))) else (nl_awake.j0 k y124 true)) else (nl_awake.j0 k y124 true)) else (nl_awake.j0 k y124 true)) else (nl_awake.j0 k y124 true))) else (nl_awake.j0 k y124 true))=some r:=H
 have A3:=Aside0.mk A30
 clear A30
 have HC4:=Aside0.mk H
 clear H
 go_enter Tryz.func24,Tryz.ntmps24
 go_upto_region 5 with (first|((with_reducible refine gate_dst (N:=9) rfl ?_);(try (refine gate_guard (by rfl) ?_;dsimp only));refine Kd.R_lit k94 _ 94 ?hg (N:=9) ?hd (xs:=([(⟨(⟨#[101,40,120,44,121,41]⟩:ByteArray),(⟨#[101,40,121,44,120,41]⟩:ByteArray)⟩:S94)]:List (S94))) (inner:=[.string (⟨#[101,40,120,44,121,41]⟩:ByteArray),.string (⟨#[101,40,121,44,120,41]⟩:ByteArray)]) (ok:=fun _=>True) (okp:=fun _=>True) ?hr ?hp (fun _ hk=>hk) trivial (Below.refl _ _) (Nat.le_refl _) (by simp) ?_;(case hd=>rfl);(case hg=>rfl);(case hr=>first|(go_simp;done)|(go_simp;rfl));(case hp=>exact (Reps.c2 (show Kd.M k94 _ _ _ (⟨(⟨#[101,40,120,44,121,41]⟩:ByteArray),(⟨#[101,40,121,44,120,41]⟩:ByteArray)⟩:S94) [.string (⟨#[101,40,120,44,121,41]⟩:ByteArray),.string (⟨#[101,40,121,44,120,41]⟩:ByteArray)] from (k94_mkM _ _ _ (⟨(⟨#[101,40,120,44,121,41]⟩:ByteArray),(⟨#[101,40,121,44,120,41]⟩:ByteArray)⟩:S94) )) (Reps.none _ _)));intro v125 w5 ho6 hb hg_ hnew_;clear hg_ hnew_;(first|rw [←Ny124.out] at ho6|(simp only [Int.reduceToNat] at ho6;rw [←Ny124.out] at ho6));have n0_:=Aside0.mk (Kd.R_lower ho6 (below_size (tB_ HB)));have n1_:=Aside0.mk (below_step (tB_ HB) hb);clear HB;have HO126:=n0_;have HB:=n1_;clear n0_ n1_;clear hb ho6;obtain ⟨Ao7,co7,eo7⟩:=Kd.R_slice HO126.out;subst eo7)|((with_reducible refine gate_callee (f:=49) rfl ?_);refine goesL_ (some 12) rfl rfl Tryz.func49 (by kernel_rfl) rfl #[.slice Ao7 y124.length co7,.string (⟨#[101,40,97,44,98,41]⟩:ByteArray)] rfl tM_ ?_;(with_reducible refine (rules_Next.calls _ _ y124 (⟨#[101,40,97,44,98,41]⟩:ByteArray) t127 t128 _ ?side1 ?side2 A1.out).mono ?_);(case side1=>repeat (first|exact (Kd.R_reads' HO126.out).2.2|(with_reducible refine Kd.C_alloc ?_ _)|(with_reducible refine Kd.C_drewN ?_ _)|(with_reducible refine Kd.C_drew ?_)));(case side2=>exact (Kd.R_reads' HO126.out).2.1);rintro e w8 ⟨v129,rfl,ho0,hb⟩;refine ⟨_,rfl,?_⟩;have n0_:=Aside0.mk (Kd.R_below (tR_ HO126) hb);have n1_:=Aside0.mk (Kd.R_lower ho0 (below_size (tB_ HB)));have n2_:=Aside0.mk (below_step (tB_ HB) hb);clear HO126;clear HB;have HO126:=n0_;have HO130:=n1_;have HB:=n2_;clear n0_ n1_ n2_;(try clear hb);(try clear hb2);(try clear hk);(try clear hi);(try clear ho0))|((with_reducible refine gate_dst (N:=17) rfl ?_);(try (refine gate_guard (by rfl) ?_;dsimp only));refine Kd.R_lit k94 _ 94 ?hg (N:=17) ?hd (xs:=([(⟨(⟨#[99,40,100,40,120,41,41]⟩:ByteArray),(⟨#[100,40,99,40,120,41,41]⟩:ByteArray)⟩:S94)]:List (S94))) (inner:=[.string (⟨#[99,40,100,40,120,41,41]⟩:ByteArray),.string (⟨#[100,40,99,40,120,41,41]⟩:ByteArray)]) (ok:=fun _=>True) (okp:=fun _=>True) ?hr ?hp (fun _ hk=>hk) trivial (Below.refl _ _) (Nat.le_refl _) (by simp) ?_;(case hd=>rfl);(case hg=>rfl);(case hr=>first|(go_simp;done)|(go_simp;rfl));(case hp=>exact (Reps.c2 (show Kd.M k94 _ _ _ (⟨(⟨#[99,40,100,40,120,41,41]⟩:ByteArray),(⟨#[100,40,99,40,120,41,41]⟩:ByteArray)⟩:S94) [.string (⟨#[99,40,100,40,120,41,41]⟩:ByteArray),.string (⟨#[100,40,99,40,120,41,41]⟩:ByteArray)] from (k94_mkM _ _ _ (⟨(⟨#[99,40,100,40,120,41,41]⟩:ByteArray),(⟨#[100,40,99,40,120,41,41]⟩:ByteArray)⟩:S94) )) (Reps.none _ _)));intro v132 w9 ho10 hb hg_ hnew_;clear hg_ hnew_;(first|rw [←Ny131.out] at ho10|(simp only [Int.reduceToNat] at ho10;rw [←Ny131.out] at ho10));have n0_:=Aside0.mk (Kd.R_elder' (tR_ HO126) (Kd.R_base ho10) hb);have n1_:=Aside0.mk (Kd.R_below (tR_ HO130) hb);have n2_:=Aside0.mk (Kd.R_lower (Kd.R_new' ho10 (Kd.R_lt (tR_ HO126))) (below_size (tB_ HB)));have n3_:=Aside0.mk (below_step (tB_ HB) hb);clear HO126;clear HO130;clear HB;have HO126:=n0_;have HO130:=n1_;have HO133:=n2_;have HB:=n3_;clear n0_ n1_ n2_ n3_;clear hb ho10;obtain ⟨Ao11,co11,eo11⟩:=Kd.R_slice HO133.out;subst eo11)|((with_reducible refine gate_callee (f:=36) rfl ?_);refine goesL_ (some 18) rfl rfl Tryz.func36 (by kernel_rfl) rfl #[.slice Ao11 y131.length co11] rfl tM_ ?_;(with_reducible refine (rules_Orient.calls _ _ y131 t134 t135 _ ?side1 ?side2 A2.out).mono ?_);(case side1=>repeat (first|exact (Kd.R_reads' HO133.out).2.2|(with_reducible refine Kd.C_alloc ?_ _)|(with_reducible refine Kd.C_drewN ?_ _)|(with_reducible refine Kd.C_drew ?_)));(case side2=>exact (Kd.R_reads' HO133.out).2.1);rintro e w12 ⟨rfl,hb⟩;refine ⟨_,rfl,?_⟩;have n0_:=Aside0.mk (Kd.R_below (tR_ HO126) hb);have n1_:=Aside0.mk (Kd.R_below (tR_ HO130) hb);have n2_:=Aside0.mk (Kd.R_below (tR_ HO133) hb);have n3_:=Aside0.mk (below_step (tB_ HB) hb);clear HO126;clear HO130;clear HO133;clear HB;have HO126:=n0_;have HO130:=n1_;have HO133:=n2_;have HB:=n3_;clear n0_ n1_ n2_ n3_;(try clear hb);(try clear hb2);(try clear hk);(try clear hi))|((with_reducible refine gate_dst (N:=22) rfl ?_);(try (refine gate_guard (by rfl) ?_;dsimp only));refine Kd.R_lit (Kd.int .i64) _ 3 ?hg (N:=22) ?hd (xs:=([0]:List Int)) (inner:=[.int .i64 0]) (ok:=fun _=>True) (okp:=fun _=>True) ?hr ?hp (fun _ hk=>hk) trivial (Below.refl _ _) (Nat.le_refl _) (by simp) ?_;(case hd=>rfl);(case hg=>rfl);(case hr=>first|(go_simp;done)|(go_simp;rfl));(case hp=>exact (Reps.one (show Kd.M (Kd.int .i64) _ _ _ 0 [.int .i64 0] from rfl) (Reps.none _ _)));intro v137 w13 ho14 hb hg_ hnew_;clear hg_ hnew_;(first|rw [←Ny136.out] at ho14|(simp only [Int.reduceToNat] at ho14;rw [←Ny136.out] at ho14));have n0_:=Aside0.mk (Kd.R_below (tR_ HO126) hb);have n1_:=Aside0.mk (Kd.R_below (tR_ HO130) hb);have n2_:=Aside0.mk (Kd.R_below (tR_ HO133) hb);have n3_:=Aside0.mk (Kd.R_lower ho14 (below_size (tB_ HB)));have n4_:=Aside0.mk (below_step (tB_ HB) hb);clear HO126;clear HO130;clear HO133;clear HB;have HO126:=n0_;have HO130:=n1_;have HO133:=n2_;have HO138:=n3_;have HB:=n4_;clear n0_ n1_ n2_ n3_ n4_;clear hb ho14)|((with_reducible refine gate_dst (N:=23) rfl ?_);(try (refine gate_guard (by rfl) ?_;dsimp only));refine Kd.R_lit (Kd.int .i64) _ 3 ?hg (N:=23) ?hd (xs:=([1]:List Int)) (inner:=[.int .i64 1]) (ok:=fun _=>True) (okp:=fun _=>True) ?hr ?hp (fun _ hk=>hk) trivial (Below.refl _ _) (Nat.le_refl _) (by simp) ?_;(case hd=>rfl);(case hg=>rfl);(case hr=>first|(go_simp;done)|(go_simp;rfl));(case hp=>exact (Reps.one (show Kd.M (Kd.int .i64) _ _ _ 1 [.int .i64 1] from rfl) (Reps.none _ _)));intro v140 w15 ho16 hb hg_ hnew_;clear hg_ hnew_;(first|rw [←Ny139.out] at ho16|(simp only [Int.reduceToNat] at ho16;rw [←Ny139.out] at ho16));have n0_:=Aside0.mk (Kd.R_below (tR_ HO126) hb);have n1_:=Aside0.mk (Kd.R_below (tR_ HO130) hb);have n2_:=Aside0.mk (Kd.R_below (tR_ HO133) hb);have n3_:=Aside0.mk (Kd.R_elder' (tR_ HO138) (Kd.R_base ho16) hb);have n4_:=Aside0.mk (Kd.R_lower (Kd.R_new' ho16 (Kd.R_lt (tR_ HO138))) (below_size (tB_ HB)));have n5_:=Aside0.mk (below_step (tB_ HB) hb);clear HO126;clear HO130;clear HO133;clear HO138;clear HB;have HO126:=n0_;have HO130:=n1_;have HO133:=n2_;have HO138:=n3_;have HO141:=n4_;have HB:=n5_;clear n0_ n1_ n2_ n3_ n4_ n5_;clear hb ho16)|((with_reducible refine gate_dst (N:=24) rfl ?_);(try (refine gate_guard (by rfl) ?_;dsimp only));refine Kd.R_lit (Kd.int .i64) _ 3 ?hg (N:=24) ?hd (xs:=([1,1]:List Int)) (inner:=[.int .i64 1,.int .i64 1]) (ok:=fun _=>True) (okp:=fun _=>True) ?hr ?hp (fun _ hk=>hk) trivial (Below.refl _ _) (Nat.le_refl _) (by simp) ?_;(case hd=>rfl);(case hg=>rfl);(case hr=>first|(go_simp;done)|(go_simp;rfl));(case hp=>exact (Reps.one (show Kd.M (Kd.int .i64) _ _ _ 1 [.int .i64 1] from rfl) (Reps.one (show Kd.M (Kd.int .i64) _ _ _ 1 [.int .i64 1] from rfl) (Reps.none _ _))));intro v143 w17 ho18 hb hg_ hnew_;clear hg_ hnew_;(first|rw [←Ny142.out] at ho18|(simp only [Int.reduceToNat] at ho18;rw [←Ny142.out] at ho18));have n0_:=Aside0.mk (Kd.R_below (tR_ HO126) hb);have n1_:=Aside0.mk (Kd.R_below (tR_ HO130) hb);have n2_:=Aside0.mk (Kd.R_below (tR_ HO133) hb);have n3_:=Aside0.mk (Kd.R_elder' (tR_ HO138) (Kd.R_base ho18) hb);have n4_:=Aside0.mk (Kd.R_elder' (tR_ HO141) (Kd.R_base ho18) hb);have n5_:=Aside0.mk (Kd.R_lower (Kd.R_new' (Kd.R_new' ho18 (Kd.R_lt (tR_ HO138))) (Kd.R_lt (tR_ HO141))) (below_size (tB_ HB)));have n6_:=Aside0.mk (below_step (tB_ HB) hb);clear HO126;clear HO130;clear HO133;clear HO138;clear HO141;clear HB;have HO126:=n0_;have HO130:=n1_;have HO133:=n2_;have HO138:=n3_;have HO141:=n4_;have HO144:=n5_;have HB:=n6_;clear n0_ n1_ n2_ n3_ n4_ n5_ n6_;clear hb ho18)|((with_reducible refine gate_dst (N:=25) rfl ?_);(try (refine gate_guard (by rfl) ?_;dsimp only));refine Kd.R_lit (Kd.int .i64) _ 3 ?hg (N:=25) ?hd (xs:=([0,1]:List Int)) (inner:=[.int .i64 0,.int .i64 1]) (ok:=fun _=>True) (okp:=fun _=>True) ?hr ?hp (fun _ hk=>hk) trivial (Below.refl _ _) (Nat.le_refl _) (by simp) ?_;(case hd=>rfl);(case hg=>rfl);(case hr=>first|(go_simp;done)|(go_simp;rfl));(case hp=>exact (Reps.one (show Kd.M (Kd.int .i64) _ _ _ 0 [.int .i64 0] from rfl) (Reps.one (show Kd.M (Kd.int .i64) _ _ _ 1 [.int .i64 1] from rfl) (Reps.none _ _))));intro v146 w19 ho20 hb hg_ hnew_;clear hg_ hnew_;(first|rw [←Ny145.out] at ho20|(simp only [Int.reduceToNat] at ho20;rw [←Ny145.out] at ho20));have n0_:=Aside0.mk (Kd.R_below (tR_ HO126) hb);have n1_:=Aside0.mk (Kd.R_below (tR_ HO130) hb);have n2_:=Aside0.mk (Kd.R_below (tR_ HO133) hb);have n3_:=Aside0.mk (Kd.R_elder' (tR_ HO138) (Kd.R_base ho20) hb);have n4_:=Aside0.mk (Kd.R_elder' (tR_ HO141) (Kd.R_base ho20) hb);have n5_:=Aside0.mk (Kd.R_elder' (tR_ HO144) (Kd.R_base ho20) hb);have n6_:=Aside0.mk (Kd.R_lower (Kd.R_new' (Kd.R_new' (Kd.R_new' ho20 (Kd.R_lt (tR_ HO138))) (Kd.R_lt (tR_ HO141))) (Kd.R_lt (tR_ HO144))) (below_size (tB_ HB)));have n7_:=Aside0.mk (below_step (tB_ HB) hb);clear HO126;clear HO130;clear HO133;clear HO138;clear HO141;clear HO144;clear HB;have HO126:=n0_;have HO130:=n1_;have HO133:=n2_;have HO138:=n3_;have HO141:=n4_;have HO144:=n5_;have HO147:=n6_;have HB:=n7_;clear n0_ n1_ n2_ n3_ n4_ n5_ n6_ n7_;clear hb ho20)|((with_reducible refine gate_dst (N:=26) rfl ?_);(try (refine gate_guard (by rfl) ?_;dsimp only));refine Kd.R_lit (Kd.int .i64) _ 3 ?hg (N:=26) ?hd (xs:=([0,1,1]:List Int)) (inner:=[.int .i64 0,.int .i64 1,.int .i64 1]) (ok:=fun _=>True) (okp:=fun _=>True) ?hr ?hp (fun _ hk=>hk) trivial (Below.refl _ _) (Nat.le_refl _) (by simp) ?_;(case hd=>rfl);(case hg=>rfl);(case hr=>first|(go_simp;done)|(go_simp;rfl));(case hp=>exact (Reps.one (show Kd.M (Kd.int .i64) _ _ _ 0 [.int .i64 0] from rfl) (Reps.one (show Kd.M (Kd.int .i64) _ _ _ 1 [.int .i64 1] from rfl) (Reps.one (show Kd.M (Kd.int .i64) _ _ _ 1 [.int .i64 1] from rfl) (Reps.none _ _)))));intro v149 w21 ho22 hb hg_ hnew_;clear hg_ hnew_;(first|rw [←Ny148.out] at ho22|(simp only [Int.reduceToNat] at ho22;rw [←Ny148.out] at ho22));have n0_:=Aside0.mk (Kd.R_below (tR_ HO126) hb);have n1_:=Aside0.mk (Kd.R_below (tR_ HO130) hb);have n2_:=Aside0.mk (Kd.R_below (tR_ HO133) hb);have n3_:=Aside0.mk (Kd.R_elder' (tR_ HO138) (Kd.R_base ho22) hb);have n4_:=Aside0.mk (Kd.R_elder' (tR_ HO141) (Kd.R_base ho22) hb);have n5_:=Aside0.mk (Kd.R_elder' (tR_ HO144) (Kd.R_base ho22) hb);have n6_:=Aside0.mk (Kd.R_elder' (tR_ HO147) (Kd.R_base ho22) hb);have n7_:=Aside0.mk (Kd.R_lower (Kd.R_new' (Kd.R_new' (Kd.R_new' (Kd.R_new' ho22 (Kd.R_lt (tR_ HO138))) (Kd.R_lt (tR_ HO141))) (Kd.R_lt (tR_ HO144))) (Kd.R_lt (tR_ HO147))) (below_size (tB_ HB)));have n8_:=Aside0.mk (below_step (tB_ HB) hb);clear HO126;clear HO130;clear HO133;clear HO138;clear HO141;clear HO144;clear HO147;clear HB;have HO126:=n0_;have HO130:=n1_;have HO133:=n2_;have HO138:=n3_;have HO141:=n4_;have HO144:=n5_;have HO147:=n6_;have HO150:=n7_;have HB:=n8_;clear n0_ n1_ n2_ n3_ n4_ n5_ n6_ n7_ n8_;clear hb ho22)|((with_reducible refine gate_dst (N:=27) rfl ?_);(try (refine gate_guard (by rfl) ?_;dsimp only));refine Kd.R_lit (Kd.int .i64) _ 3 ?hg (N:=27) ?hd (xs:=([0,1,2]:List Int)) (inner:=[.int .i64 0,.int .i64 1,.int .i64 2]) (ok:=fun _=>True) (okp:=fun _=>True) ?hr ?hp (fun _ hk=>hk) trivial (Below.refl _ _) (Nat.le_refl _) (by simp) ?_;(case hd=>rfl);(case hg=>rfl);(case hr=>first|(go_simp;done)|(go_simp;rfl));(case hp=>exact (Reps.one (show Kd.M (Kd.int .i64) _ _ _ 0 [.int .i64 0] from rfl) (Reps.one (show Kd.M (Kd.int .i64) _ _ _ 1 [.int .i64 1] from rfl) (Reps.one (show Kd.M (Kd.int .i64) _ _ _ 2 [.int .i64 2] from rfl) (Reps.none _ _)))));intro v152 w23 ho24 hb hg_ hnew_;clear hg_ hnew_;(first|rw [←Ny151.out] at ho24|(simp only [Int.reduceToNat] at ho24;rw [←Ny151.out] at ho24));have n0_:=Aside0.mk (Kd.R_below (tR_ HO126) hb);have n1_:=Aside0.mk (Kd.R_below (tR_ HO130) hb);have n2_:=Aside0.mk (Kd.R_below (tR_ HO133) hb);have n3_:=Aside0.mk (Kd.R_elder' (tR_ HO138) (Kd.R_base ho24) hb);have n4_:=Aside0.mk (Kd.R_elder' (tR_ HO141) (Kd.R_base ho24) hb);have n5_:=Aside0.mk (Kd.R_elder' (tR_ HO144) (Kd.R_base ho24) hb);have n6_:=Aside0.mk (Kd.R_elder' (tR_ HO147) (Kd.R_base ho24) hb);have n7_:=Aside0.mk (Kd.R_elder' (tR_ HO150) (Kd.R_base ho24) hb);have n8_:=Aside0.mk (Kd.R_lower (Kd.R_new' (Kd.R_new' (Kd.R_new' (Kd.R_new' (Kd.R_new' ho24 (Kd.R_lt (tR_ HO138))) (Kd.R_lt (tR_ HO141))) (Kd.R_lt (tR_ HO144))) (Kd.R_lt (tR_ HO147))) (Kd.R_lt (tR_ HO150))) (below_size (tB_ HB)));have n9_:=Aside0.mk (below_step (tB_ HB) hb);clear HO126;clear HO130;clear HO133;clear HO138;clear HO141;clear HO144;clear HO147;clear HO150;clear HB;have HO126:=n0_;have HO130:=n1_;have HO133:=n2_;have HO138:=n3_;have HO141:=n4_;have HO144:=n5_;have HO147:=n6_;have HO150:=n7_;have HO153:=n8_;have HB:=n9_;clear n0_ n1_ n2_ n3_ n4_ n5_ n6_ n7_ n8_ n9_;clear hb ho24;obtain ⟨Ao25,co25,eo25⟩:=Kd.R_slice HO138.out;subst eo25;obtain ⟨Ao26,co26,eo26⟩:=Kd.R_slice HO141.out;subst eo26;obtain ⟨Ao27,co27,eo27⟩:=Kd.R_slice HO144.out;subst eo27;obtain ⟨Ao28,co28,eo28⟩:=Kd.R_slice HO147.out;subst eo28;obtain ⟨Ao29,co29,eo29⟩:=Kd.R_slice HO150.out;subst eo29;obtain ⟨Ao30,co30,eo30⟩:=Kd.R_slice HO153.out;subst eo30)|((with_reducible refine gate_dst (N:=28) rfl ?_);(try (refine gate_guard (by rfl) ?_;dsimp only));refine Kd.N_lit (Kd.slice 3 (Kd.int .i64)) _ 43 ?hg (N':=28) ?hd (xs:=([y136,y139,y142,y145,y148,y151]:List (List Int))) (inner:=[.slice Ao25 y136.length co25,.slice Ao26 y139.length co26,.slice Ao27 y142.length co27,.slice Ao28 y145.length co28,.slice Ao29 y148.length co29,.slice Ao30 y151.length co30]) (ok:=(fun k_=>some k_≠(.slice Ao7 y124.length co7:Value).ownBlock∧some k_≠(v129:Value).ownBlock∧some k_≠(.slice Ao11 y131.length co11:Value).ownBlock)) (okp:=(fun k_=>some k_≠(.slice Ao7 y124.length co7:Value).ownBlock∧some k_≠(v129:Value).ownBlock∧some k_≠(.slice Ao11 y131.length co11:Value).ownBlock)) ?hr ?hp (fun _ hk=>hk) ((show ∀ k_,w23.heap.size≤k_→(fun k_=>some k_≠(.slice Ao7 y124.length co7:Value).ownBlock∧some k_≠(v129:Value).ownBlock∧some k_≠(.slice Ao11 y131.length co11:Value).ownBlock) k_ from fun k_ hk=>⟨Kd.fresh' (Kd.R_lt (tR_ HO126)) k_ hk,Kd.fresh' (Kd.R_lt (tR_ HO130)) k_ hk,Kd.fresh' (Kd.R_lt (tR_ HO133)) k_ hk⟩) _ (Nat.le_refl _)) (Below.refl _ _) (Nat.le_refl _) (by simp) ?_;(case hd=>rfl);(case hg=>rfl);(case hr=>first|(go_simp;done)|(go_simp;rfl));(case hp=>exact (Reps.one (show Kd.FK (Kd.slice 3 (Kd.int .i64)) _ _ y136 [.slice Ao25 y136.length co25] from (Kd.FK_slice_mk (Kd.R_reads' (Kd.R_mono (ok':=(fun k_=>some k_≠(.slice Ao7 y124.length co7:Value).ownBlock∧some k_≠(v129:Value).ownBlock∧some k_≠(.slice Ao11 y131.length co11:Value).ownBlock)) (Kd.R_apart' (Kd.R_apart' (Kd.R_apart' (HO138.out) (Kd.R_typed HO126.out) (by decide)) (Kd.R_typed HO130.out) (by decide)) (Kd.R_typed HO133.out) (by decide)) (fun k_ hk=>⟨hk.1.1.2,⟨hk.1.2,hk.2⟩⟩))).2.1 (Kd.R_F (Kd.R_mono (ok':=(fun k_=>some k_≠(.slice Ao7 y124.length co7:Value).ownBlock∧some k_≠(v129:Value).ownBlock∧some k_≠(.slice Ao11 y131.length co11:Value).ownBlock)) (Kd.R_apart' (Kd.R_apart' (Kd.R_apart' (HO138.out) (Kd.R_typed HO126.out) (by decide)) (Kd.R_typed HO130.out) (by decide)) (Kd.R_typed HO133.out) (by decide)) (fun k_ hk=>⟨hk.1.1.2,⟨hk.1.2,hk.2⟩⟩))))) (Reps.one (show Kd.FK (Kd.slice 3 (Kd.int .i64)) _ _ y139 [.slice Ao26 y139.length co26] from (Kd.FK_slice_mk (Kd.R_reads' (Kd.R_mono (ok':=(fun k_=>some k_≠(.slice Ao7 y124.length co7:Value).ownBlock∧some k_≠(v129:Value).ownBlock∧some k_≠(.slice Ao11 y131.length co11:Value).ownBlock)) (Kd.R_apart' (Kd.R_apart' (Kd.R_apart' (HO141.out) (Kd.R_typed HO126.out) (by decide)) (Kd.R_typed HO130.out) (by decide)) (Kd.R_typed HO133.out) (by decide)) (fun k_ hk=>⟨hk.1.1.2,⟨hk.1.2,hk.2⟩⟩))).2.1 (Kd.R_F (Kd.R_mono (ok':=(fun k_=>some k_≠(.slice Ao7 y124.length co7:Value).ownBlock∧some k_≠(v129:Value).ownBlock∧some k_≠(.slice Ao11 y131.length co11:Value).ownBlock)) (Kd.R_apart' (Kd.R_apart' (Kd.R_apart' (HO141.out) (Kd.R_typed HO126.out) (by decide)) (Kd.R_typed HO130.out) (by decide)) (Kd.R_typed HO133.out) (by decide)) (fun k_ hk=>⟨hk.1.1.2,⟨hk.1.2,hk.2⟩⟩))))) (Reps.one (show Kd.FK (Kd.slice 3 (Kd.int .i64)) _ _ y142 [.slice Ao27 y142.length co27] from (Kd.FK_slice_mk (Kd.R_reads' (Kd.R_mono (ok':=(fun k_=>some k_≠(.slice Ao7 y124.length co7:Value).ownBlock∧some k_≠(v129:Value).ownBlock∧some k_≠(.slice Ao11 y131.length co11:Value).ownBlock)) (Kd.R_apart' (Kd.R_apart' (Kd.R_apart' (HO144.out) (Kd.R_typed HO126.out) (by decide)) (Kd.R_typed HO130.out) (by decide)) (Kd.R_typed HO133.out) (by decide)) (fun k_ hk=>⟨hk.1.1.2,⟨hk.1.2,hk.2⟩⟩))).2.1 (Kd.R_F (Kd.R_mono (ok':=(fun k_=>some k_≠(.slice Ao7 y124.length co7:Value).ownBlock∧some k_≠(v129:Value).ownBlock∧some k_≠(.slice Ao11 y131.length co11:Value).ownBlock)) (Kd.R_apart' (Kd.R_apart' (Kd.R_apart' (HO144.out) (Kd.R_typed HO126.out) (by decide)) (Kd.R_typed HO130.out) (by decide)) (Kd.R_typed HO133.out) (by decide)) (fun k_ hk=>⟨hk.1.1.2,⟨hk.1.2,hk.2⟩⟩))))) (Reps.one (show Kd.FK (Kd.slice 3 (Kd.int .i64)) _ _ y145 [.slice Ao28 y145.length co28] from (Kd.FK_slice_mk (Kd.R_reads' (Kd.R_mono (ok':=(fun k_=>some k_≠(.slice Ao7 y124.length co7:Value).ownBlock∧some k_≠(v129:Value).ownBlock∧some k_≠(.slice Ao11 y131.length co11:Value).ownBlock)) (Kd.R_apart' (Kd.R_apart' (Kd.R_apart' (HO147.out) (Kd.R_typed HO126.out) (by decide)) (Kd.R_typed HO130.out) (by decide)) (Kd.R_typed HO133.out) (by decide)) (fun k_ hk=>⟨hk.1.1.2,⟨hk.1.2,hk.2⟩⟩))).2.1 (Kd.R_F (Kd.R_mono (ok':=(fun k_=>some k_≠(.slice Ao7 y124.length co7:Value).ownBlock∧some k_≠(v129:Value).ownBlock∧some k_≠(.slice Ao11 y131.length co11:Value).ownBlock)) (Kd.R_apart' (Kd.R_apart' (Kd.R_apart' (HO147.out) (Kd.R_typed HO126.out) (by decide)) (Kd.R_typed HO130.out) (by decide)) (Kd.R_typed HO133.out) (by decide)) (fun k_ hk=>⟨hk.1.1.2,⟨hk.1.2,hk.2⟩⟩))))) (Reps.one (show Kd.FK (Kd.slice 3 (Kd.int .i64)) _ _ y148 [.slice Ao29 y148.length co29] from (Kd.FK_slice_mk (Kd.R_reads' (Kd.R_mono (ok':=(fun k_=>some k_≠(.slice Ao7 y124.length co7:Value).ownBlock∧some k_≠(v129:Value).ownBlock∧some k_≠(.slice Ao11 y131.length co11:Value).ownBlock)) (Kd.R_apart' (Kd.R_apart' (Kd.R_apart' (HO150.out) (Kd.R_typed HO126.out) (by decide)) (Kd.R_typed HO130.out) (by decide)) (Kd.R_typed HO133.out) (by decide)) (fun k_ hk=>⟨hk.1.1.2,⟨hk.1.2,hk.2⟩⟩))).2.1 (Kd.R_F (Kd.R_mono (ok':=(fun k_=>some k_≠(.slice Ao7 y124.length co7:Value).ownBlock∧some k_≠(v129:Value).ownBlock∧some k_≠(.slice Ao11 y131.length co11:Value).ownBlock)) (Kd.R_apart' (Kd.R_apart' (Kd.R_apart' (HO150.out) (Kd.R_typed HO126.out) (by decide)) (Kd.R_typed HO130.out) (by decide)) (Kd.R_typed HO133.out) (by decide)) (fun k_ hk=>⟨hk.1.1.2,⟨hk.1.2,hk.2⟩⟩))))) (Reps.one (show Kd.FK (Kd.slice 3 (Kd.int .i64)) _ _ y151 [.slice Ao30 y151.length co30] from (Kd.FK_slice_mk (Kd.R_reads' (Kd.R_mono (ok':=(fun k_=>some k_≠(.slice Ao7 y124.length co7:Value).ownBlock∧some k_≠(v129:Value).ownBlock∧some k_≠(.slice Ao11 y131.length co11:Value).ownBlock)) (Kd.R_apart' (Kd.R_apart' (Kd.R_apart' (HO153.out) (Kd.R_typed HO126.out) (by decide)) (Kd.R_typed HO130.out) (by decide)) (Kd.R_typed HO133.out) (by decide)) (fun k_ hk=>⟨hk.1.1.2,⟨hk.1.2,hk.2⟩⟩))).2.1 (Kd.R_F (Kd.R_mono (ok':=(fun k_=>some k_≠(.slice Ao7 y124.length co7:Value).ownBlock∧some k_≠(v129:Value).ownBlock∧some k_≠(.slice Ao11 y131.length co11:Value).ownBlock)) (Kd.R_apart' (Kd.R_apart' (Kd.R_apart' (HO153.out) (Kd.R_typed HO126.out) (by decide)) (Kd.R_typed HO130.out) (by decide)) (Kd.R_typed HO133.out) (by decide)) (fun k_ hk=>⟨hk.1.1.2,⟨hk.1.2,hk.2⟩⟩))))) (Reps.none _ _))))))));intro v155 w31 ho32 hb hg_ hnew_;clear hg_ hnew_;(first|rw [←Ny154.out] at ho32|(simp only [Int.reduceToNat] at ho32;rw [←Ny154.out] at ho32));have n0_:=Aside0.mk (Kd.R_below (tR_ HO126) hb);have n1_:=Aside0.mk (Kd.R_below (tR_ HO130) hb);have n2_:=Aside0.mk (Kd.R_below (tR_ HO133) hb);have n3_:=Aside0.mk (Kd.N_lower ho32 (below_size (tB_ HB)));have n4_:=Aside0.mk (below_step (tB_ HB) hb);clear HO126;clear HO130;clear HO133;clear HB;clear HO138;clear HO141;clear HO144;clear HO147;clear HO150;clear HO153;have HO126:=n0_;have HO130:=n1_;have HO133:=n2_;have HO156:=n3_;have HB:=n4_;clear n0_ n1_ n2_ n3_ n4_;clear hb ho32;obtain ⟨Ao33,co33,eo33⟩:=Kd.N_slice HO156.out;subst eo33)|((with_reducible refine gate_callee (f:=22) rfl ?_);refine goesL_ (some 29) rfl rfl Tryz.func22 (by kernel_rfl) rfl #[.slice Ao33 y154.length co33,.string (⟨#[102,40,99,40,98,41,44,120,41]⟩:ByteArray)] rfl tM_ ?_;(with_reducible refine (rules_Value.calls _ _ y154 (⟨#[102,40,99,40,98,41,44,120,41]⟩:ByteArray) t157 t158 t159 t160 t161 _ ?side1 ?side2 A3.out).mono ?_);(case side1=>repeat (first|exact (Kd.N_reads' HO156.out).2.2|(with_reducible refine Kd.C_alloc ?_ _)|(with_reducible refine Kd.C_drewN ?_ _)|(with_reducible refine Kd.C_drew ?_)));(case side2=>exact (Kd.N_reads' HO156.out).2.1);rintro e w34 ⟨rfl,hb⟩;refine ⟨_,rfl,?_⟩;have n0_:=Aside0.mk (Kd.R_below (tR_ HO126) hb);have n1_:=Aside0.mk (Kd.R_below (tR_ HO130) hb);have n2_:=Aside0.mk (Kd.R_below (tR_ HO133) hb);have n3_:=Aside0.mk (Kd.N_below (by (with_reducible repeat (first|apply Kd.N_alloc|apply Kd.N_drewN|apply Kd.N_drew));exact HO156.out) hb);have n4_:=Aside0.mk (below_step (tB_ HB) hb);clear HO126;clear HO130;clear HO133;clear HO156;clear HB;have HO126:=n0_;have HO130:=n1_;have HO133:=n2_;have HO156:=n3_;have HB:=n4_;clear n0_ n1_ n2_ n3_ n4_;(try clear hb);(try clear hb2);(try clear hk);(try clear hi))|((with_reducible refine gate_dst (N:=6) rfl ?_);(try (refine gate_guard (by rfl) ?_;dsimp only));refine box_event ?hg (N:=6) ?hd (cs:=#[.int .i64 0,.int .i64 0,.int .i64 0,.int .i64 0]) (t:=25) ?hr ?_;(case hd=>rfl);(case hg=>rfl);(case hr=>first|(go_simp;done)|(go_simp;rfl));intro gb162 hg w35 hbox hb;have n0_:=Aside0.mk (Kd.R_below (tR_ HO126) hb);have n1_:=Aside0.mk (Kd.R_below (tR_ HO130) hb);have n2_:=Aside0.mk (Kd.R_below (tR_ HO133) hb);have n3_:=Aside0.mk (Kd.N_below (Kd.N_elderB (by (with_reducible repeat (first|apply Kd.N_alloc|apply Kd.N_drewN|apply Kd.N_drew));exact HO156.out) gb162 (Nat.le_of_eq hg.symm)) hb);have n4_:=Aside0.mk (below_step (tB_ HB) hb);have n5_:=Aside0.mk (hbox);have n6_:=Aside0.mk ((by rw [hg];exact (below_size (tB_ HB)):w.heap.size≤gb162));have n7_:=Aside0.mk ((by rw [hg];exact (below_size (tB_ HB)):w.heap.size≤gb162));clear HO126;clear HO130;clear HO133;clear HO156;clear HB;have HO126:=n0_;have HO130:=n1_;have HO133:=n2_;have HO156:=n3_;have HB:=n4_;have BK162:=n5_;have GW162:=n6_;have GE162:=n7_;clear n0_ n1_ n2_ n3_ n4_ n5_ n6_ n7_;clear hb hbox hg;have hcz36_0:w35.cell? ⟨gb162,0,none⟩=some (.int .i64 0):=(blk_cell BK162.out 0).trans rfl;have hcz36_1:w35.cell? ⟨gb162,1,none⟩=some (.int .i64 0):=(blk_cell BK162.out 1).trans rfl;have hcz36_2:w35.cell? ⟨gb162,2,none⟩=some (.int .i64 0):=(blk_cell BK162.out 2).trans rfl;have hcz36_3:w35.cell? ⟨gb162,3,none⟩=some (.int .i64 0):=(blk_cell BK162.out 3).trans rfl;have hfz36_0:=blk_frozen BK162.out 0;have hfz36_1:=blk_frozen BK162.out 1;have hfz36_2:=blk_frozen BK162.out 2;have hfz36_3:=blk_frozen BK162.out 3))
 (try simp only [Act.put,List.setIfInBounds_toArray,List.set_cons_zero,List.set_cons_succ])
 go_cut [56] (fun v56 wc=>∃ (kq:Nat) (x56_3:Bool),v56=.bool x56_3∧Aside0 (nl_awake.j0 kq y124 x56_3=some r)∧Aside0 (kq≤k)∧Aside0 (Kd.R k94 94 wc w.heap.size (fun _=>True) (.slice Ao7 y124.length co7) y124)∧Aside0 (wc.heap[gb162]?=some (.cells #[.int .i64 t157,.int .i64 t158,.int .i64 t159,.int .i64 t160] 25 (0,0)))∧Aside0 (Below w.heap.size w wc))
 case first =>
  have H:=HC4.out
  clear HC4
  by_cases c37:t128=0
  ·rw [if_pos c37] at H
   have c37b0:(t128 == 0)=true:=beq_iff_eq.mpr c37
   have c37b1:(t128 != 0)=false:=bne_eq_false_iff_eq.mpr c37
   clear c37
   (first|rw [c37b0]|(simp only [i64_w,i32_w];rw [c37b0])|skip)
   obtain ⟨y163,hy163⟩:∃ y_:List ByteArray,y_=(([(⟨#[101,40,98,44,97,41]⟩:ByteArray)]:List ByteArray)):=⟨_,rfl⟩
   replace H:((nl_texts.f k t127 y163).bind fun t166=>(if t166=true then (if t135=0 then (if t134.toList=([97,98,99,100,101,102]:List UInt8) then (if t161=0 then (nl_awake.j0 k y124 (!(t157 == 2) || (!(t158 == 2) || (!(t159 == 0) || (!(t160 == 0)))))) else (nl_awake.j0 k y124 true)) else (nl_awake.j0 k y124 true)) else (nl_awake.j0 k y124 true)) else (nl_awake.j0 k y124 true)))=some r:=by first|(rw [hy163];with_reducible exact H)|(have H2_:=(Option.bind_some _ _).symm.trans H;rw [hy163];with_reducible exact H2_)|(have H2_:=(Option.bind_some _ _).symm.trans H;with_reducible exact H2_)|with_reducible exact H|(rw [hy163];exact H)|exact H
   have Ny163:=Aside0.mk hy163
   clear hy163
   replace H:=Option.bind_eq_some_iff.mp H
   obtain ⟨t166,A380,H⟩:=H
   replace H:(if t166=true then (if t135=0 then (if t134.toList=([97,98,99,100,101,102]:List UInt8) then (if t161=0 then (nl_awake.j0 k y124 (!(t157 == 2) || (!(t158 == 2) || (!(t159 == 0) || (!(t160 == 0)))))) else (nl_awake.j0 k y124 true)) else (nl_awake.j0 k y124 true)) else (nl_awake.j0 k y124 true)) else (nl_awake.j0 k y124 true))=some r:=H
   have A38:=Aside0.mk A380
   clear A380
   by_cases c39:t166=true
   ·subst c39
    have H1:(if t135=0 then (if t134.toList=([97,98,99,100,101,102]:List UInt8) then (if t161=0 then (nl_awake.j0 k y124 (!(t157 == 2) || (!(t158 == 2) || (!(t159 == 0) || (!(t160 == 0)))))) else (nl_awake.j0 k y124 true)) else (nl_awake.j0 k y124 true)) else (nl_awake.j0 k y124 true))=some r:=by rw [if_pos rfl] at H;exact H
    clear H
    have H:=H1
    clear H1
    by_cases c40:t135=0
    ·rw [if_pos c40] at H
     have c40b0:(t135 == 0)=true:=beq_iff_eq.mpr c40
     have c40b1:(t135 != 0)=false:=bne_eq_false_iff_eq.mpr c40
     clear c40
     by_cases c41:t134.toList=([97,98,99,100,101,102]:List UInt8)
     ·rw [if_pos c41] at H
      have c41b0:(t134.toList == ([97,98,99,100,101,102]:List UInt8))=true:=beq_iff_eq.mpr c41
      have c41b1:(t134.toList != ([97,98,99,100,101,102]:List UInt8))=false:=bne_eq_false_iff_eq.mpr c41
      clear c41
      by_cases c42:t161=0
      ·rw [if_pos c42] at H
       have c42b0:(t161 == 0)=true:=beq_iff_eq.mpr c42
       have c42b1:(t161 != 0)=false:=bne_eq_false_iff_eq.mpr c42
       clear c42
       have H':=Aside0.mk H
       clear H
       go_wp2_with (first|((with_reducible refine gate_dst (N:=36) rfl ?_);(try (refine gate_guard (by rfl) ?_;dsimp only));refine Kd.R_lit Kd.string _ 9 ?hg (N:=36) ?hd (xs:=([(⟨#[101,40,98,44,97,41]⟩:ByteArray)]:List ByteArray)) (inner:=[.string (⟨#[101,40,98,44,97,41]⟩:ByteArray)]) (ok:=fun _=>True) (okp:=fun _=>True) ?hr ?hp (fun _ hk=>hk) trivial (Below.refl _ _) (Nat.le_refl _) (by simp) ?_;(case hd=>rfl);(case hg=>rfl);(case hr=>first|(go_simp;done)|(go_simp;rfl));(case hp=>exact (Reps.one (show Kd.M Kd.string _ _ _ (⟨#[101,40,98,44,97,41]⟩:ByteArray) [.string (⟨#[101,40,98,44,97,41]⟩:ByteArray)] from rfl) (Reps.none _ _)));intro v164 w43 ho44 hb hg_ hnew_;clear hg_ hnew_;(first|rw [←Ny163.out] at ho44|(simp only [Int.reduceToNat] at ho44;rw [←Ny163.out] at ho44));have n0_:=Aside0.mk (Kd.R_below (by (with_reducible repeat (first|apply Kd.R_alloc|apply Kd.R_drewN|apply Kd.R_drew));exact (Kd.R_mono (Kd.R_far (p:=⟨gb162,3,none⟩) (Kd.R_far (p:=⟨gb162,2,none⟩) (Kd.R_far (p:=⟨gb162,1,none⟩) (Kd.R_far (p:=⟨gb162,0,none⟩) (Kd.R_types HO126.out BK162.out (by decide)) (fun _ hk=>hk.2) (.int .i64 t157)) (fun _ hk=>hk.2) (.int .i64 t158)) (fun _ hk=>hk.2) (.int .i64 t159)) (fun _ hk=>hk.2) (.int .i64 t160)) (fun _ h_=>h_.1))) hb);have n1_:=Aside0.mk (Kd.R_elder' (by (with_reducible repeat (first|apply Kd.R_alloc|apply Kd.R_drewN|apply Kd.R_drew));exact (Kd.R_mono (Kd.R_far (p:=⟨gb162,3,none⟩) (Kd.R_far (p:=⟨gb162,2,none⟩) (Kd.R_far (p:=⟨gb162,1,none⟩) (Kd.R_far (p:=⟨gb162,0,none⟩) (Kd.R_types HO130.out BK162.out (by decide)) (fun _ hk=>hk.2) (.int .i64 t157)) (fun _ hk=>hk.2) (.int .i64 t158)) (fun _ hk=>hk.2) (.int .i64 t159)) (fun _ hk=>hk.2) (.int .i64 t160)) (fun _ h_=>h_.1))) (Kd.R_base ho44) hb);have n2_:=Aside0.mk (Kd.R_below (by (with_reducible repeat (first|apply Kd.R_alloc|apply Kd.R_drewN|apply Kd.R_drew));exact (Kd.R_mono (Kd.R_far (p:=⟨gb162,3,none⟩) (Kd.R_far (p:=⟨gb162,2,none⟩) (Kd.R_far (p:=⟨gb162,1,none⟩) (Kd.R_far (p:=⟨gb162,0,none⟩) (Kd.R_types HO133.out BK162.out (by decide)) (fun _ hk=>hk.2) (.int .i64 t157)) (fun _ hk=>hk.2) (.int .i64 t158)) (fun _ hk=>hk.2) (.int .i64 t159)) (fun _ hk=>hk.2) (.int .i64 t160)) (fun _ h_=>h_.1))) hb);have n3_:=Aside0.mk (Kd.N_elder' (by (with_reducible repeat (first|apply Kd.N_alloc|apply Kd.N_drewN|apply Kd.N_drew));exact (Kd.N_mono (Kd.N_far (p:=⟨gb162,3,none⟩) (Kd.N_far (p:=⟨gb162,2,none⟩) (Kd.N_far (p:=⟨gb162,1,none⟩) (Kd.N_far (p:=⟨gb162,0,none⟩) (Kd.N_mono HO156.out (fun k_ hk=>(⟨hk,hk.2⟩:_∧k_≠gb162))) (fun _ hk=>hk.2) (.int .i64 t157)) (fun _ hk=>hk.2) (.int .i64 t158)) (fun _ hk=>hk.2) (.int .i64 t159)) (fun _ hk=>hk.2) (.int .i64 t160)) (fun _ h_=>h_.1))) (Kd.R_base ho44) hb);have n4_:=Aside0.mk (Kd.R_lower (Kd.R_new' ho44 (Kd.R_lt (by (with_reducible repeat (first|apply Kd.R_alloc|apply Kd.R_drewN|apply Kd.R_drew));exact (Kd.R_mono (Kd.R_far (p:=⟨gb162,3,none⟩) (Kd.R_far (p:=⟨gb162,2,none⟩) (Kd.R_far (p:=⟨gb162,1,none⟩) (Kd.R_far (p:=⟨gb162,0,none⟩) (Kd.R_types HO130.out BK162.out (by decide)) (fun _ hk=>hk.2) (.int .i64 t157)) (fun _ hk=>hk.2) (.int .i64 t158)) (fun _ hk=>hk.2) (.int .i64 t159)) (fun _ hk=>hk.2) (.int .i64 t160)) (fun _ h_=>h_.1))))) (below_size (by repeat (first|(with_reducible first|exact HB.out|apply below_alloc|apply pw_below_drewN|apply below_drew1|refine below_set ?_ GE162.out)|exact HB.out))));have n5_:=Aside0.mk (blk_below (g:=gb162) (o:=.cells #[.int .i64 t157,.int .i64 t158,.int .i64 t159,.int .i64 t160] 25 (0,0)) (by (with_reducible repeat (first|refine blk_drewN ?_ _|refine blk_drew ?_|refine blk_alloc ?_ _));refine blk_put (cs:=#[.int .i64 t157,.int .i64 t158,.int .i64 t159,.int .i64 0]) ?_ 3 _ rfl;(with_reducible repeat (first|refine blk_drewN ?_ _|refine blk_drew ?_|refine blk_alloc ?_ _));refine blk_put (cs:=#[.int .i64 t157,.int .i64 t158,.int .i64 0,.int .i64 0]) ?_ 2 _ rfl;(with_reducible repeat (first|refine blk_drewN ?_ _|refine blk_drew ?_|refine blk_alloc ?_ _));refine blk_put (cs:=#[.int .i64 t157,.int .i64 0,.int .i64 0,.int .i64 0]) ?_ 1 _ rfl;(with_reducible repeat (first|refine blk_drewN ?_ _|refine blk_drew ?_|refine blk_alloc ?_ _));refine blk_put (cs:=#[.int .i64 0,.int .i64 0,.int .i64 0,.int .i64 0]) ?_ 0 _ rfl;(with_reducible repeat (first|refine blk_drewN ?_ _|refine blk_drew ?_|refine blk_alloc ?_ _));exact BK162.out) hb);have n6_:=Aside0.mk (below_step (by repeat (first|(with_reducible first|exact HB.out|apply below_alloc|apply pw_below_drewN|apply below_drew1|refine below_set ?_ GE162.out)|exact HB.out)) hb);clear HO126;clear HO130;clear HO133;clear HO156;clear BK162;clear HB;have HO126:=n0_;have HO130:=n1_;have HO133:=n2_;have HO156:=n3_;have HO165:=n4_;have BK162:=n5_;have HB:=n6_;clear n0_ n1_ n2_ n3_ n4_ n5_ n6_;clear hb ho44;obtain ⟨Ao45,co45,eo45⟩:=Kd.R_slice HO130.out;subst eo45;obtain ⟨Ao46,co46,eo46⟩:=Kd.R_slice HO165.out;subst eo46)|(go_at_call 53;(with_reducible refine (nl_texts.calls k _ _ t127 _ _ y163 true _ ?side1 ?side2 ?side3 ?side4 A38.out).mono ?_);(case side1=>repeat (first|exact (Kd.R_reads' HO130.out).2.2|(with_reducible refine Kd.C_alloc ?_ _)|(with_reducible refine Kd.C_drewN ?_ _)|(with_reducible refine Kd.C_drew ?_)));(case side2=>exact (Kd.R_reads' HO130.out).2.1);(case side3=>repeat (first|exact (Kd.R_reads' HO165.out).2.2|(with_reducible refine Kd.C_alloc ?_ _)|(with_reducible refine Kd.C_drewN ?_ _)|(with_reducible refine Kd.C_drew ?_)));(case side4=>exact (Kd.R_reads' HO165.out).2.1);rintro e w' ⟨rfl,⟨nd,rfl⟩⟩;have hcz47_0:w43.cell? ⟨gb162,0,none⟩=some (.int .i64 t157):=(blk_cell BK162.out 0).trans rfl;have hcz47_1:w43.cell? ⟨gb162,1,none⟩=some (.int .i64 t158):=(blk_cell BK162.out 1).trans rfl;have hcz47_2:w43.cell? ⟨gb162,2,none⟩=some (.int .i64 t159):=(blk_cell BK162.out 2).trans rfl;have hcz47_3:w43.cell? ⟨gb162,3,none⟩=some (.int .i64 t160):=(blk_cell BK162.out 3).trans rfl;have hfz47_0:=blk_frozen BK162.out 0;have hfz47_1:=blk_frozen BK162.out 1;have hfz47_2:=blk_frozen BK162.out 2;have hfz47_3:=blk_frozen BK162.out 3))
       go_meet
       case rel=>exact ⟨_,((!(t157 == 2) || (!(t158 == 2) || (!(t159 == 0) || (!(t160 == 0)))))),tS_,H',⟨by first|omega|exact Nat.le_refl _⟩,⟨by (with_reducible repeat (first|apply Kd.R_alloc|apply Kd.R_drewN|apply Kd.R_drew));exact Kd.R_mono HO126.out (fun _ hk=>trivial)⟩,⟨by (with_reducible repeat (first|refine blk_drewN ?_ _|refine blk_drew ?_|refine blk_alloc ?_ _));exact BK162.out⟩,⟨by repeat (first|(with_reducible first|exact HB.out|apply below_alloc|apply pw_below_drewN|apply below_drew1|refine below_set ?_ GE162.out)|exact HB.out)⟩⟩
      ·rw [if_neg c42] at H
       exact absurd (H.trans (congrArg some HT0_.out)) (nl_awake.j0_no _ _)
     ·rw [if_neg c41] at H
      exact absurd (H.trans (congrArg some HT0_.out)) (nl_awake.j0_no _ _)
    ·rw [if_neg c40] at H
     exact absurd (H.trans (congrArg some HT0_.out)) (nl_awake.j0_no _ _)
   ·replace c39:=Bool.eq_false_iff.mpr c39
    subst c39
    have H1:(nl_awake.j0 k y124 true)=some r:=by rw [if_neg (show ¬ (false=true) by decide)] at H;exact H
    exact absurd (H1.trans (congrArg some HT0_.out)) (nl_awake.j0_no _ _)
  ·rw [if_neg c37] at H
   exact absurd (H.trans (congrArg some HT0_.out)) (nl_awake.j0_no _ _)
 case rest =>
  clear HC4
  try clear c2
  try clear p2
  try clear c3
  try clear c4
  try clear c22
  try clear c24
  try clear c36
  try clear c37
  try clear c37b0
  try clear c37b1
  try clear c39
  try clear c40
  try clear c40b0
  try clear c40b1
  try clear c41
  try clear c41b0
  try clear c41b1
  try clear c42
  try clear c42b0
  try clear c42b1
  try clear c49
  try clear hcz36_0
  try clear hcz36_1
  try clear hcz36_2
  try clear hcz36_3
  try clear hcz47_0
  try clear hcz47_1
  try clear hcz47_2
  try clear hcz47_3
  try clear hfz36_0
  try clear hfz36_1
  try clear hfz36_2
  try clear hfz36_3
  try clear hfz47_0
  try clear hfz47_1
  try clear hfz47_2
  try clear hfz47_3
  obtain ⟨kq,x56_3,rfl,HA,HJ3,HO_1,BK162,HB⟩:=hcut
  cases kq with
  | zero=>exact absurd HA.out (by simp [nl_awake.j0])
  | succ kj3 =>
   have H:=HA.out
   clear HA
   simp only [nl_awake.j0] at H
   by_cases c64:x56_3=true
   ·subst c64
    have H1:(some false)=some r:=by rw [if_pos rfl] at H;exact H
    exact absurd (H1.trans (congrArg some HT0_.out)) (by simp)
   ·replace c64:=Bool.eq_false_iff.mpr c64
    subst c64
    have H1:((rules_IsLoop.f y124 (([(⟨#[101,40,120,44,121,41]⟩:ByteArray),(⟨#[101,40,121,44,120,41]⟩:ByteArray)]:List ByteArray))).bind fun t170=>(if t170=0 then (some true) else (some false)))=some r:=by rw [if_neg (show ¬ (false=true) by decide)] at H;exact H
    clear H
    have H:=H1
    clear H1
    obtain ⟨y167,hy167⟩:∃ y_:List ByteArray,y_=(([(⟨#[101,40,120,44,121,41]⟩:ByteArray),(⟨#[101,40,121,44,120,41]⟩:ByteArray)]:List ByteArray)):=⟨_,rfl⟩
    replace H:((rules_IsLoop.f y124 y167).bind fun t170=>(if t170=0 then (some true) else (some false)))=some r:=by first|(rw [hy167];with_reducible exact H)|(have H2_:=(Option.bind_some _ _).symm.trans H;rw [hy167];with_reducible exact H2_)|(have H2_:=(Option.bind_some _ _).symm.trans H;with_reducible exact H2_)|with_reducible exact H|(rw [hy167];exact H)|exact H
    have Ny167:=Aside0.mk hy167
    clear hy167
    replace H:=Option.bind_eq_some_iff.mp H
    obtain ⟨t170,A650,H⟩:=H
    replace H:(if t170=0 then (some true) else (some false))=some r:=H
    have A65:=Aside0.mk A650
    clear A650
    by_cases c66:t170=0
    ·rw [if_pos c66] at H
     have c66b0:(t170 == 0)=true:=beq_iff_eq.mpr c66
     have c66b1:(t170 != 0)=false:=bne_eq_false_iff_eq.mpr c66
     clear c66
     obtain rfl:=Option.some.inj H
     go_wp2_with (first|((with_reducible refine gate_dst (N:=58) rfl ?_);(try (refine gate_guard (by rfl) ?_;dsimp only));refine Kd.R_lit Kd.string _ 9 ?hg (N:=58) ?hd (xs:=([(⟨#[101,40,120,44,121,41]⟩:ByteArray),(⟨#[101,40,121,44,120,41]⟩:ByteArray)]:List ByteArray)) (inner:=[.string (⟨#[101,40,120,44,121,41]⟩:ByteArray),.string (⟨#[101,40,121,44,120,41]⟩:ByteArray)]) (ok:=fun _=>True) (okp:=fun _=>True) ?hr ?hp (fun _ hk=>hk) trivial (Below.refl _ _) (Nat.le_refl _) (by simp) ?_;(case hd=>rfl);(case hg=>rfl);(case hr=>first|(go_simp;done)|(go_simp;rfl));(case hp=>exact (Reps.one (show Kd.M Kd.string _ _ _ (⟨#[101,40,120,44,121,41]⟩:ByteArray) [.string (⟨#[101,40,120,44,121,41]⟩:ByteArray)] from rfl) (Reps.one (show Kd.M Kd.string _ _ _ (⟨#[101,40,121,44,120,41]⟩:ByteArray) [.string (⟨#[101,40,121,44,120,41]⟩:ByteArray)] from rfl) (Reps.none _ _))));intro v168 w67 ho68 hb hg_ hnew_;clear hg_ hnew_;(first|rw [←Ny167.out] at ho68|(simp only [Int.reduceToNat] at ho68;rw [←Ny167.out] at ho68));have n0_:=Aside0.mk (Kd.R_below (tR_ HO_1) hb);have n1_:=Aside0.mk (Kd.R_lower ho68 (below_size (by repeat (first|(with_reducible first|exact HB.out|apply below_alloc|apply pw_below_drewN|apply below_drew1|refine below_set ?_ GE162.out)|exact HB.out))));have n2_:=Aside0.mk (blk_below (g:=gb162) (o:=.cells #[.int .i64 t157,.int .i64 t158,.int .i64 t159,.int .i64 t160] 25 (0,0)) (by (with_reducible repeat (first|refine blk_drewN ?_ _|refine blk_drew ?_|refine blk_alloc ?_ _));exact BK162.out) hb);have n3_:=Aside0.mk (below_step (by repeat (first|(with_reducible first|exact HB.out|apply below_alloc|apply pw_below_drewN|apply below_drew1|refine below_set ?_ GE162.out)|exact HB.out)) hb);clear HO_1;clear BK162;clear HB;have HO_1:=n0_;have HO169:=n1_;have BK162:=n2_;have HB:=n3_;clear n0_ n1_ n2_ n3_;clear hb ho68;obtain ⟨Ao69,co69,eo69⟩:=Kd.R_slice HO169.out;subst eo69)|((with_reducible refine gate_callee (f:=30) rfl ?_);refine goesL_ (some 59) rfl rfl Tryz.func30 (by kernel_rfl) rfl #[.slice Ao7 y124.length co7,.slice Ao69 y167.length co69] rfl tM_ ?_;(with_reducible refine (rules_IsLoop.calls _ _ y124 _ _ y167 t170 _ ?side1 ?side2 ?side3 ?side4 A65.out).mono ?_);(case side1=>repeat (first|exact (Kd.R_reads' HO_1.out).2.2|(with_reducible refine Kd.C_alloc ?_ _)|(with_reducible refine Kd.C_drewN ?_ _)|(with_reducible refine Kd.C_drew ?_)));(case side2=>exact (Kd.R_reads' HO_1.out).2.1);(case side3=>repeat (first|exact (Kd.R_reads' HO169.out).2.2|(with_reducible refine Kd.C_alloc ?_ _)|(with_reducible refine Kd.C_drewN ?_ _)|(with_reducible refine Kd.C_drew ?_)));(case side4=>exact (Kd.R_reads' HO169.out).2.1);rintro e w70 ⟨rfl,hb⟩;refine ⟨_,rfl,?_⟩;have n0_:=Aside0.mk (Kd.R_below (tR_ HO_1) hb);have n1_:=Aside0.mk (Kd.R_below (tR_ HO169) hb);have n2_:=Aside0.mk (blk_below (g:=gb162) (o:=.cells #[.int .i64 t157,.int .i64 t158,.int .i64 t159,.int .i64 t160] 25 (0,0)) (by (with_reducible repeat (first|refine blk_drewN ?_ _|refine blk_drew ?_|refine blk_alloc ?_ _));exact BK162.out) hb);have n3_:=Aside0.mk (below_step (by repeat (first|(with_reducible first|exact HB.out|apply below_alloc|apply pw_below_drewN|apply below_drew1|refine below_set ?_ GE162.out)|exact HB.out)) hb);clear HO_1;clear HO169;clear BK162;clear HB;have HO_1:=n0_;have HO169:=n1_;have BK162:=n2_;have HB:=n3_;clear n0_ n1_ n2_ n3_;(try clear hb);(try clear hb2);(try clear hk);(try clear hi)))
     go_ret
     exact ⟨tE_,by repeat (first|(with_reducible first|exact HB.out|apply below_alloc|apply pw_below_drewN|apply below_drew1|refine below_set ?_ GE162.out)|exact HB.out)⟩
    ·rw [if_neg c66] at H
     exact absurd (H.trans (congrArg some HT0_.out)) (by simp)
end Go.Proofs.YtaafeallcaiooaaGreat.Pr
