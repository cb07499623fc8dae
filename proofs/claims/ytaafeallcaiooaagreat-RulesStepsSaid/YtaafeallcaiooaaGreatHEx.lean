/- Value, Orient, Next as the printer takes them. -/
import Derived.Test.YtaafeallcaiooaaGreatHOt
import Derived.Test.YtaafeallcaiooaaGreatHNe
namespace Go.Proofs.YtaafeallcaiooaaGreat.Pr
open Go.RowKit Go.Maps Go.Proofs.Zw Go.Proofs.Zl Go.Proofs.Zm
set_option linter.unusedVariables false
set_option linter.unusedSimpArgs false
def rules_Next.f (l0:List S94) (a1:ByteArray):Option (List ByteArray × Int):=some ((nextsT l0 a1).2,(nextsT l0 a1).1)
theorem rules_Next.calls (A0:Option Addr) (c0:Nat) (l0:List S94) (a1:ByteArray) (r0:List ByteArray) (r1:Int) (w:World) (hr0:Kd.C k94 w A0 l0.length l0) (hc0:l0.length≤c0) (h:rules_Next.f l0 a1=some (r0,r1)) :
    Calls Tryz.prog 49 #[.slice A0 l0.length c0,.string a1] w fun e w'=>∃ v0_,e=.returned (.tuple #[v0_,.int .i64 r1])∧Kd.R Kd.string 9 w' w.heap.size (fun _=>True) v0_ r0∧Below w.heap.size w w':=by
  unfold rules_Next.f at h
  injection h with h
  injection h with h1 h2
  subst h1 h2
  refine (nexts_calls l0 a1 A0 c0 w hr0).mono ?_
  rintro e w' ⟨v,rfl,h1,h2⟩
  exact ⟨v,rfl,Kd.R_of_own (Kd.own_of_R h1) (fun _ _=>trivial),h2⟩
def rules_Orient.f (l0:List S94):Option (ByteArray × Int):=some ((orientT l0).2,(orientT l0).1)
theorem rules_Orient.calls (A0:Option Addr) (c0:Nat) (l0:List S94) (r0:ByteArray) (r1:Int) (w:World) (hr0:Kd.C k94 w A0 l0.length l0) (hc0:l0.length≤c0) (h:rules_Orient.f l0=some (r0,r1)) :
    Calls Tryz.prog 36 #[.slice A0 l0.length c0] w fun e w'=>e=.returned (.tuple #[.string r0,.int .i64 r1])∧Below w.heap.size w w':=by
  unfold rules_Orient.f at h
  injection h with h
  injection h with h1 h2
  subst h1 h2
  exact orient_calls l0 A0 c0 w hr0
def rules_Value.f (l0:List (List Int)) (a1:ByteArray):Option (Int × Int × Int × Int × Int):=some ((valT l0 a1).2 0,(valT l0 a1).2 1,(valT l0 a1).2 2,(valT l0 a1).2 3,(valT l0 a1).1)
theorem rules_Value.calls (A0:Option Addr) (c0:Nat) (l0:List (List Int)) (a1:ByteArray) (r0 r1 r2 r3 r4:Int) (w:World) (hr0:Kd.C (Kd.slice 3 (Kd.int .i64)) w A0 l0.length l0) (hc0:l0.length≤c0) (h:rules_Value.f l0 a1=some (r0,r1,r2,r3,r4)) :
    Calls Tryz.prog 22 #[.slice A0 l0.length c0,.string a1] w fun e w'=>e=.returned (.tuple #[.agg #[.int .i64 r0,.int .i64 r1,.int .i64 r2,.int .i64 r3],.int .i64 r4])∧Below w.heap.size w w':=by
  unfold rules_Value.f at h
  injection h with h
  injection h with h1 h
  injection h with h2 h
  injection h with h3 h
  injection h with h4 h5
  subst h1 h2 h3 h4 h5
  exact val_calls l0 a1 A0 c0 w hr0
end Go.Proofs.YtaafeallcaiooaaGreat.Pr
