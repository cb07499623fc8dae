import Derived.Test.YtaafeallcaiooaaGreatPr0
import Derived.Test.YtaafeallcaiooaaGreatPrA3
namespace Go.Proofs.YtaafeallcaiooaaGreat.Pr
open Go.RowKit Go.Proofs.Zw Go.Proofs.Zl Go.Proofs.Zm
attribute [local go_sem] max2_int min2_int max_two min_two max_three min_three max_four min_four
set_option linter.unusedVariables false
set_option linter.unusedSimpArgs false
def nr_Large.l0:Nat→List ByteArray→Int→Option (Bool)
 | 0,_,_=>none
 | k+1,x0,x3=>if x3 < (x0.length:Int) then (if 0≤x3 then ((nr_Size.f k (rdOf ByteArray.empty x0 x3)).bind fun t516=>(if t516 > 60 then (some true) else (nr_Large.l0 k x0 (wrap64 (x3+1))))) else (none)) else (some false)
def nr_Large.f (k:Nat) (l0:List ByteArray):Option (Bool):=nr_Large.l0 k l0 0
set_option maxHeartbeats 8000000 in
set_option maxRecDepth 100000 in
theorem nr_Large.calls (k:Nat) (A0:Option Addr) (c0:Nat) (l0:List ByteArray) (r:Bool) (w:World) (hr0:Kd.C Kd.string w A0 l0.length l0) (hc0:l0.length≤c0) (h:nr_Large.f k l0=some r) :
  Calls Tryz.prog 52 #[.slice A0 l0.length c0] w fun e w'=>e=.returned (.bool r)∧Drawn0 w w':=by
 have HR0:=Aside0.mk hr0
 have HC0:=Aside0.mk hc0
 clear hr0 hc0
 have H:(nr_Large.l0 k l0 0)=some r:=h
 clear h
 have H':=Aside0.mk H
 clear H
 go_enter Tryz.func52,Tryz.ntmps52
 go_wp2
 go_loopg [3] k (fun kq v3 w'=>∃ (x3_1:Int),v3=.int .i64 x3_1∧Aside0 (nr_Large.l0 kq l0 x3_1=some r)∧Aside0 (kq≤k)∧Drawn0 w w')
 case atStart=>exact ⟨(0),tS_,H',⟨Nat.le_refl _⟩,tD_⟩
 case round =>
  clear H'
  obtain ⟨x3_1,rfl,HA,HK1,⟨m1,rfl⟩⟩:=hrel
  cases gk with
  | zero=>exact absurd HA.out (by simp [nr_Large.l0])
  | succ k1 =>
   have H:=HA.out
   clear HA
   simp only [nr_Large.l0] at H
   by_cases c2:x3_1 < (l0.length:Int)
   ·rw [if_pos c2] at H
    have c2b0:decide (x3_1 < (l0.length:Int))=true:=decide_eq_true c2
    clear c2
    by_cases c3:0≤x3_1
    ·rw [if_pos c3] at H
     have c3b0:decide (0≤x3_1)=true:=decide_eq_true c3
     clear c3
     replace H:=Option.bind_eq_some_iff.mp H
     obtain ⟨t516,A40,H⟩:=H
     replace H:(if t516 > 60 then (some true) else (nr_Large.l0 k1 l0 (wrap64 (x3_1+1))))=some r:=H
     have A4:=Aside0.mk A40
     clear A40
     by_cases c5:t516 > 60
     ·rw [if_pos c5] at H
      have c5b0:decide (60 < t516)=true:=decide_eq_true c5
      clear c5
      obtain rfl:=Option.some.inj H
      have p515:0≤(x3_1:Int):=oT_
      have q515:x3_1 < (l0.length:Int):=oT_
      obtain ⟨ad515,e515,hx515_0⟩:=Kd.at_string HR0.out x3_1 p515 q515
      cases e515
      replace p515:=eq_true p515
      replace q515:=eq_true q515
      go_wp2_with (first|((with_reducible refine gate_callee (f:=26) rfl ?_);refine goesL_ (some 14) rfl rfl Tryz.func26 (by kernel_rfl) rfl #[.string (rdOf ByteArray.empty l0 x3_1)] rfl tM_ ?_;(with_reducible refine (nr_Size.calls k1 (rdOf ByteArray.empty l0 x3_1) t516 _ A4.out).mono ?_);rintro e w' ⟨rfl,⟨nd,rfl⟩⟩;refine ⟨_,rfl,?_⟩))
      go_ret
      exact ⟨by first|rfl|(simp;done)|(simp [*];done),tD_⟩
     ·rw [if_neg c5] at H
      have c5b0:decide (60 < t516)=false:=decide_eq_false c5
      clear c5
      have H':=Aside0.mk H
      clear H
      have p515:0≤(x3_1:Int):=oT_
      have q515:x3_1 < (l0.length:Int):=oT_
      obtain ⟨ad515,e515,hx515_0⟩:=Kd.at_string HR0.out x3_1 p515 q515
      cases e515
      replace p515:=eq_true p515
      replace q515:=eq_true q515
      go_wp2_with (first|((with_reducible refine gate_callee (f:=26) rfl ?_);refine goesL_ (some 14) rfl rfl Tryz.func26 (by kernel_rfl) rfl #[.string (rdOf ByteArray.empty l0 x3_1)] rfl tM_ ?_;(with_reducible refine (nr_Size.calls k1 (rdOf ByteArray.empty l0 x3_1) t516 _ A4.out).mono ?_);rintro e w' ⟨rfl,⟨nd,rfl⟩⟩;refine ⟨_,rfl,?_⟩))
      go_roundg k1
      case measure=>have:=HK1.out;omega
      case rel=>exact ⟨(wrap64 (x3_1+1)),tS_,H',⟨by have:=HK1.out;omega⟩,tD_⟩
    ·rw [if_neg c3] at H
     exact absurd H (by simp)
   ·rw [if_neg c2] at H
    have c2b0:decide (x3_1 < (l0.length:Int))=false:=decide_eq_false c2
    clear c2
    obtain rfl:=Option.some.inj H
    go_wp2
    go_ret
    exact ⟨by first|rfl|(simp;done)|(simp [*];done),tD_⟩
end Go.Proofs.YtaafeallcaiooaaGreat.Pr
