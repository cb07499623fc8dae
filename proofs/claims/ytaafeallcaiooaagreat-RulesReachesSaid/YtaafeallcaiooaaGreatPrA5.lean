import Derived.Test.YtaafeallcaiooaaGreatPr0
import Derived.Test.YtaafeallcaiooaaGreatPrA1
import Derived.Test.YtaafeallcaiooaaGreatPrA3
import Derived.Test.YtaafeallcaiooaaGreatPrA4
namespace Go.Proofs.YtaafeallcaiooaaGreat.Pr
open Go.RowKit Go.Proofs.Zw Go.Proofs.Zl Go.Proofs.Zm
attribute [local go_sem] max2_int min2_int max_two min_two max_three min_three max_four min_four
set_option linter.unusedVariables false
set_option linter.unusedSimpArgs false
mutual
def nr_Rules.l0:Nat→List (S94)→Int→Option (Bool)
 | 0,_,_=>none
 | k+1,x0,x3=>if x3 < (x0.length:Int) then (if 0≤x3 then ((nr_Term.f k ((rd_T94 x0 x3).f0)).bind fun t218=>(if t218=true then ((nr_Term.f k ((rd_T94 x0 x3).f1)).bind fun t219=>(if t219=true then ((nr_Size.f k ((rd_T94 x0 x3).f0)).bind fun t220=>(if t220 > 12 then (nr_Rules.j1 k x0 x3 ((rd_T94 x0 x3).f0) ((rd_T94 x0 x3).f1) true) else ((nr_Size.f k ((rd_T94 x0 x3).f1)).bind fun t221=>(if t221 > 12 then (nr_Rules.j1 k x0 x3 ((rd_T94 x0 x3).f0) ((rd_T94 x0 x3).f1) true) else (if 0 < (((rd_T94 x0 x3).f0).size:Int) then ((nr_Variable.f (bt ((rd_T94 x0 x3).f0) 0)).bind fun t222=>(nr_Rules.j1 k x0 x3 ((rd_T94 x0 x3).f0) ((rd_T94 x0 x3).f1) t222)) else (none)))))) else (nr_Rules.j1 k x0 x3 ((rd_T94 x0 x3).f0) ((rd_T94 x0 x3).f1) true))) else (nr_Rules.j1 k x0 x3 ((rd_T94 x0 x3).f0) ((rd_T94 x0 x3).f1) true))) else (none)) else (some (decide ((x0.length:Int)≤6)))
def nr_Rules.j1:Nat→List (S94)→Int→ByteArray→ByteArray→Bool→Option (Bool)
 | 0,_,_,_,_,_=>none
 | k+1,x0,x3,x4,x5,x45=>if x45=true then (some false) else (nr_Rules.l1 k x0 x3 x4 x5 0)
def nr_Rules.l1:Nat→List (S94)→Int→ByteArray→ByteArray→Int→Option (Bool)
 | 0,_,_,_,_,_=>none
 | k+1,x0,x3,x4,x5,x6=>if x6 < (x5.size:Int) then (if 0≤x6 then ((nr_Variable.f (bt x5 x6)).bind fun t223=>(if t223=true then ((nr_occurs.f k (bt x5 x6) x4).bind fun t224=>(if t224=true then (nr_Rules.l1 k x0 x3 x4 x5 (wrap64 (x6+1))) else (some false))) else (nr_Rules.l1 k x0 x3 x4 x5 (wrap64 (x6+1))))) else (none)) else (nr_Rules.l0 k x0 (wrap64 (x3+1)))
end
def nr_Rules.f (k:Nat) (l0:List (S94)):Option (Bool):=nr_Rules.l0 k l0 0
set_option maxHeartbeats 8000000 in
set_option maxRecDepth 100000 in
theorem nr_Rules.calls (k:Nat) (A0:Option Addr) (c0:Nat) (l0:List (S94)) (r:Bool) (w:World) (hr0:Kd.C k94 w A0 l0.length l0) (hc0:l0.length≤c0) (h:nr_Rules.f k l0=some r) :
  Calls Tryz.prog 31 #[.slice A0 l0.length c0] w fun e w'=>e=.returned (.bool r)∧Drawn0 w w':=by
 have HR0:=Aside0.mk hr0
 have HC0:=Aside0.mk hc0
 clear hr0 hc0
 have H:(nr_Rules.l0 k l0 0)=some r:=h
 clear h
 have H':=Aside0.mk H
 clear H
 go_enter Tryz.func31,Tryz.ntmps31
 go_wp2
 repeat (go_quiet (fail);try go_wp2)
 go_loopg [3] k (fun kq v3 w'=>∃ (x3_1:Int),v3=.int .i64 x3_1∧Aside0 (nr_Rules.l0 kq l0 x3_1=some r)∧Aside0 (kq≤k)∧Drawn0 w w')
 case atStart=>exact ⟨(0),tS_,H',⟨Nat.le_refl _⟩,tD_⟩
 case round =>
  clear H'
  obtain ⟨x3_1,rfl,HA,HK1,⟨m1,rfl⟩⟩:=hrel
  cases gk with
  | zero=>exact absurd HA.out (by simp [nr_Rules.l0])
  | succ k1 =>
   have H:=HA.out
   clear HA
   simp only [nr_Rules.l0] at H
   by_cases c2:x3_1 < (l0.length:Int)
   ·rw [if_pos c2] at H
    have c2b0:decide (x3_1 < (l0.length:Int))=true:=decide_eq_true c2
    clear c2
    by_cases c3:0≤x3_1
    ·rw [if_pos c3] at H
     have c3b0:decide (0≤x3_1)=true:=decide_eq_true c3
     clear c3
     have HC4:=Aside0.mk H
     clear H
     have p216:0≤(x3_1:Int):=oT_
     have q216:x3_1 < (l0.length:Int):=oT_
     obtain ⟨ad216,e216,hx216_0,hx216_1⟩:=at_T94 HR0.out x3_1 p216 q216
     cases e216
     replace p216:=eq_true p216
     replace q216:=eq_true q216
     have p217:0≤(x3_1:Int):=oT_
     have q217:x3_1 < (l0.length:Int):=oT_
     obtain ⟨ad217,e217,hx217_0,hx217_1⟩:=at_T94 HR0.out x3_1 p217 q217
     obtain rfl:ad216=ad217:=(by injection e217)
     replace p217:=eq_true p217
     replace q217:=eq_true q217
     go_upto_region 5 with (fail)
     repeat (go_quiet (fail);go_upto_region 5 with (fail))
     go_cut [45] (fun v45 wc=>∃ (kq:Nat) (x45_3:Bool),v45=.bool x45_3∧Aside0 (nr_Rules.j1 kq l0 x3_1 ((rd_T94 l0 x3_1).f0) ((rd_T94 l0 x3_1).f1) x45_3=some r)∧Aside0 (kq≤k1)∧Drawn0 w wc)
     case first =>
      have H:=HC4.out
      clear HC4
      replace H:=Option.bind_eq_some_iff.mp H
      obtain ⟨t218,A50,H⟩:=H
      replace H:(if t218=true then ((nr_Term.f k1 ((rd_T94 l0 x3_1).f1)).bind fun t219=>(if t219=true then ((nr_Size.f k1 ((rd_T94 l0 x3_1).f0)).bind fun t220=>(if t220 > 12 then (nr_Rules.j1 k1 l0 x3_1 ((rd_T94 l0 x3_1).f0) ((rd_T94 l0 x3_1).f1) true) else ((nr_Size.f k1 ((rd_T94 l0 x3_1).f1)).bind fun t221=>(if t221 > 12 then (nr_Rules.j1 k1 l0 x3_1 ((rd_T94 l0 x3_1).f0) ((rd_T94 l0 x3_1).f1) true) else (if 0 < (((rd_T94 l0 x3_1).f0).size:Int) then ((nr_Variable.f (bt ((rd_T94 l0 x3_1).f0) 0)).bind fun t222=>(nr_Rules.j1 k1 l0 x3_1 ((rd_T94 l0 x3_1).f0) ((rd_T94 l0 x3_1).f1) t222)) else (none)))))) else (nr_Rules.j1 k1 l0 x3_1 ((rd_T94 l0 x3_1).f0) ((rd_T94 l0 x3_1).f1) true))) else (nr_Rules.j1 k1 l0 x3_1 ((rd_T94 l0 x3_1).f0) ((rd_T94 l0 x3_1).f1) true))=some r:=H
      have A5:=Aside0.mk A50
      clear A50
      by_cases c6:t218=true
      ·subst c6
       have H1:((nr_Term.f k1 ((rd_T94 l0 x3_1).f1)).bind fun t219=>(if t219=true then ((nr_Size.f k1 ((rd_T94 l0 x3_1).f0)).bind fun t220=>(if t220 > 12 then (nr_Rules.j1 k1 l0 x3_1 ((rd_T94 l0 x3_1).f0) ((rd_T94 l0 x3_1).f1) true) else ((nr_Size.f k1 ((rd_T94 l0 x3_1).f1)).bind fun t221=>(if t221 > 12 then (nr_Rules.j1 k1 l0 x3_1 ((rd_T94 l0 x3_1).f0) ((rd_T94 l0 x3_1).f1) true) else (if 0 < (((rd_T94 l0 x3_1).f0).size:Int) then ((nr_Variable.f (bt ((rd_T94 l0 x3_1).f0) 0)).bind fun t222=>(nr_Rules.j1 k1 l0 x3_1 ((rd_T94 l0 x3_1).f0) ((rd_T94 l0 x3_1).f1) t222)) else (none)))))) else (nr_Rules.j1 k1 l0 x3_1 ((rd_T94 l0 x3_1).f0) ((rd_T94 l0 x3_1).f1) true)))=some r:=by rw [if_pos rfl] at H;exact H
       clear H
       have H:=H1
       clear H1
       replace H:=Option.bind_eq_some_iff.mp H
       obtain ⟨t219,A70,H⟩:=H
       replace H:(if t219=true then ((nr_Size.f k1 ((rd_T94 l0 x3_1).f0)).bind fun t220=>(if t220 > 12 then (nr_Rules.j1 k1 l0 x3_1 ((rd_T94 l0 x3_1).f0) ((rd_T94 l0 x3_1).f1) true) else ((nr_Size.f k1 ((rd_T94 l0 x3_1).f1)).bind fun t221=>(if t221 > 12 then (nr_Rules.j1 k1 l0 x3_1 ((rd_T94 l0 x3_1).f0) ((rd_T94 l0 x3_1).f1) true) else (if 0 < (((rd_T94 l0 x3_1).f0).size:Int) then ((nr_Variable.f (bt ((rd_T94 l0 x3_1).f0) 0)).bind fun t222=>(nr_Rules.j1 k1 l0 x3_1 ((rd_T94 l0 x3_1).f0) ((rd_T94 l0 x3_1).f1) t222)) else (none)))))) else (nr_Rules.j1 k1 l0 x3_1 ((rd_T94 l0 x3_1).f0) ((rd_T94 l0 x3_1).f1) true))=some r:=H
       have A7:=Aside0.mk A70
       clear A70
       by_cases c8:t219=true
       ·subst c8
        have H1:((nr_Size.f k1 ((rd_T94 l0 x3_1).f0)).bind fun t220=>(if t220 > 12 then (nr_Rules.j1 k1 l0 x3_1 ((rd_T94 l0 x3_1).f0) ((rd_T94 l0 x3_1).f1) true) else ((nr_Size.f k1 ((rd_T94 l0 x3_1).f1)).bind fun t221=>(if t221 > 12 then (nr_Rules.j1 k1 l0 x3_1 ((rd_T94 l0 x3_1).f0) ((rd_T94 l0 x3_1).f1) true) else (if 0 < (((rd_T94 l0 x3_1).f0).size:Int) then ((nr_Variable.f (bt ((rd_T94 l0 x3_1).f0) 0)).bind fun t222=>(nr_Rules.j1 k1 l0 x3_1 ((rd_T94 l0 x3_1).f0) ((rd_T94 l0 x3_1).f1) t222)) else (none))))))=some r:=by rw [if_pos rfl] at H;exact H
        clear H
        have H:=H1
        clear H1
        replace H:=Option.bind_eq_some_iff.mp H
        obtain ⟨t220,A90,H⟩:=H
        replace H:(if t220 > 12 then (nr_Rules.j1 k1 l0 x3_1 ((rd_T94 l0 x3_1).f0) ((rd_T94 l0 x3_1).f1) true) else ((nr_Size.f k1 ((rd_T94 l0 x3_1).f1)).bind fun t221=>(if t221 > 12 then (nr_Rules.j1 k1 l0 x3_1 ((rd_T94 l0 x3_1).f0) ((rd_T94 l0 x3_1).f1) true) else (if 0 < (((rd_T94 l0 x3_1).f0).size:Int) then ((nr_Variable.f (bt ((rd_T94 l0 x3_1).f0) 0)).bind fun t222=>(nr_Rules.j1 k1 l0 x3_1 ((rd_T94 l0 x3_1).f0) ((rd_T94 l0 x3_1).f1) t222)) else (none)))))=some r:=H
        have A9:=Aside0.mk A90
        clear A90
        by_cases c10:t220 > 12
        ·rw [if_pos c10] at H
         have c10b0:decide (12 < t220)=true:=decide_eq_true c10
         clear c10
         (first|rw [c10b0]|(simp only [i64_w,i32_w];rw [c10b0])|skip)
         have H':=Aside0.mk H
         clear H
         go_wp2_with (first|(go_at_call 25;(with_reducible refine (nr_Term.calls k1 ((rd_T94 l0 x3_1).f0) true _ A5.out).mono ?_);rintro e w' ⟨rfl,⟨nd,rfl⟩⟩;(try exact tN_))|(go_at_call 25;(with_reducible refine (nr_Term.calls k1 ((rd_T94 l0 x3_1).f1) true _ A7.out).mono ?_);rintro e w' ⟨rfl,⟨nd,rfl⟩⟩;(try exact tN_))|(go_at_call 26;(with_reducible refine (nr_Size.calls k1 ((rd_T94 l0 x3_1).f0) t220 _ A9.out).mono ?_);rintro e w' ⟨rfl,⟨nd,rfl⟩⟩;(try exact tN_)))
         repeat (go_quiet (first|(go_at_call 25;(with_reducible refine (nr_Term.calls k1 ((rd_T94 l0 x3_1).f0) true _ A5.out).mono ?_);rintro e w' ⟨rfl,⟨nd,rfl⟩⟩;(try exact tN_))|(go_at_call 25;(with_reducible refine (nr_Term.calls k1 ((rd_T94 l0 x3_1).f1) true _ A7.out).mono ?_);rintro e w' ⟨rfl,⟨nd,rfl⟩⟩;(try exact tN_))|(go_at_call 26;(with_reducible refine (nr_Size.calls k1 ((rd_T94 l0 x3_1).f0) t220 _ A9.out).mono ?_);rintro e w' ⟨rfl,⟨nd,rfl⟩⟩;(try exact tN_)));try go_wp2_with (first|(go_at_call 25;(with_reducible refine (nr_Term.calls k1 ((rd_T94 l0 x3_1).f0) true _ A5.out).mono ?_);rintro e w' ⟨rfl,⟨nd,rfl⟩⟩;(try exact tN_))|(go_at_call 25;(with_reducible refine (nr_Term.calls k1 ((rd_T94 l0 x3_1).f1) true _ A7.out).mono ?_);rintro e w' ⟨rfl,⟨nd,rfl⟩⟩;(try exact tN_))|(go_at_call 26;(with_reducible refine (nr_Size.calls k1 ((rd_T94 l0 x3_1).f0) t220 _ A9.out).mono ?_);rintro e w' ⟨rfl,⟨nd,rfl⟩⟩;(try exact tN_))))
         go_meet
         case rel=>exact ⟨_,(true),tS_,H',⟨by have:=HK1.out;first|omega|exact Nat.le_refl _⟩,tD_⟩
        ·rw [if_neg c10] at H
         have c10b0:decide (12 < t220)=false:=decide_eq_false c10
         clear c10
         (first|rw [c10b0]|(simp only [i64_w,i32_w];rw [c10b0])|skip)
         replace H:=Option.bind_eq_some_iff.mp H
         obtain ⟨t221,A110,H⟩:=H
         replace H:(if t221 > 12 then (nr_Rules.j1 k1 l0 x3_1 ((rd_T94 l0 x3_1).f0) ((rd_T94 l0 x3_1).f1) true) else (if 0 < (((rd_T94 l0 x3_1).f0).size:Int) then ((nr_Variable.f (bt ((rd_T94 l0 x3_1).f0) 0)).bind fun t222=>(nr_Rules.j1 k1 l0 x3_1 ((rd_T94 l0 x3_1).f0) ((rd_T94 l0 x3_1).f1) t222)) else (none)))=some r:=H
         have A11:=Aside0.mk A110
         clear A110
         by_cases c12:t221 > 12
         ·rw [if_pos c12] at H
          have c12b0:decide (12 < t221)=true:=decide_eq_true c12
          clear c12
          have H':=Aside0.mk H
          clear H
          go_wp2_with (first|(go_at_call 25;(with_reducible refine (nr_Term.calls k1 ((rd_T94 l0 x3_1).f0) true _ A5.out).mono ?_);rintro e w' ⟨rfl,⟨nd,rfl⟩⟩;(try exact tN_))|(go_at_call 25;(with_reducible refine (nr_Term.calls k1 ((rd_T94 l0 x3_1).f1) true _ A7.out).mono ?_);rintro e w' ⟨rfl,⟨nd,rfl⟩⟩;(try exact tN_))|(go_at_call 26;(with_reducible refine (nr_Size.calls k1 ((rd_T94 l0 x3_1).f0) t220 _ A9.out).mono ?_);rintro e w' ⟨rfl,⟨nd,rfl⟩⟩;(try exact tN_))|(go_at_call 26;(with_reducible refine (nr_Size.calls k1 ((rd_T94 l0 x3_1).f1) t221 _ A11.out).mono ?_);rintro e w' ⟨rfl,⟨nd,rfl⟩⟩;(try exact tN_)))
          repeat (go_quiet (first|(go_at_call 25;(with_reducible refine (nr_Term.calls k1 ((rd_T94 l0 x3_1).f0) true _ A5.out).mono ?_);rintro e w' ⟨rfl,⟨nd,rfl⟩⟩;(try exact tN_))|(go_at_call 25;(with_reducible refine (nr_Term.calls k1 ((rd_T94 l0 x3_1).f1) true _ A7.out).mono ?_);rintro e w' ⟨rfl,⟨nd,rfl⟩⟩;(try exact tN_))|(go_at_call 26;(with_reducible refine (nr_Size.calls k1 ((rd_T94 l0 x3_1).f0) t220 _ A9.out).mono ?_);rintro e w' ⟨rfl,⟨nd,rfl⟩⟩;(try exact tN_))|(go_at_call 26;(with_reducible refine (nr_Size.calls k1 ((rd_T94 l0 x3_1).f1) t221 _ A11.out).mono ?_);rintro e w' ⟨rfl,⟨nd,rfl⟩⟩;(try exact tN_)));try go_wp2_with (first|(go_at_call 25;(with_reducible refine (nr_Term.calls k1 ((rd_T94 l0 x3_1).f0) true _ A5.out).mono ?_);rintro e w' ⟨rfl,⟨nd,rfl⟩⟩;(try exact tN_))|(go_at_call 25;(with_reducible refine (nr_Term.calls k1 ((rd_T94 l0 x3_1).f1) true _ A7.out).mono ?_);rintro e w' ⟨rfl,⟨nd,rfl⟩⟩;(try exact tN_))|(go_at_call 26;(with_reducible refine (nr_Size.calls k1 ((rd_T94 l0 x3_1).f0) t220 _ A9.out).mono ?_);rintro e w' ⟨rfl,⟨nd,rfl⟩⟩;(try exact tN_))|(go_at_call 26;(with_reducible refine (nr_Size.calls k1 ((rd_T94 l0 x3_1).f1) t221 _ A11.out).mono ?_);rintro e w' ⟨rfl,⟨nd,rfl⟩⟩;(try exact tN_))))
          go_meet
          case rel=>exact ⟨_,(true),tS_,H',⟨by have:=HK1.out;first|omega|exact Nat.le_refl _⟩,tD_⟩
         ·rw [if_neg c12] at H
          have c12b0:decide (12 < t221)=false:=decide_eq_false c12
          clear c12
          by_cases c13:0 < (((rd_T94 l0 x3_1).f0).size:Int)
          ·rw [if_pos c13] at H
           have c13b0:decide (0 < (((rd_T94 l0 x3_1).f0).size:Int))=true:=decide_eq_true c13
           have c13b1:decide (0 < ((rd_T94 l0 x3_1).f0).size)=true:=decide_eq_true (by omega)
           clear c13
           replace H:=Option.bind_eq_some_iff.mp H
           obtain ⟨t222,A150,H⟩:=H
           replace H:(nr_Rules.j1 k1 l0 x3_1 ((rd_T94 l0 x3_1).f0) ((rd_T94 l0 x3_1).f1) t222)=some r:=H
           have A15:=Aside0.mk A150
           clear A150
           have H':=Aside0.mk H
           clear H
           go_wp2_with (first|(go_at_call 25;(with_reducible refine (nr_Term.calls k1 ((rd_T94 l0 x3_1).f0) true _ A5.out).mono ?_);rintro e w' ⟨rfl,⟨nd,rfl⟩⟩;(try exact tN_))|(go_at_call 25;(with_reducible refine (nr_Term.calls k1 ((rd_T94 l0 x3_1).f1) true _ A7.out).mono ?_);rintro e w' ⟨rfl,⟨nd,rfl⟩⟩;(try exact tN_))|(go_at_call 26;(with_reducible refine (nr_Size.calls k1 ((rd_T94 l0 x3_1).f0) t220 _ A9.out).mono ?_);rintro e w' ⟨rfl,⟨nd,rfl⟩⟩;(try exact tN_))|(go_at_call 26;(with_reducible refine (nr_Size.calls k1 ((rd_T94 l0 x3_1).f1) t221 _ A11.out).mono ?_);rintro e w' ⟨rfl,⟨nd,rfl⟩⟩;(try exact tN_);have p14:0≤(0:Int):=(by omega);have q14:0 < ((rd_T94 l0 x3_1).f0).size:=(by have:(0:Int) < (((rd_T94 l0 x3_1).f0).size:Int):=oT_;omega);have hx14:∀ h:0 < ((rd_T94 l0 x3_1).f0).size,((((rd_T94 l0 x3_1).f0)[0]'h).toNat:Int)=bt ((rd_T94 l0 x3_1).f0) 0:=bt_at ((rd_T94 l0 x3_1).f0) 0;clear p14;have qi14:(0 < (((rd_T94 l0 x3_1).f0).size:Int))=True:=eq_true (oT_);replace q14:=eq_true q14)|(go_at_call 74;(with_reducible refine (nr_Variable.calls (bt ((rd_T94 l0 x3_1).f0) 0) t222 _ A15.out).mono ?_);rintro e w' ⟨rfl,⟨nd,rfl⟩⟩;(try exact tN_)))
           repeat (go_quiet (first|(go_at_call 25;(with_reducible refine (nr_Term.calls k1 ((rd_T94 l0 x3_1).f0) true _ A5.out).mono ?_);rintro e w' ⟨rfl,⟨nd,rfl⟩⟩;(try exact tN_))|(go_at_call 25;(with_reducible refine (nr_Term.calls k1 ((rd_T94 l0 x3_1).f1) true _ A7.out).mono ?_);rintro e w' ⟨rfl,⟨nd,rfl⟩⟩;(try exact tN_))|(go_at_call 26;(with_reducible refine (nr_Size.calls k1 ((rd_T94 l0 x3_1).f0) t220 _ A9.out).mono ?_);rintro e w' ⟨rfl,⟨nd,rfl⟩⟩;(try exact tN_))|(go_at_call 26;(with_reducible refine (nr_Size.calls k1 ((rd_T94 l0 x3_1).f1) t221 _ A11.out).mono ?_);rintro e w' ⟨rfl,⟨nd,rfl⟩⟩;(try exact tN_);have p14:0≤(0:Int):=(by omega);have q14:0 < ((rd_T94 l0 x3_1).f0).size:=(by have:(0:Int) < (((rd_T94 l0 x3_1).f0).size:Int):=oT_;omega);have hx14:∀ h:0 < ((rd_T94 l0 x3_1).f0).size,((((rd_T94 l0 x3_1).f0)[0]'h).toNat:Int)=bt ((rd_T94 l0 x3_1).f0) 0:=bt_at ((rd_T94 l0 x3_1).f0) 0;clear p14;have qi14:(0 < (((rd_T94 l0 x3_1).f0).size:Int))=True:=eq_true (oT_);replace q14:=eq_true q14)|(go_at_call 74;(with_reducible refine (nr_Variable.calls (bt ((rd_T94 l0 x3_1).f0) 0) t222 _ A15.out).mono ?_);rintro e w' ⟨rfl,⟨nd,rfl⟩⟩;(try exact tN_)));try go_wp2_with (first|(go_at_call 25;(with_reducible refine (nr_Term.calls k1 ((rd_T94 l0 x3_1).f0) true _ A5.out).mono ?_);rintro e w' ⟨rfl,⟨nd,rfl⟩⟩;(try exact tN_))|(go_at_call 25;(with_reducible refine (nr_Term.calls k1 ((rd_T94 l0 x3_1).f1) true _ A7.out).mono ?_);rintro e w' ⟨rfl,⟨nd,rfl⟩⟩;(try exact tN_))|(go_at_call 26;(with_reducible refine (nr_Size.calls k1 ((rd_T94 l0 x3_1).f0) t220 _ A9.out).mono ?_);rintro e w' ⟨rfl,⟨nd,rfl⟩⟩;(try exact tN_))|(go_at_call 26;(with_reducible refine (nr_Size.calls k1 ((rd_T94 l0 x3_1).f1) t221 _ A11.out).mono ?_);rintro e w' ⟨rfl,⟨nd,rfl⟩⟩;(try exact tN_);have p14:0≤(0:Int):=(by omega);have q14:0 < ((rd_T94 l0 x3_1).f0).size:=(by have:(0:Int) < (((rd_T94 l0 x3_1).f0).size:Int):=oT_;omega);have hx14:∀ h:0 < ((rd_T94 l0 x3_1).f0).size,((((rd_T94 l0 x3_1).f0)[0]'h).toNat:Int)=bt ((rd_T94 l0 x3_1).f0) 0:=bt_at ((rd_T94 l0 x3_1).f0) 0;clear p14;have qi14:(0 < (((rd_T94 l0 x3_1).f0).size:Int))=True:=eq_true (oT_);replace q14:=eq_true q14)|(go_at_call 74;(with_reducible refine (nr_Variable.calls (bt ((rd_T94 l0 x3_1).f0) 0) t222 _ A15.out).mono ?_);rintro e w' ⟨rfl,⟨nd,rfl⟩⟩;(try exact tN_))))
           go_meet
           case rel=>exact ⟨_,(t222),tS_,H',⟨by have:=HK1.out;first|omega|exact Nat.le_refl _⟩,tD_⟩
          ·rw [if_neg c13] at H
           exact absurd H (by simp)
       ·replace c8:=Bool.eq_false_iff.mpr c8
        subst c8
        have H1:(nr_Rules.j1 k1 l0 x3_1 ((rd_T94 l0 x3_1).f0) ((rd_T94 l0 x3_1).f1) true)=some r:=by rw [if_neg (show ¬ (false=true) by decide)] at H;exact H
        clear H
        have H:=H1
        clear H1
        have H':=Aside0.mk H
        clear H
        go_wp2_with (first|(go_at_call 25;(with_reducible refine (nr_Term.calls k1 ((rd_T94 l0 x3_1).f0) true _ A5.out).mono ?_);rintro e w' ⟨rfl,⟨nd,rfl⟩⟩;(try exact tN_))|(go_at_call 25;(with_reducible refine (nr_Term.calls k1 ((rd_T94 l0 x3_1).f1) false _ A7.out).mono ?_);rintro e w' ⟨rfl,⟨nd,rfl⟩⟩;(try exact tN_)))
        repeat (go_quiet (first|(go_at_call 25;(with_reducible refine (nr_Term.calls k1 ((rd_T94 l0 x3_1).f0) true _ A5.out).mono ?_);rintro e w' ⟨rfl,⟨nd,rfl⟩⟩;(try exact tN_))|(go_at_call 25;(with_reducible refine (nr_Term.calls k1 ((rd_T94 l0 x3_1).f1) false _ A7.out).mono ?_);rintro e w' ⟨rfl,⟨nd,rfl⟩⟩;(try exact tN_)));try go_wp2_with (first|(go_at_call 25;(with_reducible refine (nr_Term.calls k1 ((rd_T94 l0 x3_1).f0) true _ A5.out).mono ?_);rintro e w' ⟨rfl,⟨nd,rfl⟩⟩;(try exact tN_))|(go_at_call 25;(with_reducible refine (nr_Term.calls k1 ((rd_T94 l0 x3_1).f1) false _ A7.out).mono ?_);rintro e w' ⟨rfl,⟨nd,rfl⟩⟩;(try exact tN_))))
        go_meet
        case rel=>exact ⟨_,(true),tS_,H',⟨by have:=HK1.out;first|omega|exact Nat.le_refl _⟩,tD_⟩
      ·replace c6:=Bool.eq_false_iff.mpr c6
       subst c6
       have H1:(nr_Rules.j1 k1 l0 x3_1 ((rd_T94 l0 x3_1).f0) ((rd_T94 l0 x3_1).f1) true)=some r:=by rw [if_neg (show ¬ (false=true) by decide)] at H;exact H
       clear H
       have H:=H1
       clear H1
       have H':=Aside0.mk H
       clear H
       go_wp2_with (first|(go_at_call 25;(with_reducible refine (nr_Term.calls k1 ((rd_T94 l0 x3_1).f0) false _ A5.out).mono ?_);rintro e w' ⟨rfl,⟨nd,rfl⟩⟩;(try exact tN_)))
       repeat (go_quiet (first|(go_at_call 25;(with_reducible refine (nr_Term.calls k1 ((rd_T94 l0 x3_1).f0) false _ A5.out).mono ?_);rintro e w' ⟨rfl,⟨nd,rfl⟩⟩;(try exact tN_)));try go_wp2_with (first|(go_at_call 25;(with_reducible refine (nr_Term.calls k1 ((rd_T94 l0 x3_1).f0) false _ A5.out).mono ?_);rintro e w' ⟨rfl,⟨nd,rfl⟩⟩;(try exact tN_))))
       go_meet
       case rel=>exact ⟨_,(true),tS_,H',⟨by have:=HK1.out;first|omega|exact Nat.le_refl _⟩,tD_⟩
     case rest =>
      clear HC4
      try clear c1
      try clear p1
      try clear q1
      try clear hx1
      try clear qi1
      try clear c2
      try clear c2b0
      try clear p2
      try clear q2
      try clear hx2
      try clear c3
      try clear c3b0
      try clear c6
      try clear c8
      try clear c10
      try clear c10b0
      try clear c12
      try clear c12b0
      try clear c13
      try clear c13b0
      try clear c13b1
      try clear p14
      try clear q14
      try clear hx14
      try clear qi14
      try clear hx216_0
      try clear hx216_1
      try clear hx217_0
      try clear hx217_1
      try clear p14
      try clear p216
      try clear p217
      try clear q14
      try clear q216
      try clear q217
      obtain ⟨kq,x45_3,rfl,HA,HJ3,⟨mc3,rfl⟩⟩:=hcut
      cases kq with
      | zero=>exact absurd HA.out (by simp [nr_Rules.j1])
      | succ kj3 =>
       have H:=HA.out
       clear HA
       simp only [nr_Rules.j1] at H
       by_cases c16:x45_3=true
       ·subst c16
        have H1:(some false)=some r:=by rw [if_pos rfl] at H;exact H
        clear H
        have H:=H1
        clear H1
        obtain rfl:=Option.some.inj H
        go_wp2
        repeat (go_quiet (fail);try go_wp2)
        go_ret
        exact ⟨by first|rfl|(simp;done)|(simp [*];done),tD_⟩
       ·replace c16:=Bool.eq_false_iff.mpr c16
        subst c16
        have H1:(nr_Rules.l1 kj3 l0 x3_1 ((rd_T94 l0 x3_1).f0) ((rd_T94 l0 x3_1).f1) 0)=some r:=by rw [if_neg (show ¬ (false=true) by decide)] at H;exact H
        clear H
        have H:=H1
        clear H1
        have H':=Aside0.mk H
        clear H
        go_wp2
        repeat (go_quiet (fail);try go_wp2)
        go_loopg [6] kj3 (fun kq v6 w'=>∃ (x6_3:Int),v6=.int .i64 x6_3∧Aside0 (nr_Rules.l1 kq l0 x3_1 ((rd_T94 l0 x3_1).f0) ((rd_T94 l0 x3_1).f1) x6_3=some r)∧Aside0 (kq≤kj3)∧Drawn0 w w')
        case atStart=>exact ⟨(0),tS_,H',⟨Nat.le_refl _⟩,tD_⟩
        case round =>
         clear H'
         try clear c1
         try clear p1
         try clear q1
         try clear hx1
         try clear qi1
         try clear c2
         try clear c2b0
         try clear p2
         try clear q2
         try clear hx2
         try clear c3
         try clear c3b0
         try clear c6
         try clear c8
         try clear c10
         try clear c10b0
         try clear c12
         try clear c12b0
         try clear c13
         try clear c13b0
         try clear c13b1
         try clear p14
         try clear q14
         try clear hx14
         try clear qi14
         try clear c16
         try clear hx216_0
         try clear hx216_1
         try clear hx217_0
         try clear hx217_1
         try clear p1
         try clear p14
         try clear p2
         try clear p216
         try clear p217
         try clear q1
         try clear q14
         try clear q2
         try clear q216
         try clear q217
         obtain ⟨x6_3,rfl,HA,HK3,⟨m3,rfl⟩⟩:=hrel
         cases gk with
         | zero=>exact absurd HA.out (by simp [nr_Rules.l1])
         | succ k3 =>
          have H:=HA.out
          clear HA
          simp only [nr_Rules.l1] at H
          by_cases c17:x6_3 < (((rd_T94 l0 x3_1).f1).size:Int)
          ·rw [if_pos c17] at H
           have c17b0:decide (x6_3 < (((rd_T94 l0 x3_1).f1).size:Int))=true:=decide_eq_true c17
           clear c17
           by_cases c18:0≤x6_3
           ·rw [if_pos c18] at H
            have c18b0:decide (0≤x6_3)=true:=decide_eq_true c18
            clear c18
            replace H:=Option.bind_eq_some_iff.mp H
            obtain ⟨t223,A200,H⟩:=H
            replace H:(if t223=true then ((nr_occurs.f k3 (bt ((rd_T94 l0 x3_1).f1) x6_3) ((rd_T94 l0 x3_1).f0)).bind fun t224=>(if t224=true then (nr_Rules.l1 k3 l0 x3_1 ((rd_T94 l0 x3_1).f0) ((rd_T94 l0 x3_1).f1) (wrap64 (x6_3+1))) else (some false))) else (nr_Rules.l1 k3 l0 x3_1 ((rd_T94 l0 x3_1).f0) ((rd_T94 l0 x3_1).f1) (wrap64 (x6_3+1))))=some r:=H
            have A20:=Aside0.mk A200
            clear A200
            by_cases c21:t223=true
            ·subst c21
             have H1:((nr_occurs.f k3 (bt ((rd_T94 l0 x3_1).f1) x6_3) ((rd_T94 l0 x3_1).f0)).bind fun t224=>(if t224=true then (nr_Rules.l1 k3 l0 x3_1 ((rd_T94 l0 x3_1).f0) ((rd_T94 l0 x3_1).f1) (wrap64 (x6_3+1))) else (some false)))=some r:=by rw [if_pos rfl] at H;exact H
             clear H
             have H:=H1
             clear H1
             replace H:=Option.bind_eq_some_iff.mp H
             obtain ⟨t224,A230,H⟩:=H
             replace H:(if t224=true then (nr_Rules.l1 k3 l0 x3_1 ((rd_T94 l0 x3_1).f0) ((rd_T94 l0 x3_1).f1) (wrap64 (x6_3+1))) else (some false))=some r:=H
             have A23:=Aside0.mk A230
             clear A230
             by_cases c24:t224=true
             ·subst c24
              have H1:(nr_Rules.l1 k3 l0 x3_1 ((rd_T94 l0 x3_1).f0) ((rd_T94 l0 x3_1).f1) (wrap64 (x6_3+1)))=some r:=by rw [if_pos rfl] at H;exact H
              clear H
              have H:=H1
              clear H1
              have H':=Aside0.mk H
              clear H
              have p19:0≤(x6_3:Int):=oT_
              have q19:x6_3 < (((rd_T94 l0 x3_1).f1).size:Int):=oT_
              have hx19:=bt_at ((rd_T94 l0 x3_1).f1) x6_3
              replace p19:=eq_true p19
              replace q19:=eq_true q19
              go_wp2_with (first|(go_at_call 74;(with_reducible refine (nr_Variable.calls (bt ((rd_T94 l0 x3_1).f1) x6_3) true _ A20.out).mono ?_);rintro e w' ⟨rfl,⟨nd,rfl⟩⟩;(try exact tN_);have p22:0≤(x6_3:Int):=oT_;have q22:x6_3 < (((rd_T94 l0 x3_1).f1).size:Int):=oT_;have hx22:=bt_at ((rd_T94 l0 x3_1).f1) x6_3;replace p22:=eq_true p22;replace q22:=eq_true q22)|(go_at_call 80;(with_reducible refine (nr_occurs.calls k3 (bt ((rd_T94 l0 x3_1).f1) x6_3) ((rd_T94 l0 x3_1).f0) true _ A23.out).mono ?_);rintro e w' ⟨rfl,⟨nd,rfl⟩⟩;(try exact tN_)))
              repeat (go_quiet (first|(go_at_call 74;(with_reducible refine (nr_Variable.calls (bt ((rd_T94 l0 x3_1).f1) x6_3) true _ A20.out).mono ?_);rintro e w' ⟨rfl,⟨nd,rfl⟩⟩;(try exact tN_);have p22:0≤(x6_3:Int):=oT_;have q22:x6_3 < (((rd_T94 l0 x3_1).f1).size:Int):=oT_;have hx22:=bt_at ((rd_T94 l0 x3_1).f1) x6_3;replace p22:=eq_true p22;replace q22:=eq_true q22)|(go_at_call 80;(with_reducible refine (nr_occurs.calls k3 (bt ((rd_T94 l0 x3_1).f1) x6_3) ((rd_T94 l0 x3_1).f0) true _ A23.out).mono ?_);rintro e w' ⟨rfl,⟨nd,rfl⟩⟩;(try exact tN_)));try go_wp2_with (first|(go_at_call 74;(with_reducible refine (nr_Variable.calls (bt ((rd_T94 l0 x3_1).f1) x6_3) true _ A20.out).mono ?_);rintro e w' ⟨rfl,⟨nd,rfl⟩⟩;(try exact tN_);have p22:0≤(x6_3:Int):=oT_;have q22:x6_3 < (((rd_T94 l0 x3_1).f1).size:Int):=oT_;have hx22:=bt_at ((rd_T94 l0 x3_1).f1) x6_3;replace p22:=eq_true p22;replace q22:=eq_true q22)|(go_at_call 80;(with_reducible refine (nr_occurs.calls k3 (bt ((rd_T94 l0 x3_1).f1) x6_3) ((rd_T94 l0 x3_1).f0) true _ A23.out).mono ?_);rintro e w' ⟨rfl,⟨nd,rfl⟩⟩;(try exact tN_))))
              go_roundg k3
              case measure=>have:=HK1.out;have:=HJ3.out;have:=HK3.out;omega
              case rel=>exact ⟨(wrap64 (x6_3+1)),tS_,H',⟨by have:=HK1.out;have:=HJ3.out;have:=HK3.out;omega⟩,tD_⟩
             ·replace c24:=Bool.eq_false_iff.mpr c24
              subst c24
              have H1:(some false)=some r:=by rw [if_neg (show ¬ (false=true) by decide)] at H;exact H
              clear H
              have H:=H1
              clear H1
              obtain rfl:=Option.some.inj H
              have p19:0≤(x6_3:Int):=oT_
              have q19:x6_3 < (((rd_T94 l0 x3_1).f1).size:Int):=oT_
              have hx19:=bt_at ((rd_T94 l0 x3_1).f1) x6_3
              replace p19:=eq_true p19
              replace q19:=eq_true q19
              go_wp2_with (first|(go_at_call 74;(with_reducible refine (nr_Variable.calls (bt ((rd_T94 l0 x3_1).f1) x6_3) true _ A20.out).mono ?_);rintro e w' ⟨rfl,⟨nd,rfl⟩⟩;(try exact tN_);have p22:0≤(x6_3:Int):=oT_;have q22:x6_3 < (((rd_T94 l0 x3_1).f1).size:Int):=oT_;have hx22:=bt_at ((rd_T94 l0 x3_1).f1) x6_3;replace p22:=eq_true p22;replace q22:=eq_true q22)|(go_at_call 80;(with_reducible refine (nr_occurs.calls k3 (bt ((rd_T94 l0 x3_1).f1) x6_3) ((rd_T94 l0 x3_1).f0) false _ A23.out).mono ?_);rintro e w' ⟨rfl,⟨nd,rfl⟩⟩;(try exact tN_)))
              repeat (go_quiet (first|(go_at_call 74;(with_reducible refine (nr_Variable.calls (bt ((rd_T94 l0 x3_1).f1) x6_3) true _ A20.out).mono ?_);rintro e w' ⟨rfl,⟨nd,rfl⟩⟩;(try exact tN_);have p22:0≤(x6_3:Int):=oT_;have q22:x6_3 < (((rd_T94 l0 x3_1).f1).size:Int):=oT_;have hx22:=bt_at ((rd_T94 l0 x3_1).f1) x6_3;replace p22:=eq_true p22;replace q22:=eq_true q22)|(go_at_call 80;(with_reducible refine (nr_occurs.calls k3 (bt ((rd_T94 l0 x3_1).f1) x6_3) ((rd_T94 l0 x3_1).f0) false _ A23.out).mono ?_);rintro e w' ⟨rfl,⟨nd,rfl⟩⟩;(try exact tN_)));try go_wp2_with (first|(go_at_call 74;(with_reducible refine (nr_Variable.calls (bt ((rd_T94 l0 x3_1).f1) x6_3) true _ A20.out).mono ?_);rintro e w' ⟨rfl,⟨nd,rfl⟩⟩;(try exact tN_);have p22:0≤(x6_3:Int):=oT_;have q22:x6_3 < (((rd_T94 l0 x3_1).f1).size:Int):=oT_;have hx22:=bt_at ((rd_T94 l0 x3_1).f1) x6_3;replace p22:=eq_true p22;replace q22:=eq_true q22)|(go_at_call 80;(with_reducible refine (nr_occurs.calls k3 (bt ((rd_T94 l0 x3_1).f1) x6_3) ((rd_T94 l0 x3_1).f0) false _ A23.out).mono ?_);rintro e w' ⟨rfl,⟨nd,rfl⟩⟩;(try exact tN_))))
              go_ret
              exact ⟨by first|rfl|(simp;done)|(simp [*];done),tD_⟩
            ·replace c21:=Bool.eq_false_iff.mpr c21
             subst c21
             have H1:(nr_Rules.l1 k3 l0 x3_1 ((rd_T94 l0 x3_1).f0) ((rd_T94 l0 x3_1).f1) (wrap64 (x6_3+1)))=some r:=by rw [if_neg (show ¬ (false=true) by decide)] at H;exact H
             clear H
             have H:=H1
             clear H1
             have H':=Aside0.mk H
             clear H
             have p19:0≤(x6_3:Int):=oT_
             have q19:x6_3 < (((rd_T94 l0 x3_1).f1).size:Int):=oT_
             have hx19:=bt_at ((rd_T94 l0 x3_1).f1) x6_3
             replace p19:=eq_true p19
             replace q19:=eq_true q19
             go_wp2_with (first|(go_at_call 74;(with_reducible refine (nr_Variable.calls (bt ((rd_T94 l0 x3_1).f1) x6_3) false _ A20.out).mono ?_);rintro e w' ⟨rfl,⟨nd,rfl⟩⟩;(try exact tN_)))
             repeat (go_quiet (first|(go_at_call 74;(with_reducible refine (nr_Variable.calls (bt ((rd_T94 l0 x3_1).f1) x6_3) false _ A20.out).mono ?_);rintro e w' ⟨rfl,⟨nd,rfl⟩⟩;(try exact tN_)));try go_wp2_with (first|(go_at_call 74;(with_reducible refine (nr_Variable.calls (bt ((rd_T94 l0 x3_1).f1) x6_3) false _ A20.out).mono ?_);rintro e w' ⟨rfl,⟨nd,rfl⟩⟩;(try exact tN_))))
             go_roundg k3
             case measure=>have:=HK1.out;have:=HJ3.out;have:=HK3.out;omega
             case rel=>exact ⟨(wrap64 (x6_3+1)),tS_,H',⟨by have:=HK1.out;have:=HJ3.out;have:=HK3.out;omega⟩,tD_⟩
           ·rw [if_neg c18] at H
            exact absurd H (by simp)
          ·rw [if_neg c17] at H
           have c17b0:decide (x6_3 < (((rd_T94 l0 x3_1).f1).size:Int))=false:=decide_eq_false c17
           clear c17
           have H':=Aside0.mk H
           clear H
           go_wp2
           repeat (go_quiet (fail);try go_wp2)
           go_roundg k3
           case measure=>have:=HK1.out;have:=HJ3.out;have:=HK3.out;omega
           case rel=>exact ⟨(wrap64 (x3_1+1)),tS_,H',⟨by have:=HK1.out;have:=HJ3.out;have:=HK3.out;omega⟩,tD_⟩
    ·rw [if_neg c3] at H
     exact absurd H (by simp)
   ·rw [if_neg c2] at H
    have c2b0:decide (x3_1 < (l0.length:Int))=false:=decide_eq_false c2
    clear c2
    obtain rfl:=Option.some.inj H
    go_wp2
    repeat (go_quiet (fail);try go_wp2)
    go_ret
    exact ⟨by first|rfl|(simp;done)|(simp [*];done),tD_⟩
def nr_insert.l0:Nat→List ByteArray→ByteArray→Int→Option (List ByteArray)
 | 0,_,_,_=>none
 | k+1,x0,x1,x5=>if x5 < (x0.length:Int) then (if 0≤x5 then (if (Op.bytesLess ((rdOf ByteArray.empty x0 x5).toList) x1.toList)=true then (nr_insert.l0 k x0 x1 (wrap64 (x5+1))) else (if (rdOf ByteArray.empty x0 x5).toList=x1.toList then (some x0) else (if x5≤(x0.length:Int) then ((some (x0.take (x5:Int).toNat:List ByteArray)).bind fun y227=>(if ([]:List ByteArray).length+y227.length < 8796093022208 then ((some (([]:List ByteArray)++y227:List ByteArray)).bind fun y231=>(if y231.length < 8796093022208 then ((some (y231++[x1]:List ByteArray)).bind fun y234=>((some (x0.drop (x5:Int).toNat:List ByteArray)).bind fun y237=>(if y234.length+y237.length < 8796093022208 then (some (y234++y237)) else (none)))) else (none))) else (none))) else (none)))) else (none)) else (if 0≤x5 then (if x5≤(x0.length:Int) then ((some (x0.take (x5:Int).toNat:List ByteArray)).bind fun y244=>(if ([]:List ByteArray).length+y244.length < 8796093022208 then ((some (([]:List ByteArray)++y244:List ByteArray)).bind fun y248=>(if y248.length < 8796093022208 then ((some (y248++[x1]:List ByteArray)).bind fun y251=>((some (x0.drop (x5:Int).toNat:List ByteArray)).bind fun y254=>(if y251.length+y254.length < 8796093022208 then (some (y251++y254)) else (none)))) else (none))) else (none))) else (none)) else (none))
def nr_insert.f (k:Nat) (l0:List ByteArray) (a1:ByteArray):Option (List ByteArray):=nr_insert.l0 k l0 a1 0
set_option maxHeartbeats 8000000 in
set_option maxRecDepth 100000 in
theorem nr_insert.calls (k:Nat) (P0_:Nat→Prop) (u9000_:Value) (l0:List ByteArray) (a1:ByteArray) (r:List ByteArray) (w0 w:World) (hB:Below w0.heap.size w0 w) (ho0:Kd.R Kd.string 9 w w0.heap.size P0_ u9000_ l0) (h:nr_insert.f k l0 a1=some r) :
  Calls Tryz.prog 103 #[u9000_,.string a1] w fun e w'=>∃ v0_:Value,e=.returned (v0_)∧Kd.R Kd.string 9 w' w0.heap.size (fun k_=>(P0_ k_∨w.heap.size≤k_)) v0_ r∧Below w0.heap.size w0 w'∧Kept w w' (fun k_=>P0_ k_):=by
 have HO0:=Aside0.mk (show Kd.R Kd.string 9 w w0.heap.size (fun k_=>(P0_ k_∨w.heap.size≤k_)) u9000_ l0 from Kd.R_mono ho0 (fun k_ hk=>(.inl hk)))
 have HK:=Aside0.mk (Kept.refl w (fun k_=>P0_ k_))
 have HW0:=Aside0.mk hB.size
 have HB:=Aside0.mk hB
 clear hB
 have H:(nr_insert.l0 k l0 a1 0)=some r:=h
 clear h
 have H':=Aside0.mk H
 clear H
 go_enter Tryz.func103,Tryz.ntmps103
 go_wp2
 go_loopg [5] k (fun kq v5 w'=>∃ (x5_1:Int),v5=.int .i64 x5_1∧Aside0 (nr_insert.l0 kq l0 a1 x5_1=some r)∧Aside0 (kq≤k)∧Aside0 (Kd.R Kd.string 9 w' w0.heap.size (fun k_=>(P0_ k_∨w.heap.size≤k_)) u9000_ l0)∧Aside0 (Kept w w' (fun k_=>P0_ k_))∧Aside0 (Below w0.heap.size w0 w'))
 case atStart=>exact ⟨(0),tS_,H',⟨Nat.le_refl _⟩,⟨tR_ HO0⟩,⟨by repeat (first|(with_reducible first|exact HK.out|apply Kept.alloc|apply Kept.drewN|apply Kept.drew)|exact HK.out)⟩,⟨tB_ HB⟩⟩
 case round =>
  clear H'
  try clear c1
  try clear p2
  obtain ⟨x5_1,rfl,HA,HK1,HO_0,HK,HB⟩:=hrel
  cases gk with
  | zero=>exact absurd HA.out (by simp [nr_insert.l0])
  | succ k1 =>
   have H:=HA.out
   clear HA
   simp only [nr_insert.l0] at H
   by_cases c3:x5_1 < (l0.length:Int)
   ·rw [if_pos c3] at H
    have c3b0:decide (x5_1 < (l0.length:Int))=true:=decide_eq_true c3
    clear c3
    by_cases c4:0≤x5_1
    ·rw [if_pos c4] at H
     have c4b0:decide (0≤x5_1)=true:=decide_eq_true c4
     clear c4
     by_cases c5:(Op.bytesLess ((rdOf ByteArray.empty l0 x5_1).toList) a1.toList)=true
     ·rw [if_pos c5] at H
      have c5b0:(Op.bytesLess ((rdOf ByteArray.empty l0 x5_1).toList) a1.toList)=true:=c5
      clear c5
      have H':=Aside0.mk H
      clear H
      obtain ⟨Ao6,co6,eo6⟩:=Kd.R_slice HO_0.out
      subst eo6
      have p225:0≤(x5_1:Int):=oT_
      have q225:x5_1 < (l0.length:Int):=oT_
      obtain ⟨ad225,e225,hx225_0⟩:=Kd.at_string (Kd.R_reads' HO_0.out).2.2 x5_1 p225 q225
      cases e225
      replace p225:=eq_true p225
      replace q225:=eq_true q225
      go_wp2
      go_roundg k1
      case measure=>have:=HK1.out;omega
      case rel=>exact ⟨(wrap64 (x5_1+1)),tS_,H',⟨by have:=HK1.out;omega⟩,⟨tR_ HO_0⟩,⟨by repeat (first|(with_reducible first|exact HK.out|apply Kept.alloc|apply Kept.drewN|apply Kept.drew)|exact HK.out)⟩,⟨tB_ HB⟩⟩
     ·rw [if_neg c5] at H
      have c5b0:(Op.bytesLess ((rdOf ByteArray.empty l0 x5_1).toList) a1.toList)=false:=by simpa using c5
      clear c5
      by_cases c7:(rdOf ByteArray.empty l0 x5_1).toList=a1.toList
      ·rw [if_pos c7] at H
       have c7b0:((rdOf ByteArray.empty l0 x5_1).toList == a1.toList)=true:=beq_iff_eq.mpr c7
       have c7b1:((rdOf ByteArray.empty l0 x5_1).toList != a1.toList)=false:=bne_eq_false_iff_eq.mpr c7
       clear c7
       obtain rfl:=Option.some.inj H
       obtain ⟨Ao8,co8,eo8⟩:=Kd.R_slice HO_0.out
       subst eo8
       have p225:0≤(x5_1:Int):=oT_
       have q225:x5_1 < (l0.length:Int):=oT_
       obtain ⟨ad225,e225,hx225_0⟩:=Kd.at_string (Kd.R_reads' HO_0.out).2.2 x5_1 p225 q225
       cases e225
       replace p225:=eq_true p225
       replace q225:=eq_true q225
       have p226:0≤(x5_1:Int):=oT_
       have q226:x5_1 < (l0.length:Int):=oT_
       obtain ⟨ad226,e226,hx226_0⟩:=Kd.at_string (Kd.R_reads' HO_0.out).2.2 x5_1 p226 q226
       obtain rfl:ad225=ad226:=(by injection e226)
       replace p226:=eq_true p226
       replace q226:=eq_true q226
       go_wp2
       go_ret
       exact ⟨_,tE_,tR_ HO_0,tB_ HB,by repeat (first|(with_reducible first|exact HK.out|apply Kept.alloc|apply Kept.drewN|apply Kept.drew)|exact HK.out)⟩
      ·rw [if_neg c7] at H
       have c7b0:((rdOf ByteArray.empty l0 x5_1).toList == a1.toList)=false:=beq_eq_false_iff_ne.mpr c7
       have c7b1:((rdOf ByteArray.empty l0 x5_1).toList != a1.toList)=true:=bne_iff_ne.mpr c7
       have c9b0:=eq_true (oT_:0≤x5_1)
       by_cases c10:x5_1≤(l0.length:Int)
       ·rw [if_pos c10] at H
        have c10b0:=eq_true c10
        have c10b1:decide (x5_1≤(l0.length:Int))=true:=decide_eq_true c10
        clear c10
        obtain ⟨y227,hy227⟩:∃ y_:List ByteArray,y_=(l0.take (x5_1:Int).toNat):=⟨_,rfl⟩
        replace H:(if ([]:List ByteArray).length+y227.length < 8796093022208 then ((some (([]:List ByteArray)++y227:List ByteArray)).bind fun y231=>(if y231.length < 8796093022208 then ((some (y231++[a1]:List ByteArray)).bind fun y234=>((some (l0.drop (x5_1:Int).toNat:List ByteArray)).bind fun y237=>(if y234.length+y237.length < 8796093022208 then (some (y234++y237)) else (none)))) else (none))) else (none))=some r:=by first|(rw [hy227];with_reducible exact H)|(have H2_:=(Option.bind_some _ _).symm.trans H;rw [hy227];with_reducible exact H2_)|(have H2_:=(Option.bind_some _ _).symm.trans H;with_reducible exact H2_)|with_reducible exact H|(rw [hy227];exact H)|exact H
        have Ny227:=Aside0.mk hy227
        clear hy227
        by_cases c11:([]:List ByteArray).length+y227.length < 8796093022208
        ·rw [if_pos c11] at H
         have LMc11:=Aside0.mk c11
         clear c11
         obtain ⟨y231,hy231⟩:∃ y_:List ByteArray,y_=(([]:List ByteArray)++y227):=⟨_,rfl⟩
         replace H:(if y231.length < 8796093022208 then ((some (y231++[a1]:List ByteArray)).bind fun y234=>((some (l0.drop (x5_1:Int).toNat:List ByteArray)).bind fun y237=>(if y234.length+y237.length < 8796093022208 then (some (y234++y237)) else (none)))) else (none))=some r:=by first|(rw [hy231];with_reducible exact H)|(have H2_:=(Option.bind_some _ _).symm.trans H;rw [hy231];with_reducible exact H2_)|(have H2_:=(Option.bind_some _ _).symm.trans H;with_reducible exact H2_)|with_reducible exact H|(rw [hy231];exact H)|exact H
         have Ny231:=Aside0.mk hy231
         clear hy231
         by_cases c12:y231.length < 8796093022208
         ·rw [if_pos c12] at H
          have LMc12:=Aside0.mk c12
          clear c12
          obtain ⟨y234,hy234⟩:∃ y_:List ByteArray,y_=(y231++[a1]):=⟨_,rfl⟩
          replace H:((some (l0.drop (x5_1:Int).toNat:List ByteArray)).bind fun y237=>(if y234.length+y237.length < 8796093022208 then (some (y234++y237)) else (none)))=some r:=by first|(rw [hy234];with_reducible exact H)|(have H2_:=(Option.bind_some _ _).symm.trans H;rw [hy234];with_reducible exact H2_)|(have H2_:=(Option.bind_some _ _).symm.trans H;with_reducible exact H2_)|with_reducible exact H|(rw [hy234];exact H)|exact H
          have Ny234:=Aside0.mk hy234
          clear hy234
          have c13b0:=eq_true (oT_:0≤x5_1)
          have c14b0:=eq_true (oT_:x5_1≤(l0.length:Int))
          obtain ⟨y237,hy237⟩:∃ y_:List ByteArray,y_=(l0.drop (x5_1:Int).toNat):=⟨_,rfl⟩
          replace H:(if y234.length+y237.length < 8796093022208 then (some (y234++y237)) else (none))=some r:=by first|(rw [hy237];with_reducible exact H)|(have H2_:=(Option.bind_some _ _).symm.trans H;rw [hy237];with_reducible exact H2_)|(have H2_:=(Option.bind_some _ _).symm.trans H;with_reducible exact H2_)|with_reducible exact H|(rw [hy237];exact H)|exact H
          have Ny237:=Aside0.mk hy237
          clear hy237
          by_cases c15:y234.length+y237.length < 8796093022208
          ·rw [if_pos c15] at H
           have LMc15:=Aside0.mk c15
           clear c15
           obtain ⟨y241,hy241⟩:∃ y_:List ByteArray,y_=(y234++y237):=⟨_,rfl⟩
           replace H:(some y241)=some r:=by first|(rw [hy241];with_reducible exact H)|(have H2_:=(Option.bind_some _ _).symm.trans H;rw [hy241];with_reducible exact H2_)|(have H2_:=(Option.bind_some _ _).symm.trans H;with_reducible exact H2_)|with_reducible exact H|(rw [hy241];exact H)|exact H
           have Ny241:=Aside0.mk hy241
           clear hy241
           obtain rfl:=Option.some.inj H
           obtain ⟨Ao16,co16,eo16⟩:=Kd.R_slice HO_0.out
           subst eo16
           have p225:0≤(x5_1:Int):=oT_
           have q225:x5_1 < (l0.length:Int):=oT_
           obtain ⟨ad225,e225,hx225_0⟩:=Kd.at_string (Kd.R_reads' HO_0.out).2.2 x5_1 p225 q225
           cases e225
           replace p225:=eq_true p225
           replace q225:=eq_true q225
           have p226:0≤(x5_1:Int):=oT_
           have q226:x5_1 < (l0.length:Int):=oT_
           obtain ⟨ad226,e226,hx226_0⟩:=Kd.at_string (Kd.R_reads' HO_0.out).2.2 x5_1 p226 q226
           obtain rfl:ad225=ad226:=(by injection e226)
           replace p226:=eq_true p226
           replace q226:=eq_true q226
           have q17:(x5_1:Int)≤((l0.length:Int):Int):=oT_
           obtain ⟨i017,hi017,_,hsz17,_⟩:=info_parts info9
           have hroom17:l0.length≤co16:=(Kd.R_reads' HO_0.out).2.1
           have hC17:Kd.C Kd.string _ (some ad225) l0.length l0:=(Kd.R_reads' HO_0.out).2.2
           have hcut17:=cut_to (P:=Tryz.prog) 36 9 .i64 Tryz.underlying36 hi017 (some ad225) l0.length co16 x5_1 (oT_) q17 hroom17
           have hr17:=Kd.C_take (m:=(x5_1:Int).toNat) hC17 (by omega)
           have hy17:y227.length=(x5_1:Int).toNat:=(by rw [Ny227.out,List.length_take];omega)
           rw [←Ny227.out] at hr17
           rw [←hy17] at hcut17
           have HR230:=Aside0.mk hr17
           have HC230:=Aside0.mk (show y227.length≤co16 from by omega)
           clear hr17 hC17 hroom17 hi017 hsz17
           have KY17:=Aside0.mk hy17
           clear hy17
           have KL17:=Aside0.mk (show (x5_1:Int).toNat≤l0.length from by omega)
           replace q17:=eq_true q17
           go_wp2_with (first|((with_reducible refine gate_builtin (b:=.append) (xs:=#[.tmp 34,.tmp 37]) rfl ?_);at_builtin;refine Kd.R_append_rows Kd.string (w0:=w0) w0.heap.size rfl (.tmp 34) (.tmp 37) 36 9 (.string ⟨#[]⟩) 16 rfl Tryz.underlying36 info9 rfl (by decide) (by omega) (.slice none 0 0) ([]:List ByteArray) y227 _ _ _ (fun k_=>(P0_ k_∨w.heap.size≤k_)∧some k_≠(.slice (some ad225) l0.length co16:Value).ownBlock) (fun _=>False) rfl rfl ?aO ?aR (fun _ _ h=>h) (fun _ h=>h.elim) ?aF ?aB ?aS ?aL ?_;(case aR=>repeat (first|exact (by repeat (first|(with_reducible exact HR230.out)|(with_reducible refine Kd.C_alloc ?_ _)|(with_reducible refine Kd.C_drewN ?_ _)|(with_reducible refine Kd.C_drew ?_)|exact HR230.out))|(with_reducible refine Kd.C_alloc ?_ _)|(with_reducible refine Kd.C_drewN ?_ _)|(with_reducible refine Kd.C_drew ?_)));(case aB=>exact (tB_ HB));(case aF=>exact (fun k_ hk=>⟨(.inr (Nat.le_trans (by first|exact HK.out.1|exact (show Kept w _ (fun k_=>P0_ k_) from by repeat (first|(with_reducible first|exact HK.out|apply Kept.alloc|apply Kept.drewN|apply Kept.drew)|exact HK.out)).1) hk)),Kd.fresh' (Kd.R_lt (tR_ HO_0)) k_ hk⟩));(case aO=>exact ((Kd.R_nil _ _ _ _ (fun k_=>(P0_ k_∨w.heap.size≤k_)∧some k_≠(.slice (some ad225) l0.length co16:Value).ownBlock))));(case aS=>exact (below_size (tB_ HB)));(case aL=>have:=LMc11.out;omega);intro v232 w18 ho hb hg hat;rw [←Ny231.out] at ho;have n0_:=Aside0.mk (Kd.R_after (Kd.R_apart_nil (tR_ HO_0)) hg hat);have n1_:=Aside0.mk (hb);have n2_:=Aside0.mk (Kept.of_grown (S:=(fun k_=>P0_ k_)) hg (by repeat (first|(with_reducible first|exact HK.out|apply Kept.alloc|apply Kept.drewN|apply Kept.drew)|exact HK.out)) (fun k_ e_=>by simp [Value.ownBlock] at e_));have n3_:=Aside0.mk ((show Kd.C Kd.string w18 (some ad225) y227.length y227 from by rw [Ny227.out];exact Kd.C_take (m:=(x5_1:Int).toNat) ((Kd.R_reads' (Kd.R_after (Kd.R_apart_nil (tR_ HO_0)) hg hat)).2.2) KL17.out));have n4_:=Aside0.mk (ho);clear HO_0;clear HB;clear HK;clear HR230;have HO_0:=n0_;have HB:=n1_;have HK:=n2_;have HR230:=n3_;have HO233:=n4_;clear n0_ n1_ n2_ n3_ n4_;clear ho hb hg hat)|((with_reducible refine gate_builtin (b:=.append) (xs:=#[.tmp 39,.tmp 41]) rfl ?_);at_builtin;refine Kd.R_append Kd.string (w0:=w0) w0.heap.size rfl (.tmp 39) (.tmp 41) 36 9 (.string ⟨#[]⟩) 16 rfl Tryz.underlying36 info9 rfl (by decide) (by omega) v232 y231 a1 [.string a1] (fun k_=>(P0_ k_∨w.heap.size≤k_)∧some k_≠(.slice (some ad225) l0.length co16:Value).ownBlock) (fun _=>False) rfl rfl ?aP (fun _ hk=>hk.elim) ?aF ?aO ?aB ?aS ?aL ?_;(case aP=>exact rfl);(case aB=>exact (tB_ HB));(case aF=>exact (fun k_ hk=>⟨(.inr (Nat.le_trans (by first|exact HK.out.1|exact (show Kept w _ (fun k_=>P0_ k_) from by repeat (first|(with_reducible first|exact HK.out|apply Kept.alloc|apply Kept.drewN|apply Kept.drew)|exact HK.out)).1) hk)),Kd.fresh' (Kd.R_lt (tR_ HO_0)) k_ hk⟩));(case aO=>exact (tR_ HO233));(case aS=>exact (below_size (tB_ HB)));(case aL=>have:=LMc12.out;omega);intro v235 w19 ho hb hg hat;rw [←Ny234.out] at ho;have n0_:=Aside0.mk (Kd.R_after (ok:=(fun k_=>(P0_ k_∨w.heap.size≤k_))) (tR_ HO_0) hg hat);have n1_:=Aside0.mk (hb);have n2_:=Aside0.mk (Kept.of_grown (S:=(fun k_=>P0_ k_)) hg (by repeat (first|(with_reducible first|exact HK.out|apply Kept.alloc|apply Kept.drewN|apply Kept.drew)|exact HK.out)) (fun k_ e_=>(HO233.out.1 k_ e_).1));have n3_:=Aside0.mk ((show Kd.C Kd.string w19 (some ad225) y227.length y227 from by rw [Ny227.out];exact Kd.C_take (m:=(x5_1:Int).toNat) ((Kd.R_reads' (Kd.R_after (ok:=(fun k_=>(P0_ k_∨w.heap.size≤k_))) (tR_ HO_0) hg hat)).2.2) KL17.out));have n4_:=Aside0.mk (ho);clear HO_0;clear HB;clear HK;clear HR230;clear HO233;have HO_0:=n0_;have HB:=n1_;have HK:=n2_;have HR230:=n3_;have HO236:=n4_;clear n0_ n1_ n2_ n3_ n4_;clear ho hb hg hat;have q20:(x5_1:Int)≤((l0.length:Int):Int):=oT_;obtain ⟨i020,hi020,_,hsz20,_⟩:=info_parts info9;have hroom20:l0.length≤co16:=(Kd.R_reads' HO_0.out).2.1;have hC20:Kd.C Kd.string _ (some ad225) l0.length l0:=(Kd.R_reads' HO_0.out).2.2;have q020:(0:Int)≤(x5_1:Int):=oT_;have hcut20:=cut_from (P:=Tryz.prog) 36 9 .i64 Tryz.underlying36 hi020 1 hsz20 (some ad225) l0.length co16 x5_1 q020 q20;have hr20:=Kd.C_drop (m:=(x5_1:Int).toNat) (c:=co16) hC20 (by omega) hroom20;obtain ⟨A20,hA20⟩:∃ A1,A1=(if co16=(x5_1:Int).toNat then (some ad225) else ((some ad225):Option Addr).map (·.add ((x5_1:Int).toNat * 1))):=⟨_,rfl⟩;obtain ⟨c20,hc20⟩:∃ c1,c1=co16 - (x5_1:Int).toNat:=⟨_,rfl⟩;have hy20:y237.length=l0.length - (x5_1:Int).toNat:=(by rw [Ny237.out,List.length_drop]<;>omega);rw [show (l0).drop (x5_1:Int).toNat=y237 from Ny237.out.symm] at hr20;replace hr20:Kd.C Kd.string _ A20 y237.length y237:=(by rw [hA20];exact hr20);rw [←hy20,←hA20,←hc20] at hcut20;have HR240:=Aside0.mk hr20;have HC240:=Aside0.mk (show y237.length≤c20 from by rw [hy20,hc20];exact Nat.sub_le_sub_right hroom20 _);clear hr20 hC20 hroom20 hi020 hsz20 hc20;have KY20:=Aside0.mk hy20;have KA20:=Aside0.mk hA20;clear hy20 hA20;have KL20:=Aside0.mk (show (x5_1:Int).toNat≤l0.length from by omega);replace q20:=eq_true q20)|((with_reducible refine gate_builtin (b:=.append) (xs:=#[.tmp 43,.tmp 46]) rfl ?_);at_builtin;refine Kd.R_append_rows Kd.string (w0:=w0) w0.heap.size rfl (.tmp 43) (.tmp 46) 36 9 (.string ⟨#[]⟩) 16 rfl Tryz.underlying36 info9 rfl (by decide) (by omega) v235 y234 y237 _ _ _ (fun k_=>(P0_ k_∨w.heap.size≤k_)∧some k_≠(.slice (some ad225) l0.length co16:Value).ownBlock) (fun _=>False) rfl rfl ?aO ?aR (fun _ _ h=>h) (fun _ h=>h.elim) ?aF ?aB ?aS ?aL ?_;(case aR=>repeat (first|exact (by repeat (first|(with_reducible exact HR240.out)|(with_reducible refine Kd.C_alloc ?_ _)|(with_reducible refine Kd.C_drewN ?_ _)|(with_reducible refine Kd.C_drew ?_)|exact HR240.out))|(with_reducible refine Kd.C_alloc ?_ _)|(with_reducible refine Kd.C_drewN ?_ _)|(with_reducible refine Kd.C_drew ?_)));(case aB=>exact (tB_ HB));(case aF=>exact (fun k_ hk=>⟨(.inr (Nat.le_trans (by first|exact HK.out.1|exact (show Kept w _ (fun k_=>P0_ k_) from by repeat (first|(with_reducible first|exact HK.out|apply Kept.alloc|apply Kept.drewN|apply Kept.drew)|exact HK.out)).1) hk)),Kd.fresh' (Kd.R_lt (tR_ HO_0)) k_ hk⟩));(case aO=>exact (tR_ HO236));(case aS=>exact (below_size (tB_ HB)));(case aL=>have:=LMc15.out;omega);intro v242 w21 ho hb hg hat;rw [←Ny241.out] at ho;have n0_:=Aside0.mk (Kd.R_after (ok:=(fun k_=>(P0_ k_∨w.heap.size≤k_))) (tR_ HO_0) hg hat);have n1_:=Aside0.mk (hb);have n2_:=Aside0.mk (Kept.of_grown (S:=(fun k_=>P0_ k_)) hg (by repeat (first|(with_reducible first|exact HK.out|apply Kept.alloc|apply Kept.drewN|apply Kept.drew)|exact HK.out)) (fun k_ e_=>(HO236.out.1 k_ e_).1));have n3_:=Aside0.mk ((show Kd.C Kd.string w21 (some ad225) y227.length y227 from by rw [Ny227.out];exact Kd.C_take (m:=(x5_1:Int).toNat) ((Kd.R_reads' (Kd.R_after (ok:=(fun k_=>(P0_ k_∨w.heap.size≤k_))) (tR_ HO_0) hg hat)).2.2) KL17.out));have n4_:=Aside0.mk ((show Kd.C Kd.string w21 A20 y237.length y237 from by rw [Ny237.out,KA20.out];exact Kd.C_drop (m:=(x5_1:Int).toNat) (c:=co16) ((Kd.R_reads' (Kd.R_after (ok:=(fun k_=>(P0_ k_∨w.heap.size≤k_))) (tR_ HO_0) hg hat)).2.2) KL20.out ((Kd.R_reads' (Kd.R_after (ok:=(fun k_=>(P0_ k_∨w.heap.size≤k_))) (tR_ HO_0) hg hat)).2.1)));have n5_:=Aside0.mk (ho);clear HO_0;clear HB;clear HK;clear HR230;clear HR240;clear HO236;have HO_0:=n0_;have HB:=n1_;have HK:=n2_;have HR230:=n3_;have HR240:=n4_;have HO243:=n5_;clear n0_ n1_ n2_ n3_ n4_ n5_;clear ho hb hg hat))
           go_ret
           exact ⟨_,tE_,by (with_reducible repeat (first|apply Kd.R_alloc|apply Kd.R_drewN|apply Kd.R_drew));exact Kd.R_mono HO243.out (fun _ hk=>hk.1),tB_ HB,by repeat (first|(with_reducible first|exact HK.out|apply Kept.alloc|apply Kept.drewN|apply Kept.drew)|exact HK.out)⟩
          ·rw [if_neg c15] at H
           exact absurd H (by simp)
         ·rw [if_neg c12] at H
          exact absurd H (by simp)
        ·rw [if_neg c11] at H
         exact absurd H (by simp)
       ·rw [if_neg c10] at H
        exact absurd H (by simp)
    ·rw [if_neg c4] at H
     exact absurd H (by simp)
   ·rw [if_neg c3] at H
    have c3b0:decide (x5_1 < (l0.length:Int))=false:=decide_eq_false c3
    clear c3
    by_cases c22:0≤x5_1
    ·rw [if_pos c22] at H
     have c22b0:=eq_true c22
     have c22b1:decide (0≤x5_1)=true:=decide_eq_true c22
     clear c22
     by_cases c23:x5_1≤(l0.length:Int)
     ·rw [if_pos c23] at H
      have c23b0:=eq_true c23
      have c23b1:decide (x5_1≤(l0.length:Int))=true:=decide_eq_true c23
      clear c23
      obtain ⟨y244,hy244⟩:∃ y_:List ByteArray,y_=(l0.take (x5_1:Int).toNat):=⟨_,rfl⟩
      replace H:(if ([]:List ByteArray).length+y244.length < 8796093022208 then ((some (([]:List ByteArray)++y244:List ByteArray)).bind fun y248=>(if y248.length < 8796093022208 then ((some (y248++[a1]:List ByteArray)).bind fun y251=>((some (l0.drop (x5_1:Int).toNat:List ByteArray)).bind fun y254=>(if y251.length+y254.length < 8796093022208 then (some (y251++y254)) else (none)))) else (none))) else (none))=some r:=by first|(rw [hy244];with_reducible exact H)|(have H2_:=(Option.bind_some _ _).symm.trans H;rw [hy244];with_reducible exact H2_)|(have H2_:=(Option.bind_some _ _).symm.trans H;with_reducible exact H2_)|with_reducible exact H|(rw [hy244];exact H)|exact H
      have Ny244:=Aside0.mk hy244
      clear hy244
      by_cases c24:([]:List ByteArray).length+y244.length < 8796093022208
      ·rw [if_pos c24] at H
       have LMc24:=Aside0.mk c24
       clear c24
       obtain ⟨y248,hy248⟩:∃ y_:List ByteArray,y_=(([]:List ByteArray)++y244):=⟨_,rfl⟩
       replace H:(if y248.length < 8796093022208 then ((some (y248++[a1]:List ByteArray)).bind fun y251=>((some (l0.drop (x5_1:Int).toNat:List ByteArray)).bind fun y254=>(if y251.length+y254.length < 8796093022208 then (some (y251++y254)) else (none)))) else (none))=some r:=by first|(rw [hy248];with_reducible exact H)|(have H2_:=(Option.bind_some _ _).symm.trans H;rw [hy248];with_reducible exact H2_)|(have H2_:=(Option.bind_some _ _).symm.trans H;with_reducible exact H2_)|with_reducible exact H|(rw [hy248];exact H)|exact H
       have Ny248:=Aside0.mk hy248
       clear hy248
       by_cases c25:y248.length < 8796093022208
       ·rw [if_pos c25] at H
        have LMc25:=Aside0.mk c25
        clear c25
        obtain ⟨y251,hy251⟩:∃ y_:List ByteArray,y_=(y248++[a1]):=⟨_,rfl⟩
        replace H:((some (l0.drop (x5_1:Int).toNat:List ByteArray)).bind fun y254=>(if y251.length+y254.length < 8796093022208 then (some (y251++y254)) else (none)))=some r:=by first|(rw [hy251];with_reducible exact H)|(have H2_:=(Option.bind_some _ _).symm.trans H;rw [hy251];with_reducible exact H2_)|(have H2_:=(Option.bind_some _ _).symm.trans H;with_reducible exact H2_)|with_reducible exact H|(rw [hy251];exact H)|exact H
        have Ny251:=Aside0.mk hy251
        clear hy251
        have c26b0:=eq_true (oT_:0≤x5_1)
        have c27b0:=eq_true (oT_:x5_1≤(l0.length:Int))
        obtain ⟨y254,hy254⟩:∃ y_:List ByteArray,y_=(l0.drop (x5_1:Int).toNat):=⟨_,rfl⟩
        replace H:(if y251.length+y254.length < 8796093022208 then (some (y251++y254)) else (none))=some r:=by first|(rw [hy254];with_reducible exact H)|(have H2_:=(Option.bind_some _ _).symm.trans H;rw [hy254];with_reducible exact H2_)|(have H2_:=(Option.bind_some _ _).symm.trans H;with_reducible exact H2_)|with_reducible exact H|(rw [hy254];exact H)|exact H
        have Ny254:=Aside0.mk hy254
        clear hy254
        by_cases c28:y251.length+y254.length < 8796093022208
        ·rw [if_pos c28] at H
         have LMc28:=Aside0.mk c28
         clear c28
         obtain ⟨y258,hy258⟩:∃ y_:List ByteArray,y_=(y251++y254):=⟨_,rfl⟩
         replace H:(some y258)=some r:=by first|(rw [hy258];with_reducible exact H)|(have H2_:=(Option.bind_some _ _).symm.trans H;rw [hy258];with_reducible exact H2_)|(have H2_:=(Option.bind_some _ _).symm.trans H;with_reducible exact H2_)|with_reducible exact H|(rw [hy258];exact H)|exact H
         have Ny258:=Aside0.mk hy258
         clear hy258
         obtain rfl:=Option.some.inj H
         obtain ⟨Ao29,co29,eo29⟩:=Kd.R_slice HO_0.out
         subst eo29
         have q30:(x5_1:Int)≤((l0.length:Int):Int):=oT_
         obtain ⟨i030,hi030,_,hsz30,_⟩:=info_parts info9
         have hroom30:l0.length≤co29:=(Kd.R_reads' HO_0.out).2.1
         have hC30:Kd.C Kd.string _ Ao29 l0.length l0:=(Kd.R_reads' HO_0.out).2.2
         have hcut30:=cut_to (P:=Tryz.prog) 36 9 .i64 Tryz.underlying36 hi030 Ao29 l0.length co29 x5_1 (oT_) q30 hroom30
         have hr30:=Kd.C_take (m:=(x5_1:Int).toNat) hC30 (by omega)
         have hy30:y244.length=(x5_1:Int).toNat:=(by rw [Ny244.out,List.length_take];omega)
         rw [←Ny244.out] at hr30
         rw [←hy30] at hcut30
         have HR247:=Aside0.mk hr30
         have HC247:=Aside0.mk (show y244.length≤co29 from by omega)
         clear hr30 hC30 hroom30 hi030 hsz30
         have KY30:=Aside0.mk hy30
         clear hy30
         have KL30:=Aside0.mk (show (x5_1:Int).toNat≤l0.length from by omega)
         replace q30:=eq_true q30
         go_wp2_with (first|((with_reducible refine gate_builtin (b:=.append) (xs:=#[.tmp 34,.tmp 37]) rfl ?_);at_builtin;refine Kd.R_append_rows Kd.string (w0:=w0) w0.heap.size rfl (.tmp 34) (.tmp 37) 36 9 (.string ⟨#[]⟩) 16 rfl Tryz.underlying36 info9 rfl (by decide) (by omega) (.slice none 0 0) ([]:List ByteArray) y244 _ _ _ (fun k_=>(P0_ k_∨w.heap.size≤k_)∧some k_≠(.slice Ao29 l0.length co29:Value).ownBlock) (fun _=>False) rfl rfl ?aO ?aR (fun _ _ h=>h) (fun _ h=>h.elim) ?aF ?aB ?aS ?aL ?_;(case aR=>repeat (first|exact (by repeat (first|(with_reducible exact HR247.out)|(with_reducible refine Kd.C_alloc ?_ _)|(with_reducible refine Kd.C_drewN ?_ _)|(with_reducible refine Kd.C_drew ?_)|exact HR247.out))|(with_reducible refine Kd.C_alloc ?_ _)|(with_reducible refine Kd.C_drewN ?_ _)|(with_reducible refine Kd.C_drew ?_)));(case aB=>exact (tB_ HB));(case aF=>exact (fun k_ hk=>⟨(.inr (Nat.le_trans (by first|exact HK.out.1|exact (show Kept w _ (fun k_=>P0_ k_) from by repeat (first|(with_reducible first|exact HK.out|apply Kept.alloc|apply Kept.drewN|apply Kept.drew)|exact HK.out)).1) hk)),Kd.fresh' (Kd.R_lt (tR_ HO_0)) k_ hk⟩));(case aO=>exact ((Kd.R_nil _ _ _ _ (fun k_=>(P0_ k_∨w.heap.size≤k_)∧some k_≠(.slice Ao29 l0.length co29:Value).ownBlock))));(case aS=>exact (below_size (tB_ HB)));(case aL=>have:=LMc24.out;omega);intro v249 w31 ho hb hg hat;rw [←Ny248.out] at ho;have n0_:=Aside0.mk (Kd.R_after (Kd.R_apart_nil (tR_ HO_0)) hg hat);have n1_:=Aside0.mk (hb);have n2_:=Aside0.mk (Kept.of_grown (S:=(fun k_=>P0_ k_)) hg (by repeat (first|(with_reducible first|exact HK.out|apply Kept.alloc|apply Kept.drewN|apply Kept.drew)|exact HK.out)) (fun k_ e_=>by simp [Value.ownBlock] at e_));have n3_:=Aside0.mk ((show Kd.C Kd.string w31 Ao29 y244.length y244 from by rw [Ny244.out];exact Kd.C_take (m:=(x5_1:Int).toNat) ((Kd.R_reads' (Kd.R_after (Kd.R_apart_nil (tR_ HO_0)) hg hat)).2.2) KL30.out));have n4_:=Aside0.mk (ho);clear HO_0;clear HB;clear HK;clear HR247;have HO_0:=n0_;have HB:=n1_;have HK:=n2_;have HR247:=n3_;have HO250:=n4_;clear n0_ n1_ n2_ n3_ n4_;clear ho hb hg hat)|((with_reducible refine gate_builtin (b:=.append) (xs:=#[.tmp 39,.tmp 41]) rfl ?_);at_builtin;refine Kd.R_append Kd.string (w0:=w0) w0.heap.size rfl (.tmp 39) (.tmp 41) 36 9 (.string ⟨#[]⟩) 16 rfl Tryz.underlying36 info9 rfl (by decide) (by omega) v249 y248 a1 [.string a1] (fun k_=>(P0_ k_∨w.heap.size≤k_)∧some k_≠(.slice Ao29 l0.length co29:Value).ownBlock) (fun _=>False) rfl rfl ?aP (fun _ hk=>hk.elim) ?aF ?aO ?aB ?aS ?aL ?_;(case aP=>exact rfl);(case aB=>exact (tB_ HB));(case aF=>exact (fun k_ hk=>⟨(.inr (Nat.le_trans (by first|exact HK.out.1|exact (show Kept w _ (fun k_=>P0_ k_) from by repeat (first|(with_reducible first|exact HK.out|apply Kept.alloc|apply Kept.drewN|apply Kept.drew)|exact HK.out)).1) hk)),Kd.fresh' (Kd.R_lt (tR_ HO_0)) k_ hk⟩));(case aO=>exact (tR_ HO250));(case aS=>exact (below_size (tB_ HB)));(case aL=>have:=LMc25.out;omega);intro v252 w32 ho hb hg hat;rw [←Ny251.out] at ho;have n0_:=Aside0.mk (Kd.R_after (ok:=(fun k_=>(P0_ k_∨w.heap.size≤k_))) (tR_ HO_0) hg hat);have n1_:=Aside0.mk (hb);have n2_:=Aside0.mk (Kept.of_grown (S:=(fun k_=>P0_ k_)) hg (by repeat (first|(with_reducible first|exact HK.out|apply Kept.alloc|apply Kept.drewN|apply Kept.drew)|exact HK.out)) (fun k_ e_=>(HO250.out.1 k_ e_).1));have n3_:=Aside0.mk ((show Kd.C Kd.string w32 Ao29 y244.length y244 from by rw [Ny244.out];exact Kd.C_take (m:=(x5_1:Int).toNat) ((Kd.R_reads' (Kd.R_after (ok:=(fun k_=>(P0_ k_∨w.heap.size≤k_))) (tR_ HO_0) hg hat)).2.2) KL30.out));have n4_:=Aside0.mk (ho);clear HO_0;clear HB;clear HK;clear HR247;clear HO250;have HO_0:=n0_;have HB:=n1_;have HK:=n2_;have HR247:=n3_;have HO253:=n4_;clear n0_ n1_ n2_ n3_ n4_;clear ho hb hg hat;have q33:(x5_1:Int)≤((l0.length:Int):Int):=oT_;obtain ⟨i033,hi033,_,hsz33,_⟩:=info_parts info9;have hroom33:l0.length≤co29:=(Kd.R_reads' HO_0.out).2.1;have hC33:Kd.C Kd.string _ Ao29 l0.length l0:=(Kd.R_reads' HO_0.out).2.2;have q033:(0:Int)≤(x5_1:Int):=oT_;have hcut33:=cut_from (P:=Tryz.prog) 36 9 .i64 Tryz.underlying36 hi033 1 hsz33 Ao29 l0.length co29 x5_1 q033 q33;have hr33:=Kd.C_drop (m:=(x5_1:Int).toNat) (c:=co29) hC33 (by omega) hroom33;obtain ⟨A33,hA33⟩:∃ A1,A1=(if co29=(x5_1:Int).toNat then Ao29 else (Ao29:Option Addr).map (·.add ((x5_1:Int).toNat * 1))):=⟨_,rfl⟩;obtain ⟨c33,hc33⟩:∃ c1,c1=co29 - (x5_1:Int).toNat:=⟨_,rfl⟩;have hy33:y254.length=l0.length - (x5_1:Int).toNat:=(by rw [Ny254.out,List.length_drop]<;>omega);rw [show (l0).drop (x5_1:Int).toNat=y254 from Ny254.out.symm] at hr33;replace hr33:Kd.C Kd.string _ A33 y254.length y254:=(by rw [hA33];exact hr33);rw [←hy33,←hA33,←hc33] at hcut33;have HR257:=Aside0.mk hr33;have HC257:=Aside0.mk (show y254.length≤c33 from by rw [hy33,hc33];exact Nat.sub_le_sub_right hroom33 _);clear hr33 hC33 hroom33 hi033 hsz33 hc33;have KY33:=Aside0.mk hy33;have KA33:=Aside0.mk hA33;clear hy33 hA33;have KL33:=Aside0.mk (show (x5_1:Int).toNat≤l0.length from by omega);replace q33:=eq_true q33)|((with_reducible refine gate_builtin (b:=.append) (xs:=#[.tmp 43,.tmp 46]) rfl ?_);at_builtin;refine Kd.R_append_rows Kd.string (w0:=w0) w0.heap.size rfl (.tmp 43) (.tmp 46) 36 9 (.string ⟨#[]⟩) 16 rfl Tryz.underlying36 info9 rfl (by decide) (by omega) v252 y251 y254 _ _ _ (fun k_=>(P0_ k_∨w.heap.size≤k_)∧some k_≠(.slice Ao29 l0.length co29:Value).ownBlock) (fun _=>False) rfl rfl ?aO ?aR (fun _ _ h=>h) (fun _ h=>h.elim) ?aF ?aB ?aS ?aL ?_;(case aR=>repeat (first|exact (by repeat (first|(with_reducible exact HR257.out)|(with_reducible refine Kd.C_alloc ?_ _)|(with_reducible refine Kd.C_drewN ?_ _)|(with_reducible refine Kd.C_drew ?_)|exact HR257.out))|(with_reducible refine Kd.C_alloc ?_ _)|(with_reducible refine Kd.C_drewN ?_ _)|(with_reducible refine Kd.C_drew ?_)));(case aB=>exact (tB_ HB));(case aF=>exact (fun k_ hk=>⟨(.inr (Nat.le_trans (by first|exact HK.out.1|exact (show Kept w _ (fun k_=>P0_ k_) from by repeat (first|(with_reducible first|exact HK.out|apply Kept.alloc|apply Kept.drewN|apply Kept.drew)|exact HK.out)).1) hk)),Kd.fresh' (Kd.R_lt (tR_ HO_0)) k_ hk⟩));(case aO=>exact (tR_ HO253));(case aS=>exact (below_size (tB_ HB)));(case aL=>have:=LMc28.out;omega);intro v259 w34 ho hb hg hat;rw [←Ny258.out] at ho;have n0_:=Aside0.mk (Kd.R_after (ok:=(fun k_=>(P0_ k_∨w.heap.size≤k_))) (tR_ HO_0) hg hat);have n1_:=Aside0.mk (hb);have n2_:=Aside0.mk (Kept.of_grown (S:=(fun k_=>P0_ k_)) hg (by repeat (first|(with_reducible first|exact HK.out|apply Kept.alloc|apply Kept.drewN|apply Kept.drew)|exact HK.out)) (fun k_ e_=>(HO253.out.1 k_ e_).1));have n3_:=Aside0.mk ((show Kd.C Kd.string w34 Ao29 y244.length y244 from by rw [Ny244.out];exact Kd.C_take (m:=(x5_1:Int).toNat) ((Kd.R_reads' (Kd.R_after (ok:=(fun k_=>(P0_ k_∨w.heap.size≤k_))) (tR_ HO_0) hg hat)).2.2) KL30.out));have n4_:=Aside0.mk ((show Kd.C Kd.string w34 A33 y254.length y254 from by rw [Ny254.out,KA33.out];exact Kd.C_drop (m:=(x5_1:Int).toNat) (c:=co29) ((Kd.R_reads' (Kd.R_after (ok:=(fun k_=>(P0_ k_∨w.heap.size≤k_))) (tR_ HO_0) hg hat)).2.2) KL33.out ((Kd.R_reads' (Kd.R_after (ok:=(fun k_=>(P0_ k_∨w.heap.size≤k_))) (tR_ HO_0) hg hat)).2.1)));have n5_:=Aside0.mk (ho);clear HO_0;clear HB;clear HK;clear HR247;clear HR257;clear HO253;have HO_0:=n0_;have HB:=n1_;have HK:=n2_;have HR247:=n3_;have HR257:=n4_;have HO260:=n5_;clear n0_ n1_ n2_ n3_ n4_ n5_;clear ho hb hg hat))
         go_ret
         exact ⟨_,tE_,by (with_reducible repeat (first|apply Kd.R_alloc|apply Kd.R_drewN|apply Kd.R_drew));exact Kd.R_mono HO260.out (fun _ hk=>hk.1),tB_ HB,by repeat (first|(with_reducible first|exact HK.out|apply Kept.alloc|apply Kept.drewN|apply Kept.drew)|exact HK.out)⟩
        ·rw [if_neg c28] at H
         exact absurd H (by simp)
       ·rw [if_neg c25] at H
        exact absurd H (by simp)
      ·rw [if_neg c24] at H
       exact absurd H (by simp)
     ·rw [if_neg c23] at H
      exact absurd H (by simp)
    ·rw [if_neg c22] at H
     exact absurd H (by simp)
def nr_has.l0:Nat→List ByteArray→ByteArray→Int→Option (Bool)
 | 0,_,_,_=>none
 | k+1,x0,x1,x5=>if x5 < (x0.length:Int) then (if 0≤x5 then (if (rdOf ByteArray.empty x0 x5).toList=x1.toList then (some true) else (nr_has.l0 k x0 x1 (wrap64 (x5+1)))) else (none)) else (some false)
def nr_has.f (k:Nat) (l0:List ByteArray) (a1:ByteArray):Option (Bool):=nr_has.l0 k l0 a1 0
set_option maxHeartbeats 8000000 in
set_option maxRecDepth 100000 in
theorem nr_has.calls (k:Nat) (A0:Option Addr) (c0:Nat) (l0:List ByteArray) (a1:ByteArray) (r:Bool) (w:World) (hr0:Kd.C Kd.string w A0 l0.length l0) (hc0:l0.length≤c0) (h:nr_has.f k l0 a1=some r) :
  Calls Tryz.prog 81 #[.slice A0 l0.length c0,.string a1] w fun e w'=>e=.returned (.bool r)∧Drawn0 w w':=by
 have HR0:=Aside0.mk hr0
 have HC0:=Aside0.mk hc0
 clear hr0 hc0
 have H:(nr_has.l0 k l0 a1 0)=some r:=h
 clear h
 have H':=Aside0.mk H
 clear H
 go_enter Tryz.func81,Tryz.ntmps81
 go_wp2
 go_loopg [5] k (fun kq v5 w'=>∃ (x5_1:Int),v5=.int .i64 x5_1∧Aside0 (nr_has.l0 kq l0 a1 x5_1=some r)∧Aside0 (kq≤k)∧Drawn0 w w')
 case atStart=>exact ⟨(0),tS_,H',⟨Nat.le_refl _⟩,tD_⟩
 case round =>
  clear H'
  try clear p2
  obtain ⟨x5_1,rfl,HA,HK1,⟨m1,rfl⟩⟩:=hrel
  cases gk with
  | zero=>exact absurd HA.out (by simp [nr_has.l0])
  | succ k1 =>
   have H:=HA.out
   clear HA
   simp only [nr_has.l0] at H
   by_cases c3:x5_1 < (l0.length:Int)
   ·rw [if_pos c3] at H
    have c3b0:decide (x5_1 < (l0.length:Int))=true:=decide_eq_true c3
    clear c3
    by_cases c4:0≤x5_1
    ·rw [if_pos c4] at H
     have c4b0:decide (0≤x5_1)=true:=decide_eq_true c4
     clear c4
     by_cases c5:(rdOf ByteArray.empty l0 x5_1).toList=a1.toList
     ·rw [if_pos c5] at H
      have c5b0:((rdOf ByteArray.empty l0 x5_1).toList == a1.toList)=true:=beq_iff_eq.mpr c5
      have c5b1:((rdOf ByteArray.empty l0 x5_1).toList != a1.toList)=false:=bne_eq_false_iff_eq.mpr c5
      clear c5
      obtain rfl:=Option.some.inj H
      have p274:0≤(x5_1:Int):=oT_
      have q274:x5_1 < (l0.length:Int):=oT_
      obtain ⟨ad274,e274,hx274_0⟩:=Kd.at_string HR0.out x5_1 p274 q274
      cases e274
      replace p274:=eq_true p274
      replace q274:=eq_true q274
      go_wp2
      go_ret
      exact ⟨by first|rfl|(simp;done)|(simp [*];done),tD_⟩
     ·rw [if_neg c5] at H
      have c5b0:((rdOf ByteArray.empty l0 x5_1).toList == a1.toList)=false:=beq_eq_false_iff_ne.mpr c5
      have c5b1:((rdOf ByteArray.empty l0 x5_1).toList != a1.toList)=true:=bne_iff_ne.mpr c5
      have H':=Aside0.mk H
      clear H
      have p274:0≤(x5_1:Int):=oT_
      have q274:x5_1 < (l0.length:Int):=oT_
      obtain ⟨ad274,e274,hx274_0⟩:=Kd.at_string HR0.out x5_1 p274 q274
      cases e274
      replace p274:=eq_true p274
      replace q274:=eq_true q274
      go_wp2
      go_roundg k1
      case measure=>have:=HK1.out;omega
      case rel=>exact ⟨(wrap64 (x5_1+1)),tS_,H',⟨by have:=HK1.out;omega⟩,tD_⟩
    ·rw [if_neg c4] at H
     exact absurd H (by simp)
   ·rw [if_neg c3] at H
    have c3b0:decide (x5_1 < (l0.length:Int))=false:=decide_eq_false c3
    clear c3
    obtain rfl:=Option.some.inj H
    go_wp2
    go_ret
    exact ⟨by first|rfl|(simp;done)|(simp [*];done),tD_⟩
end Go.Proofs.YtaafeallcaiooaaGreat.Pr
