import Derived.Test.YtaafeallcaiooaaGreatPr0
import Derived.Test.YtaafeallcaiooaaGreatHEr
import Derived.Test.YtaafeallcaiooaaGreatHEx
import Derived.Test.YtaafeallcaiooaaGreatHMd
import Derived.Test.YtaafeallcaiooaaGreatPrA11
import Derived.Test.YtaafeallcaiooaaGreatPrA2
import Derived.Test.YtaafeallcaiooaaGreatPrA6
import Derived.Test.YtaafeallcaiooaaGreatPrB1
namespace Go.Proofs.YtaafeallcaiooaaGreat.Pr
open Go.RowKit Go.Proofs.Zw Go.Proofs.Zl Go.Proofs.Zm
attribute [local go_sem] max2_int min2_int max_two min_two max_three min_three max_four min_four
set_option linter.unusedVariables false
set_option linter.unusedSimpArgs false
mutual
def nl_RulesSteps.j0:Nat→Int→List (S94)→ByteArray→List ByteArray→Int→List ByteArray→Int→List ByteArray→Int→List ByteArray→Bool→Option (Bool)
 | 0,_,_,_,_,_,_,_,_,_,_,_=>none
 | k+1,x2,x7,x8,x11,x12,x13,x14,x15,x16,x17,x93=>if x93=true then (some false) else (if x12=0 then (nl_RulesSteps.l0 k x2 x7 x8 x11 x13 x14 x15 x16 x17 (([x8]:List ByteArray)) 0) else (nl_RulesSteps.j2 k x2 x7 x8 x13 x14 x15 x16))
def nl_RulesSteps.j2:Nat→Int→List (S94)→ByteArray→List ByteArray→Int→List ByteArray→Int→Option (Bool)
 | 0,_,_,_,_,_,_,_=>none
 | k+1,x2,x7,x8,x13,x14,x15,x16=>if x16=0 then (if x14=0 then (if (x15.length:Int) < (x13.length:Int) then (nl_RulesSteps.j3 k x2 x7 x8 x13 x14 x15 true) else (if 0≤(x13.length:Int) then (if (x13.length:Int)≤(x15.length:Int) then ((nl_texts.f k (x15.take ((x13.length:Int):Int).toNat) x13).bind fun t609=>(if t609=true then (nl_RulesSteps.j3 k x2 x7 x8 x13 x14 x15 ((x7.length:Int) == 0)) else (nl_RulesSteps.j3 k x2 x7 x8 x13 x14 x15 true))) else (none)) else (none))) else (nl_RulesSteps.j3 k x2 x7 x8 x13 x14 x15 true)) else (if x16=5 then ((nl_awake.f k).bind fun t604=>(some t604)) else (some false))
def nl_RulesSteps.j3:Nat→Int→List (S94)→ByteArray→List ByteArray→Int→List ByteArray→Bool→Option (Bool)
 | 0,_,_,_,_,_,_,_=>none
 | k+1,x2,x7,x8,x13,x14,x15,x150=>if x150=true then (if x14=0 then (if (x7.length:Int)=0 then ((nl_texts.f k x13 x15).bind fun t610=>(if t610=true then ((nl_awake.f k).bind fun t611=>(some t611)) else (some false))) else (some false)) else (some false)) else (if 0≤(wrap64 ((x7.length:Int) - 1)) then (if (wrap64 ((x7.length:Int) - 1))≤(x7.length:Int) then ((rules_Reach.f (x7.take ((wrap64 ((x7.length:Int) - 1)):Int).toNat) x8 (wrap64 (x2+1))).bind fun bt616=>(if bt616.2=0 then (if (bt616.1.length:Int)≤(x15.length:Int) then ((nl_awake.f k).bind fun t620=>(some t620)) else (some false)) else (some false))) else (none)) else (none))
def nl_RulesSteps.l0:Nat→Int→List (S94)→ByteArray→List ByteArray→List ByteArray→Int→List ByteArray→Int→List ByteArray→List ByteArray→Int→Option (Bool)
 | 0,_,_,_,_,_,_,_,_,_,_,_=>none
 | k+1,x2,x7,x8,x11,x13,x14,x15,x16,x17,x19,x20=>if x20 < (x17.length:Int) then (if 0≤x20 then (if (rdOf ByteArray.empty x17 x20).toList=x8.toList then (nl_RulesSteps.l0 k x2 x7 x8 x11 x13 x14 x15 x16 x17 x19 (wrap64 (x20+1))) else (if x19.length < 8796093022208 then (nl_RulesSteps.l0 k x2 x7 x8 x11 x13 x14 x15 x16 x17 (x19++[rdOf ByteArray.empty x17 x20]) (wrap64 (x20+1))) else (none))) else (none)) else ((nl_texts.f k x11 x19).bind fun t603=>(if t603=true then (nl_RulesSteps.j2 k x2 x7 x8 x13 x14 x15 x16) else (some false)))
end
noncomputable def nl_RulesSteps.f (k:Nat) (l0:List ByteArray) (a1:ByteArray) (a2:Int):Option (Bool):=(nl_made.f l0).bind fun t566=>((nl_term.f k a1 10).bind fun t569=>((nl_mod.f a2 5).bind fun t570=>((rules_Reach.f t566 t569 0).bind fun bt571=>((rules_Reach.f t566 t569 1).bind fun bt575=>((rules_Reach.f t566 t569 t570).bind fun bt579=>((rules_Reach.f t566 t569 (wrap64 (t570+1))).bind fun bt583=>((rules_Next.f t566 t569).bind fun bt587=>(if bt571.2=0 then ((nl_texts.f k bt571.1 (([t569]:List ByteArray))).bind fun t594=>(if t594=true then (if bt575.2=0 then (if bt579.2=0 then (nl_RulesSteps.j0 k t570 t566 t569 bt575.1 bt575.2 bt579.1 bt579.2 bt583.1 bt583.2 bt587.1 ((bt587.2 == 0) != (bt575.2 == 0))) else (if bt579.2=5 then (nl_RulesSteps.j0 k t570 t566 t569 bt575.1 bt575.2 bt579.1 bt579.2 bt583.1 bt583.2 bt587.1 ((bt587.2 == 0) != (bt575.2 == 0))) else (nl_RulesSteps.j0 k t570 t566 t569 bt575.1 bt575.2 bt579.1 bt579.2 bt583.1 bt583.2 bt587.1 true))) else (if bt575.2=5 then (if bt579.2=0 then (nl_RulesSteps.j0 k t570 t566 t569 bt575.1 bt575.2 bt579.1 bt579.2 bt583.1 bt583.2 bt587.1 ((bt587.2 == 0) != (bt575.2 == 0))) else (if bt579.2=5 then (nl_RulesSteps.j0 k t570 t566 t569 bt575.1 bt575.2 bt579.1 bt579.2 bt583.1 bt583.2 bt587.1 ((bt587.2 == 0) != (bt575.2 == 0))) else (nl_RulesSteps.j0 k t570 t566 t569 bt575.1 bt575.2 bt579.1 bt579.2 bt583.1 bt583.2 bt587.1 true))) else (nl_RulesSteps.j0 k t570 t566 t569 bt575.1 bt575.2 bt579.1 bt579.2 bt583.1 bt583.2 bt587.1 true))) else (nl_RulesSteps.j0 k t570 t566 t569 bt575.1 bt575.2 bt579.1 bt579.2 bt583.1 bt583.2 bt587.1 true))) else (nl_RulesSteps.j0 k t570 t566 t569 bt575.1 bt575.2 bt579.1 bt579.2 bt583.1 bt583.2 bt587.1 true)))))))))
theorem nl_RulesSteps.j0_no:∀ k y0 y1 y2 y3 y4 y5 y6 y7 y8 y9,nl_RulesSteps.j0 k y0 y1 y2 y3 y4 y5 y6 y7 y8 y9 true≠some true:=by intro k y0 y1 y2 y3 y4 y5 y6 y7 y8 y9;cases k<;>simp [nl_RulesSteps.j0]
set_option maxHeartbeats 8000000 in
set_option maxRecDepth 100000 in
theorem nl_RulesSteps.calls (k:Nat) (A0:Option Addr) (c0:Nat) (l0:List ByteArray) (a1:ByteArray) (a2:Int) (r:Bool) (w:World) (hr0:Kd.C Kd.string w A0 l0.length l0) (hc0:l0.length≤c0) (h:nl_RulesSteps.f k l0 a1 a2=some r) (ht:r=true:=by rfl) :
  Calls Tryz.prog 13 #[.slice A0 l0.length c0,.string a1,.int .i64 a2] w fun e w'=>e=.returned (.bool r)∧Below w.heap.size w w':=by
 have HT0_:=Aside0.mk ht
 clear ht
 have HR0:=Aside0.mk hr0
 have HC0:=Aside0.mk hc0
 clear hr0 hc0
 have HB:=Aside0.mk (Below.refl w.heap.size w)
 have H:((nl_made.f l0).bind fun t566=>((nl_term.f k a1 10).bind fun t569=>((nl_mod.f a2 5).bind fun t570=>((rules_Reach.f t566 t569 0).bind fun bt571=>((rules_Reach.f t566 t569 1).bind fun bt575=>((rules_Reach.f t566 t569 t570).bind fun bt579=>((rules_Reach.f t566 t569 (wrap64 (t570+1))).bind fun bt583=>((rules_Next.f t566 t569).bind fun bt587=>(if bt571.2=0 then ((nl_texts.f k bt571.1 (([t569]:List ByteArray))).bind fun t594=>(if t594=true then (if bt575.2=0 then (if bt579.2=0 then (nl_RulesSteps.j0 k t570 t566 t569 bt575.1 bt575.2 bt579.1 bt579.2 bt583.1 bt583.2 bt587.1 ((bt587.2 == 0) != (bt575.2 == 0))) else (if bt579.2=5 then (nl_RulesSteps.j0 k t570 t566 t569 bt575.1 bt575.2 bt579.1 bt579.2 bt583.1 bt583.2 bt587.1 ((bt587.2 == 0) != (bt575.2 == 0))) else (nl_RulesSteps.j0 k t570 t566 t569 bt575.1 bt575.2 bt579.1 bt579.2 bt583.1 bt583.2 bt587.1 true))) else (if bt575.2=5 then (if bt579.2=0 then (nl_RulesSteps.j0 k t570 t566 t569 bt575.1 bt575.2 bt579.1 bt579.2 bt583.1 bt583.2 bt587.1 ((bt587.2 == 0) != (bt575.2 == 0))) else (if bt579.2=5 then (nl_RulesSteps.j0 k t570 t566 t569 bt575.1 bt575.2 bt579.1 bt579.2 bt583.1 bt583.2 bt587.1 ((bt587.2 == 0) != (bt575.2 == 0))) else (nl_RulesSteps.j0 k t570 t566 t569 bt575.1 bt575.2 bt579.1 bt579.2 bt583.1 bt583.2 bt587.1 true))) else (nl_RulesSteps.j0 k t570 t566 t569 bt575.1 bt575.2 bt579.1 bt579.2 bt583.1 bt583.2 bt587.1 true))) else (nl_RulesSteps.j0 k t570 t566 t569 bt575.1 bt575.2 bt579.1 bt579.2 bt583.1 bt583.2 bt587.1 true))) else (nl_RulesSteps.j0 k t570 t566 t569 bt575.1 bt575.2 bt579.1 bt579.2 bt583.1 bt583.2 bt587.1 true))))))))))=some r:=h
 clear h
 replace H:=Option.bind_eq_some_iff.mp H
 obtain ⟨t566,A40,H⟩:=H
 replace H:((nl_term.f k a1 10).bind fun t569=>((nl_mod.f a2 5).bind fun t570=>((rules_Reach.f t566 t569 0).bind fun bt571=>((rules_Reach.f t566 t569 1).bind fun bt575=>((rules_Reach.f t566 t569 t570).bind fun bt579=>((rules_Reach.f t566 t569 (wrap64 (t570+1))).bind fun bt583=>((rules_Next.f t566 t569).bind fun bt587=>(if bt571.2=0 then ((nl_texts.f k bt571.1 (([t569]:List ByteArray))).bind fun t594=>(if t594=true then (if bt575.2=0 then (if bt579.2=0 then (nl_RulesSteps.j0 k t570 t566 t569 bt575.1 bt575.2 bt579.1 bt579.2 bt583.1 bt583.2 bt587.1 ((bt587.2 == 0) != (bt575.2 == 0))) else (if bt579.2=5 then (nl_RulesSteps.j0 k t570 t566 t569 bt575.1 bt575.2 bt579.1 bt579.2 bt583.1 bt583.2 bt587.1 ((bt587.2 == 0) != (bt575.2 == 0))) else (nl_RulesSteps.j0 k t570 t566 t569 bt575.1 bt575.2 bt579.1 bt579.2 bt583.1 bt583.2 bt587.1 true))) else (if bt575.2=5 then (if bt579.2=0 then (nl_RulesSteps.j0 k t570 t566 t569 bt575.1 bt575.2 bt579.1 bt579.2 bt583.1 bt583.2 bt587.1 ((bt587.2 == 0) != (bt575.2 == 0))) else (if bt579.2=5 then (nl_RulesSteps.j0 k t570 t566 t569 bt575.1 bt575.2 bt579.1 bt579.2 bt583.1 bt583.2 bt587.1 ((bt587.2 == 0) != (bt575.2 == 0))) else (nl_RulesSteps.j0 k t570 t566 t569 bt575.1 bt575.2 bt579.1 bt579.2 bt583.1 bt583.2 bt587.1 true))) else (nl_RulesSteps.j0 k t570 t566 t569 bt575.1 bt575.2 bt579.1 bt579.2 bt583.1 bt583.2 bt587.1 true))) else (nl_RulesSteps.j0 k t570 t566 t569 bt575.1 bt575.2 bt579.1 bt579.2 bt583.1 bt583.2 bt587.1 true))) else (nl_RulesSteps.j0 k t570 t566 t569 bt575.1 bt575.2 bt579.1 bt579.2 bt583.1 bt583.2 bt587.1 true)))))))))=some r:=H
 have A4:=Aside0.mk A40
 clear A40
 replace H:=Option.bind_eq_some_iff.mp H
 obtain ⟨t569,A50,H⟩:=H
 replace H:((nl_mod.f a2 5).bind fun t570=>((rules_Reach.f t566 t569 0).bind fun bt571=>((rules_Reach.f t566 t569 1).bind fun bt575=>((rules_Reach.f t566 t569 t570).bind fun bt579=>((rules_Reach.f t566 t569 (wrap64 (t570+1))).bind fun bt583=>((rules_Next.f t566 t569).bind fun bt587=>(if bt571.2=0 then ((nl_texts.f k bt571.1 (([t569]:List ByteArray))).bind fun t594=>(if t594=true then (if bt575.2=0 then (if bt579.2=0 then (nl_RulesSteps.j0 k t570 t566 t569 bt575.1 bt575.2 bt579.1 bt579.2 bt583.1 bt583.2 bt587.1 ((bt587.2 == 0) != (bt575.2 == 0))) else (if bt579.2=5 then (nl_RulesSteps.j0 k t570 t566 t569 bt575.1 bt575.2 bt579.1 bt579.2 bt583.1 bt583.2 bt587.1 ((bt587.2 == 0) != (bt575.2 == 0))) else (nl_RulesSteps.j0 k t570 t566 t569 bt575.1 bt575.2 bt579.1 bt579.2 bt583.1 bt583.2 bt587.1 true))) else (if bt575.2=5 then (if bt579.2=0 then (nl_RulesSteps.j0 k t570 t566 t569 bt575.1 bt575.2 bt579.1 bt579.2 bt583.1 bt583.2 bt587.1 ((bt587.2 == 0) != (bt575.2 == 0))) else (if bt579.2=5 then (nl_RulesSteps.j0 k t570 t566 t569 bt575.1 bt575.2 bt579.1 bt579.2 bt583.1 bt583.2 bt587.1 ((bt587.2 == 0) != (bt575.2 == 0))) else (nl_RulesSteps.j0 k t570 t566 t569 bt575.1 bt575.2 bt579.1 bt579.2 bt583.1 bt583.2 bt587.1 true))) else (nl_RulesSteps.j0 k t570 t566 t569 bt575.1 bt575.2 bt579.1 bt579.2 bt583.1 bt583.2 bt587.1 true))) else (nl_RulesSteps.j0 k t570 t566 t569 bt575.1 bt575.2 bt579.1 bt579.2 bt583.1 bt583.2 bt587.1 true))) else (nl_RulesSteps.j0 k t570 t566 t569 bt575.1 bt575.2 bt579.1 bt579.2 bt583.1 bt583.2 bt587.1 true))))))))=some r:=H
 have A5:=Aside0.mk A50
 clear A50
 replace H:=Option.bind_eq_some_iff.mp H
 obtain ⟨t570,A60,H⟩:=H
 replace H:((rules_Reach.f t566 t569 0).bind fun bt571=>((rules_Reach.f t566 t569 1).bind fun bt575=>((rules_Reach.f t566 t569 t570).bind fun bt579=>((rules_Reach.f t566 t569 (wrap64 (t570+1))).bind fun bt583=>((rules_Next.f t566 t569).bind fun bt587=>(if bt571.2=0 then ((nl_texts.f k bt571.1 (([t569]:List ByteArray))).bind fun t594=>(if t594=true then (if bt575.2=0 then (if bt579.2=0 then (nl_RulesSteps.j0 k t570 t566 t569 bt575.1 bt575.2 bt579.1 bt579.2 bt583.1 bt583.2 bt587.1 ((bt587.2 == 0) != (bt575.2 == 0))) else (if bt579.2=5 then (nl_RulesSteps.j0 k t570 t566 t569 bt575.1 bt575.2 bt579.1 bt579.2 bt583.1 bt583.2 bt587.1 ((bt587.2 == 0) != (bt575.2 == 0))) else (nl_RulesSteps.j0 k t570 t566 t569 bt575.1 bt575.2 bt579.1 bt579.2 bt583.1 bt583.2 bt587.1 true))) else (if bt575.2=5 then (if bt579.2=0 then (nl_RulesSteps.j0 k t570 t566 t569 bt575.1 bt575.2 bt579.1 bt579.2 bt583.1 bt583.2 bt587.1 ((bt587.2 == 0) != (bt575.2 == 0))) else (if bt579.2=5 then (nl_RulesSteps.j0 k t570 t566 t569 bt575.1 bt575.2 bt579.1 bt579.2 bt583.1 bt583.2 bt587.1 ((bt587.2 == 0) != (bt575.2 == 0))) else (nl_RulesSteps.j0 k t570 t566 t569 bt575.1 bt575.2 bt579.1 bt579.2 bt583.1 bt583.2 bt587.1 true))) else (nl_RulesSteps.j0 k t570 t566 t569 bt575.1 bt575.2 bt579.1 bt579.2 bt583.1 bt583.2 bt587.1 true))) else (nl_RulesSteps.j0 k t570 t566 t569 bt575.1 bt575.2 bt579.1 bt579.2 bt583.1 bt583.2 bt587.1 true))) else (nl_RulesSteps.j0 k t570 t566 t569 bt575.1 bt575.2 bt579.1 bt579.2 bt583.1 bt583.2 bt587.1 true)))))))=some r:=H
 have A6:=Aside0.mk A60
 clear A60
 replace H:=Option.bind_eq_some_iff.mp H
 obtain ⟨⟨t571,t572⟩,A70,H⟩:=H
 replace H:((rules_Reach.f t566 t569 1).bind fun bt575=>((rules_Reach.f t566 t569 t570).bind fun bt579=>((rules_Reach.f t566 t569 (wrap64 (t570+1))).bind fun bt583=>((rules_Next.f t566 t569).bind fun bt587=>(if t572=0 then ((nl_texts.f k t571 (([t569]:List ByteArray))).bind fun t594=>(if t594=true then (if bt575.2=0 then (if bt579.2=0 then (nl_RulesSteps.j0 k t570 t566 t569 bt575.1 bt575.2 bt579.1 bt579.2 bt583.1 bt583.2 bt587.1 ((bt587.2 == 0) != (bt575.2 == 0))) else (if bt579.2=5 then (nl_RulesSteps.j0 k t570 t566 t569 bt575.1 bt575.2 bt579.1 bt579.2 bt583.1 bt583.2 bt587.1 ((bt587.2 == 0) != (bt575.2 == 0))) else (nl_RulesSteps.j0 k t570 t566 t569 bt575.1 bt575.2 bt579.1 bt579.2 bt583.1 bt583.2 bt587.1 true))) else (if bt575.2=5 then (if bt579.2=0 then (nl_RulesSteps.j0 k t570 t566 t569 bt575.1 bt575.2 bt579.1 bt579.2 bt583.1 bt583.2 bt587.1 ((bt587.2 == 0) != (bt575.2 == 0))) else (if bt579.2=5 then (nl_RulesSteps.j0 k t570 t566 t569 bt575.1 bt575.2 bt579.1 bt579.2 bt583.1 bt583.2 bt587.1 ((bt587.2 == 0) != (bt575.2 == 0))) else (nl_RulesSteps.j0 k t570 t566 t569 bt575.1 bt575.2 bt579.1 bt579.2 bt583.1 bt583.2 bt587.1 true))) else (nl_RulesSteps.j0 k t570 t566 t569 bt575.1 bt575.2 bt579.1 bt579.2 bt583.1 bt583.2 bt587.1 true))) else (nl_RulesSteps.j0 k t570 t566 t569 bt575.1 bt575.2 bt579.1 bt579.2 bt583.1 bt583.2 bt587.1 true))) else (nl_RulesSteps.j0 k t570 t566 t569 bt575.1 bt575.2 bt579.1 bt579.2 bt583.1 bt583.2 bt587.1 true))))))=some r:=H
 have A7:=Aside0.mk A70
 clear A70
 replace H:=Option.bind_eq_some_iff.mp H
 obtain ⟨⟨t575,t576⟩,A80,H⟩:=H
 replace H:((rules_Reach.f t566 t569 t570).bind fun bt579=>((rules_Reach.f t566 t569 (wrap64 (t570+1))).bind fun bt583=>((rules_Next.f t566 t569).bind fun bt587=>(if t572=0 then ((nl_texts.f k t571 (([t569]:List ByteArray))).bind fun t594=>(if t594=true then (if t576=0 then (if bt579.2=0 then (nl_RulesSteps.j0 k t570 t566 t569 t575 t576 bt579.1 bt579.2 bt583.1 bt583.2 bt587.1 ((bt587.2 == 0) != (t576 == 0))) else (if bt579.2=5 then (nl_RulesSteps.j0 k t570 t566 t569 t575 t576 bt579.1 bt579.2 bt583.1 bt583.2 bt587.1 ((bt587.2 == 0) != (t576 == 0))) else (nl_RulesSteps.j0 k t570 t566 t569 t575 t576 bt579.1 bt579.2 bt583.1 bt583.2 bt587.1 true))) else (if t576=5 then (if bt579.2=0 then (nl_RulesSteps.j0 k t570 t566 t569 t575 t576 bt579.1 bt579.2 bt583.1 bt583.2 bt587.1 ((bt587.2 == 0) != (t576 == 0))) else (if bt579.2=5 then (nl_RulesSteps.j0 k t570 t566 t569 t575 t576 bt579.1 bt579.2 bt583.1 bt583.2 bt587.1 ((bt587.2 == 0) != (t576 == 0))) else (nl_RulesSteps.j0 k t570 t566 t569 t575 t576 bt579.1 bt579.2 bt583.1 bt583.2 bt587.1 true))) else (nl_RulesSteps.j0 k t570 t566 t569 t575 t576 bt579.1 bt579.2 bt583.1 bt583.2 bt587.1 true))) else (nl_RulesSteps.j0 k t570 t566 t569 t575 t576 bt579.1 bt579.2 bt583.1 bt583.2 bt587.1 true))) else (nl_RulesSteps.j0 k t570 t566 t569 t575 t576 bt579.1 bt579.2 bt583.1 bt583.2 bt587.1 true)))))=some r:=H
 have A8:=Aside0.mk A80
 clear A80
 replace H:=Option.bind_eq_some_iff.mp H
 obtain ⟨⟨t579,t580⟩,A90,H⟩:=H
 replace H:((rules_Reach.f t566 t569 (wrap64 (t570+1))).bind fun bt583=>((rules_Next.f t566 t569).bind fun bt587=>(if t572=0 then ((nl_texts.f k t571 (([t569]:List ByteArray))).bind fun t594=>(if t594=true then (if t576=0 then (if t580=0 then (nl_RulesSteps.j0 k t570 t566 t569 t575 t576 t579 t580 bt583.1 bt583.2 bt587.1 ((bt587.2 == 0) != (t576 == 0))) else (if t580=5 then (nl_RulesSteps.j0 k t570 t566 t569 t575 t576 t579 t580 bt583.1 bt583.2 bt587.1 ((bt587.2 == 0) != (t576 == 0))) else (nl_RulesSteps.j0 k t570 t566 t569 t575 t576 t579 t580 bt583.1 bt583.2 bt587.1 true))) else (if t576=5 then (if t580=0 then (nl_RulesSteps.j0 k t570 t566 t569 t575 t576 t579 t580 bt583.1 bt583.2 bt587.1 ((bt587.2 == 0) != (t576 == 0))) else (if t580=5 then (nl_RulesSteps.j0 k t570 t566 t569 t575 t576 t579 t580 bt583.1 bt583.2 bt587.1 ((bt587.2 == 0) != (t576 == 0))) else (nl_RulesSteps.j0 k t570 t566 t569 t575 t576 t579 t580 bt583.1 bt583.2 bt587.1 true))) else (nl_RulesSteps.j0 k t570 t566 t569 t575 t576 t579 t580 bt583.1 bt583.2 bt587.1 true))) else (nl_RulesSteps.j0 k t570 t566 t569 t575 t576 t579 t580 bt583.1 bt583.2 bt587.1 true))) else (nl_RulesSteps.j0 k t570 t566 t569 t575 t576 t579 t580 bt583.1 bt583.2 bt587.1 true))))=some r:=H
 have A9:=Aside0.mk A90
 clear A90
 replace H:=Option.bind_eq_some_iff.mp H
 obtain ⟨⟨t583,t584⟩,A100,H⟩:=H
 replace H:((rules_Next.f t566 t569).bind fun bt587=>(if t572=0 then ((nl_texts.f k t571 (([t569]:List ByteArray))).bind fun t594=>(if t594=true then (if t576=0 then (if t580=0 then (nl_RulesSteps.j0 k t570 t566 t569 t575 t576 t579 t580 t583 t584 bt587.1 ((bt587.2 == 0) != (t576 == 0))) else (if t580=5 then (nl_RulesSteps.j0 k t570 t566 t569 t575 t576 t579 t580 t583 t584 bt587.1 ((bt587.2 == 0) != (t576 == 0))) else (nl_RulesSteps.j0 k t570 t566 t569 t575 t576 t579 t580 t583 t584 bt587.1 true))) else (if t576=5 then (if t580=0 then (nl_RulesSteps.j0 k t570 t566 t569 t575 t576 t579 t580 t583 t584 bt587.1 ((bt587.2 == 0) != (t576 == 0))) else (if t580=5 then (nl_RulesSteps.j0 k t570 t566 t569 t575 t576 t579 t580 t583 t584 bt587.1 ((bt587.2 == 0) != (t576 == 0))) else (nl_RulesSteps.j0 k t570 t566 t569 t575 t576 t579 t580 t583 t584 bt587.1 true))) else (nl_RulesSteps.j0 k t570 t566 t569 t575 t576 t579 t580 t583 t584 bt587.1 true))) else (nl_RulesSteps.j0 k t570 t566 t569 t575 t576 t579 t580 t583 t584 bt587.1 true))) else (nl_RulesSteps.j0 k t570 t566 t569 t575 t576 t579 t580 t583 t584 bt587.1 true)))=some r:=H
 have A10:=Aside0.mk A100
 clear A100
 replace H:=Option.bind_eq_some_iff.mp H
 obtain ⟨⟨t587,t588⟩,A110,H⟩:=H
 replace H:(if t572=0 then ((nl_texts.f k t571 (([t569]:List ByteArray))).bind fun t594=>(if t594=true then (if t576=0 then (if t580=0 then (nl_RulesSteps.j0 k t570 t566 t569 t575 t576 t579 t580 t583 t584 t587 ((t588 == 0) != (t576 == 0))) else (if t580=5 then (nl_RulesSteps.j0 k t570 t566 t569 t575 t576 t579 t580 t583 t584 t587 ((t588 == 0) != (t576 == 0))) else (nl_RulesSteps.j0 k t570 t566 t569 t575 t576 t579 t580 t583 t584 t587 true))) else (if t576=5 then (if t580=0 then (nl_RulesSteps.j0 k t570 t566 t569 t575 t576 t579 t580 t583 t584 t587 ((t588 == 0) != (t576 == 0))) else (if t580=5 then (nl_RulesSteps.j0 k t570 t566 t569 t575 t576 t579 t580 t583 t584 t587 ((t588 == 0) != (t576 == 0))) else (nl_RulesSteps.j0 k t570 t566 t569 t575 t576 t579 t580 t583 t584 t587 true))) else (nl_RulesSteps.j0 k t570 t566 t569 t575 t576 t579 t580 t583 t584 t587 true))) else (nl_RulesSteps.j0 k t570 t566 t569 t575 t576 t579 t580 t583 t584 t587 true))) else (nl_RulesSteps.j0 k t570 t566 t569 t575 t576 t579 t580 t583 t584 t587 true))=some r:=H
 have A11:=Aside0.mk A110
 clear A110
 have HC12:=Aside0.mk H
 clear H
 go_enter Tryz.func13,Tryz.ntmps13
 go_upto_region 9 with (first|((with_reducible refine gate_callee (f:=41) rfl ?_);refine goesL_ (some 24) rfl rfl Tryz.func41 (by kernel_rfl) rfl #[.slice A0 l0.length c0] rfl tM_ ?_;(with_reducible refine (nl_made.calls _ _ l0 t566 _ ?side1 ?side2 A4.out).mono ?_);(case side1=>repeat (first|exact HR0.out|(with_reducible refine Kd.C_alloc ?_ _)|(with_reducible refine Kd.C_drewN ?_ _)|(with_reducible refine Kd.C_drew ?_)));(case side2=>exact HC0.out);rintro e w13 ⟨v567,rfl,ho0,hb⟩;refine ⟨_,rfl,?_⟩;have n0_:=Aside0.mk (Kd.R_lower ho0 (below_size (tB_ HB)));have n1_:=Aside0.mk (below_step (tB_ HB) hb);clear HB;have HO568:=n0_;have HB:=n1_;clear n0_ n1_;(try clear hb);(try clear hb2);(try clear hk);(try clear hi);(try clear ho0))|((with_reducible refine gate_callee (f:=33) rfl ?_);refine goesL_ (some 26) rfl rfl Tryz.func33 (by kernel_rfl) rfl #[.string a1,.int .i64 10] rfl tM_ ?_;(with_reducible refine (nl_term.calls k a1 10 t569 _ A5.out).mono ?_);rintro e w' ⟨rfl,⟨nd,rfl⟩⟩;refine ⟨_,rfl,?_⟩)|((with_reducible refine gate_callee (f:=55) rfl ?_);refine goesL_ (some 28) rfl rfl Tryz.func55 (by kernel_rfl) rfl #[.int .i64 a2,.int .i64 5] rfl tM_ ?_;(with_reducible refine (nl_mod.calls a2 5 t570 _ A6.out).mono ?_);rintro e w' ⟨rfl,⟨nd,rfl⟩⟩;refine ⟨_,rfl,?_⟩;obtain ⟨Ao14,co14,eo14⟩:=Kd.R_slice HO568.out;subst eo14)|((with_reducible refine gate_callee (f:=56) rfl ?_);refine goesL_ (some 32) rfl rfl Tryz.func56 (by kernel_rfl) rfl #[.slice Ao14 t566.length co14,.string t569,.int .i64 0] rfl tM_ ?_;(with_reducible refine (rules_Reach.calls _ _ t566 t569 0 t571 t572 _ ?side1 ?side2 A7.out).mono ?_);(case side1=>repeat (first|exact (Kd.R_reads' HO568.out).2.2|(with_reducible refine Kd.C_alloc ?_ _)|(with_reducible refine Kd.C_drewN ?_ _)|(with_reducible refine Kd.C_drew ?_)));(case side2=>exact (Kd.R_reads' HO568.out).2.1);rintro e w15 ⟨v573,rfl,ho0,hb⟩;refine ⟨_,rfl,?_⟩;have n0_:=Aside0.mk (Kd.R_below (tR_ HO568) hb);have n1_:=Aside0.mk (Kd.R_lower ho0 (below_size (tB_ HB)));have n2_:=Aside0.mk (below_step (tB_ HB) hb);clear HO568;clear HB;have HO568:=n0_;have HO574:=n1_;have HB:=n2_;clear n0_ n1_ n2_;(try clear hb);(try clear hb2);(try clear hk);(try clear hi);(try clear ho0))|((with_reducible refine gate_callee (f:=56) rfl ?_);refine goesL_ (some 38) rfl rfl Tryz.func56 (by kernel_rfl) rfl #[.slice Ao14 t566.length co14,.string t569,.int .i64 1] rfl tM_ ?_;(with_reducible refine (rules_Reach.calls _ _ t566 t569 1 t575 t576 _ ?side1 ?side2 A8.out).mono ?_);(case side1=>repeat (first|exact (Kd.R_reads' HO568.out).2.2|(with_reducible refine Kd.C_alloc ?_ _)|(with_reducible refine Kd.C_drewN ?_ _)|(with_reducible refine Kd.C_drew ?_)));(case side2=>exact (Kd.R_reads' HO568.out).2.1);rintro e w16 ⟨v577,rfl,ho0,hb⟩;refine ⟨_,rfl,?_⟩;have n0_:=Aside0.mk (Kd.R_below (tR_ HO568) hb);have n1_:=Aside0.mk (Kd.R_elder' (tR_ HO574) (Kd.R_base ho0) hb);have n2_:=Aside0.mk (Kd.R_lower (Kd.R_new' ho0 (Kd.R_lt (tR_ HO574))) (below_size (tB_ HB)));have n3_:=Aside0.mk (below_step (tB_ HB) hb);clear HO568;clear HO574;clear HB;have HO568:=n0_;have HO574:=n1_;have HO578:=n2_;have HB:=n3_;clear n0_ n1_ n2_ n3_;(try clear hb);(try clear hb2);(try clear hk);(try clear hi);(try clear ho0))|((with_reducible refine gate_callee (f:=56) rfl ?_);refine goesL_ (some 45) rfl rfl Tryz.func56 (by kernel_rfl) rfl #[.slice Ao14 t566.length co14,.string t569,.int .i64 t570] rfl tM_ ?_;(with_reducible refine (rules_Reach.calls _ _ t566 t569 t570 t579 t580 _ ?side1 ?side2 A9.out).mono ?_);(case side1=>repeat (first|exact (Kd.R_reads' HO568.out).2.2|(with_reducible refine Kd.C_alloc ?_ _)|(with_reducible refine Kd.C_drewN ?_ _)|(with_reducible refine Kd.C_drew ?_)));(case side2=>exact (Kd.R_reads' HO568.out).2.1);rintro e w17 ⟨v581,rfl,ho0,hb⟩;refine ⟨_,rfl,?_⟩;have n0_:=Aside0.mk (Kd.R_below (tR_ HO568) hb);have n1_:=Aside0.mk (Kd.R_elder' (tR_ HO574) (Kd.R_base ho0) hb);have n2_:=Aside0.mk (Kd.R_elder' (tR_ HO578) (Kd.R_base ho0) hb);have n3_:=Aside0.mk (Kd.R_lower (Kd.R_new' (Kd.R_new' ho0 (Kd.R_lt (tR_ HO574))) (Kd.R_lt (tR_ HO578))) (below_size (tB_ HB)));have n4_:=Aside0.mk (below_step (tB_ HB) hb);clear HO568;clear HO574;clear HO578;clear HB;have HO568:=n0_;have HO574:=n1_;have HO578:=n2_;have HO582:=n3_;have HB:=n4_;clear n0_ n1_ n2_ n3_ n4_;(try clear hb);(try clear hb2);(try clear hk);(try clear hi);(try clear ho0))|((with_reducible refine gate_callee (f:=56) rfl ?_);refine goesL_ (some 53) rfl rfl Tryz.func56 (by kernel_rfl) rfl #[.slice Ao14 t566.length co14,.string t569,.int .i64 (wrap64 (t570+1))] rfl tM_ ?_;(with_reducible refine (rules_Reach.calls _ _ t566 t569 (wrap64 (t570+1)) t583 t584 _ ?side1 ?side2 A10.out).mono ?_);(case side1=>repeat (first|exact (Kd.R_reads' HO568.out).2.2|(with_reducible refine Kd.C_alloc ?_ _)|(with_reducible refine Kd.C_drewN ?_ _)|(with_reducible refine Kd.C_drew ?_)));(case side2=>exact (Kd.R_reads' HO568.out).2.1);rintro e w18 ⟨v585,rfl,ho0,hb⟩;refine ⟨_,rfl,?_⟩;have n0_:=Aside0.mk (Kd.R_below (tR_ HO568) hb);have n1_:=Aside0.mk (Kd.R_elder' (tR_ HO574) (Kd.R_base ho0) hb);have n2_:=Aside0.mk (Kd.R_elder' (tR_ HO578) (Kd.R_base ho0) hb);have n3_:=Aside0.mk (Kd.R_elder' (tR_ HO582) (Kd.R_base ho0) hb);have n4_:=Aside0.mk (Kd.R_lower (Kd.R_new' (Kd.R_new' (Kd.R_new' ho0 (Kd.R_lt (tR_ HO574))) (Kd.R_lt (tR_ HO578))) (Kd.R_lt (tR_ HO582))) (below_size (tB_ HB)));have n5_:=Aside0.mk (below_step (tB_ HB) hb);clear HO568;clear HO574;clear HO578;clear HO582;clear HB;have HO568:=n0_;have HO574:=n1_;have HO578:=n2_;have HO582:=n3_;have HO586:=n4_;have HB:=n5_;clear n0_ n1_ n2_ n3_ n4_ n5_;(try clear hb);(try clear hb2);(try clear hk);(try clear hi);(try clear ho0))|((with_reducible refine gate_callee (f:=49) rfl ?_);refine goesL_ (some 59) rfl rfl Tryz.func49 (by kernel_rfl) rfl #[.slice Ao14 t566.length co14,.string t569] rfl tM_ ?_;(with_reducible refine (rules_Next.calls _ _ t566 t569 t587 t588 _ ?side1 ?side2 A11.out).mono ?_);(case side1=>repeat (first|exact (Kd.R_reads' HO568.out).2.2|(with_reducible refine Kd.C_alloc ?_ _)|(with_reducible refine Kd.C_drewN ?_ _)|(with_reducible refine Kd.C_drew ?_)));(case side2=>exact (Kd.R_reads' HO568.out).2.1);rintro e w19 ⟨v589,rfl,ho0,hb⟩;refine ⟨_,rfl,?_⟩;have n0_:=Aside0.mk (Kd.R_below (tR_ HO568) hb);have n1_:=Aside0.mk (Kd.R_elder' (tR_ HO574) (Kd.R_base ho0) hb);have n2_:=Aside0.mk (Kd.R_elder' (tR_ HO578) (Kd.R_base ho0) hb);have n3_:=Aside0.mk (Kd.R_elder' (tR_ HO582) (Kd.R_base ho0) hb);have n4_:=Aside0.mk (Kd.R_elder' (tR_ HO586) (Kd.R_base ho0) hb);have n5_:=Aside0.mk (Kd.R_lower (Kd.R_new' (Kd.R_new' (Kd.R_new' (Kd.R_new' ho0 (Kd.R_lt (tR_ HO574))) (Kd.R_lt (tR_ HO578))) (Kd.R_lt (tR_ HO582))) (Kd.R_lt (tR_ HO586))) (below_size (tB_ HB)));have n6_:=Aside0.mk (below_step (tB_ HB) hb);clear HO568;clear HO574;clear HO578;clear HO582;clear HO586;clear HB;have HO568:=n0_;have HO574:=n1_;have HO578:=n2_;have HO582:=n3_;have HO586:=n4_;have HO590:=n5_;have HB:=n6_;clear n0_ n1_ n2_ n3_ n4_ n5_ n6_;(try clear hb);(try clear hb2);(try clear hk);(try clear hi);(try clear ho0)))
 (try simp only [Act.put,List.setIfInBounds_toArray,List.set_cons_zero,List.set_cons_succ])
 go_cut [93] (fun v93 wc=>∃ (kq:Nat) (x93_11:Bool),v93=.bool x93_11∧Aside0 (nl_RulesSteps.j0 kq t570 t566 t569 t575 t576 t579 t580 t583 t584 t587 x93_11=some r)∧Aside0 (kq≤k)∧Aside0 (Kd.R k94 94 wc w.heap.size (fun _=>True) (.slice Ao14 t566.length co14) t566)∧Aside0 (Kd.R Kd.string 9 wc w.heap.size (fun k_=>some k_≠(v581:Value).ownBlock∧some k_≠(v585:Value).ownBlock∧some k_≠(v589:Value).ownBlock) v577 t575)∧Aside0 (Kd.R Kd.string 9 wc w.heap.size (fun k_=>some k_≠(v577:Value).ownBlock∧some k_≠(v585:Value).ownBlock∧some k_≠(v589:Value).ownBlock) v581 t579)∧Aside0 (Kd.R Kd.string 9 wc w.heap.size (fun k_=>some k_≠(v577:Value).ownBlock∧some k_≠(v581:Value).ownBlock∧some k_≠(v589:Value).ownBlock) v585 t583)∧Aside0 (Kd.R Kd.string 9 wc w.heap.size (fun k_=>some k_≠(v577:Value).ownBlock∧some k_≠(v581:Value).ownBlock∧some k_≠(v585:Value).ownBlock) v589 t587)∧Aside0 (Below w.heap.size w wc))
 case first =>
  have H:=HC12.out
  clear HC12
  by_cases c20:t572=0
  ·rw [if_pos c20] at H
   have c20b0:(t572 == 0)=true:=beq_iff_eq.mpr c20
   have c20b1:(t572 != 0)=false:=bne_eq_false_iff_eq.mpr c20
   clear c20
   (first|rw [c20b0]|(simp only [i64_w,i32_w];rw [c20b0])|skip)
   obtain ⟨y591,hy591⟩:∃ y_:List ByteArray,y_=(([t569]:List ByteArray)):=⟨_,rfl⟩
   replace H:((nl_texts.f k t571 y591).bind fun t594=>(if t594=true then (if t576=0 then (if t580=0 then (nl_RulesSteps.j0 k t570 t566 t569 t575 t576 t579 t580 t583 t584 t587 ((t588 == 0) != (t576 == 0))) else (if t580=5 then (nl_RulesSteps.j0 k t570 t566 t569 t575 t576 t579 t580 t583 t584 t587 ((t588 == 0) != (t576 == 0))) else (nl_RulesSteps.j0 k t570 t566 t569 t575 t576 t579 t580 t583 t584 t587 true))) else (if t576=5 then (if t580=0 then (nl_RulesSteps.j0 k t570 t566 t569 t575 t576 t579 t580 t583 t584 t587 ((t588 == 0) != (t576 == 0))) else (if t580=5 then (nl_RulesSteps.j0 k t570 t566 t569 t575 t576 t579 t580 t583 t584 t587 ((t588 == 0) != (t576 == 0))) else (nl_RulesSteps.j0 k t570 t566 t569 t575 t576 t579 t580 t583 t584 t587 true))) else (nl_RulesSteps.j0 k t570 t566 t569 t575 t576 t579 t580 t583 t584 t587 true))) else (nl_RulesSteps.j0 k t570 t566 t569 t575 t576 t579 t580 t583 t584 t587 true)))=some r:=by first|(rw [hy591];with_reducible exact H)|(have H2_:=(Option.bind_some _ _).symm.trans H;rw [hy591];with_reducible exact H2_)|(have H2_:=(Option.bind_some _ _).symm.trans H;with_reducible exact H2_)|with_reducible exact H|(rw [hy591];exact H)|exact H
   have Ny591:=Aside0.mk hy591
   clear hy591
   replace H:=Option.bind_eq_some_iff.mp H
   obtain ⟨t594,A210,H⟩:=H
   replace H:(if t594=true then (if t576=0 then (if t580=0 then (nl_RulesSteps.j0 k t570 t566 t569 t575 t576 t579 t580 t583 t584 t587 ((t588 == 0) != (t576 == 0))) else (if t580=5 then (nl_RulesSteps.j0 k t570 t566 t569 t575 t576 t579 t580 t583 t584 t587 ((t588 == 0) != (t576 == 0))) else (nl_RulesSteps.j0 k t570 t566 t569 t575 t576 t579 t580 t583 t584 t587 true))) else (if t576=5 then (if t580=0 then (nl_RulesSteps.j0 k t570 t566 t569 t575 t576 t579 t580 t583 t584 t587 ((t588 == 0) != (t576 == 0))) else (if t580=5 then (nl_RulesSteps.j0 k t570 t566 t569 t575 t576 t579 t580 t583 t584 t587 ((t588 == 0) != (t576 == 0))) else (nl_RulesSteps.j0 k t570 t566 t569 t575 t576 t579 t580 t583 t584 t587 true))) else (nl_RulesSteps.j0 k t570 t566 t569 t575 t576 t579 t580 t583 t584 t587 true))) else (nl_RulesSteps.j0 k t570 t566 t569 t575 t576 t579 t580 t583 t584 t587 true))=some r:=H
   have A21:=Aside0.mk A210
   clear A210
   by_cases c22:t594=true
   ·subst c22
    have H1:(if t576=0 then (if t580=0 then (nl_RulesSteps.j0 k t570 t566 t569 t575 t576 t579 t580 t583 t584 t587 ((t588 == 0) != (t576 == 0))) else (if t580=5 then (nl_RulesSteps.j0 k t570 t566 t569 t575 t576 t579 t580 t583 t584 t587 ((t588 == 0) != (t576 == 0))) else (nl_RulesSteps.j0 k t570 t566 t569 t575 t576 t579 t580 t583 t584 t587 true))) else (if t576=5 then (if t580=0 then (nl_RulesSteps.j0 k t570 t566 t569 t575 t576 t579 t580 t583 t584 t587 ((t588 == 0) != (t576 == 0))) else (if t580=5 then (nl_RulesSteps.j0 k t570 t566 t569 t575 t576 t579 t580 t583 t584 t587 ((t588 == 0) != (t576 == 0))) else (nl_RulesSteps.j0 k t570 t566 t569 t575 t576 t579 t580 t583 t584 t587 true))) else (nl_RulesSteps.j0 k t570 t566 t569 t575 t576 t579 t580 t583 t584 t587 true)))=some r:=by rw [if_pos rfl] at H;exact H
    clear H
    have H:=H1
    clear H1
    by_cases c23:t576=0
    ·rw [if_pos c23] at H
     have c23b0:(t576 == 0)=true:=beq_iff_eq.mpr c23
     have c23b1:(t576 != 0)=false:=bne_eq_false_iff_eq.mpr c23
     clear c23
     by_cases c24:t580=0
     ·rw [if_pos c24] at H
      have c24b0:(t580 == 0)=true:=beq_iff_eq.mpr c24
      have c24b1:(t580 != 0)=false:=bne_eq_false_iff_eq.mpr c24
      clear c24
      have H':=Aside0.mk H
      clear H
      go_wp2_with (first|((with_reducible refine gate_dst (N:=67) rfl ?_);(try (refine gate_guard (by rfl) ?_;dsimp only));refine Kd.R_lit Kd.string _ 9 ?hg (N:=67) ?hd (xs:=([t569]:List ByteArray)) (inner:=[.string t569]) (ok:=fun _=>True) (okp:=fun _=>True) ?hr ?hp (fun _ hk=>hk) trivial (Below.refl _ _) (Nat.le_refl _) (by simp) ?_;(case hd=>rfl);(case hg=>rfl);(case hr=>first|(go_simp;done)|(go_simp;rfl));(case hp=>exact (Reps.one (show Kd.M Kd.string _ _ _ t569 [.string t569] from rfl) (Reps.none _ _)));intro v592 w25 ho26 hb hg_ hnew_;clear hg_ hnew_;(first|rw [←Ny591.out] at ho26|(simp only [Int.reduceToNat] at ho26;rw [←Ny591.out] at ho26));have n0_:=Aside0.mk (Kd.R_below (tR_ HO568) hb);have n1_:=Aside0.mk (Kd.R_elder' (tR_ HO574) (Kd.R_base ho26) hb);have n2_:=Aside0.mk (Kd.R_elder' (tR_ HO578) (Kd.R_base ho26) hb);have n3_:=Aside0.mk (Kd.R_elder' (tR_ HO582) (Kd.R_base ho26) hb);have n4_:=Aside0.mk (Kd.R_elder' (tR_ HO586) (Kd.R_base ho26) hb);have n5_:=Aside0.mk (Kd.R_elder' (tR_ HO590) (Kd.R_base ho26) hb);have n6_:=Aside0.mk (Kd.R_lower (Kd.R_new' (Kd.R_new' (Kd.R_new' (Kd.R_new' (Kd.R_new' ho26 (Kd.R_lt (tR_ HO574))) (Kd.R_lt (tR_ HO578))) (Kd.R_lt (tR_ HO582))) (Kd.R_lt (tR_ HO586))) (Kd.R_lt (tR_ HO590))) (below_size (tB_ HB)));have n7_:=Aside0.mk (below_step (tB_ HB) hb);clear HO568;clear HO574;clear HO578;clear HO582;clear HO586;clear HO590;clear HB;have HO568:=n0_;have HO574:=n1_;have HO578:=n2_;have HO582:=n3_;have HO586:=n4_;have HO590:=n5_;have HO593:=n6_;have HB:=n7_;clear n0_ n1_ n2_ n3_ n4_ n5_ n6_ n7_;clear hb ho26;obtain ⟨Ao27,co27,eo27⟩:=Kd.R_slice HO574.out;subst eo27;obtain ⟨Ao28,co28,eo28⟩:=Kd.R_slice HO593.out;subst eo28)|(go_at_call 53;(with_reducible refine (nl_texts.calls k _ _ t571 _ _ y591 true _ ?side1 ?side2 ?side3 ?side4 A21.out).mono ?_);(case side1=>repeat (first|exact (Kd.R_reads' HO574.out).2.2|(with_reducible refine Kd.C_alloc ?_ _)|(with_reducible refine Kd.C_drewN ?_ _)|(with_reducible refine Kd.C_drew ?_)));(case side2=>exact (Kd.R_reads' HO574.out).2.1);(case side3=>repeat (first|exact (Kd.R_reads' HO593.out).2.2|(with_reducible refine Kd.C_alloc ?_ _)|(with_reducible refine Kd.C_drewN ?_ _)|(with_reducible refine Kd.C_drew ?_)));(case side4=>exact (Kd.R_reads' HO593.out).2.1);rintro e w' ⟨rfl,⟨nd,rfl⟩⟩))
      go_meet
      case rel=>exact ⟨_,(((t588 == 0) != (t576 == 0))),tS_,H',⟨by first|omega|exact Nat.le_refl _⟩,⟨tR_ HO568⟩,⟨by (with_reducible repeat (first|apply Kd.R_alloc|apply Kd.R_drewN|apply Kd.R_drew));exact Kd.R_mono HO578.out (fun _ hk=>⟨hk.1.1.1.2,⟨hk.1.1.2,hk.1.2⟩⟩)⟩,⟨by (with_reducible repeat (first|apply Kd.R_alloc|apply Kd.R_drewN|apply Kd.R_drew));exact Kd.R_mono HO582.out (fun _ hk=>⟨hk.1.1.1.2,⟨hk.1.1.2,hk.1.2⟩⟩)⟩,⟨by (with_reducible repeat (first|apply Kd.R_alloc|apply Kd.R_drewN|apply Kd.R_drew));exact Kd.R_mono HO586.out (fun _ hk=>⟨hk.1.1.1.2,⟨hk.1.1.2,hk.1.2⟩⟩)⟩,⟨by (with_reducible repeat (first|apply Kd.R_alloc|apply Kd.R_drewN|apply Kd.R_drew));exact Kd.R_mono HO590.out (fun _ hk=>⟨hk.1.1.1.2,⟨hk.1.1.2,hk.1.2⟩⟩)⟩,⟨tB_ HB⟩⟩
     ·rw [if_neg c24] at H
      have c24b0:(t580 == 0)=false:=beq_eq_false_iff_ne.mpr c24
      have c24b1:(t580 != 0)=true:=bne_iff_ne.mpr c24
      by_cases c29:t580=5
      ·rw [if_pos c29] at H
       have c29b0:(t580 == 5)=true:=beq_iff_eq.mpr c29
       have c29b1:(t580 != 5)=false:=bne_eq_false_iff_eq.mpr c29
       clear c29
       have H':=Aside0.mk H
       clear H
       go_wp2_with (first|((with_reducible refine gate_dst (N:=67) rfl ?_);(try (refine gate_guard (by rfl) ?_;dsimp only));refine Kd.R_lit Kd.string _ 9 ?hg (N:=67) ?hd (xs:=([t569]:List ByteArray)) (inner:=[.string t569]) (ok:=fun _=>True) (okp:=fun _=>True) ?hr ?hp (fun _ hk=>hk) trivial (Below.refl _ _) (Nat.le_refl _) (by simp) ?_;(case hd=>rfl);(case hg=>rfl);(case hr=>first|(go_simp;done)|(go_simp;rfl));(case hp=>exact (Reps.one (show Kd.M Kd.string _ _ _ t569 [.string t569] from rfl) (Reps.none _ _)));intro v592 w30 ho31 hb hg_ hnew_;clear hg_ hnew_;(first|rw [←Ny591.out] at ho31|(simp only [Int.reduceToNat] at ho31;rw [←Ny591.out] at ho31));have n0_:=Aside0.mk (Kd.R_below (tR_ HO568) hb);have n1_:=Aside0.mk (Kd.R_elder' (tR_ HO574) (Kd.R_base ho31) hb);have n2_:=Aside0.mk (Kd.R_elder' (tR_ HO578) (Kd.R_base ho31) hb);have n3_:=Aside0.mk (Kd.R_elder' (tR_ HO582) (Kd.R_base ho31) hb);have n4_:=Aside0.mk (Kd.R_elder' (tR_ HO586) (Kd.R_base ho31) hb);have n5_:=Aside0.mk (Kd.R_elder' (tR_ HO590) (Kd.R_base ho31) hb);have n6_:=Aside0.mk (Kd.R_lower (Kd.R_new' (Kd.R_new' (Kd.R_new' (Kd.R_new' (Kd.R_new' ho31 (Kd.R_lt (tR_ HO574))) (Kd.R_lt (tR_ HO578))) (Kd.R_lt (tR_ HO582))) (Kd.R_lt (tR_ HO586))) (Kd.R_lt (tR_ HO590))) (below_size (tB_ HB)));have n7_:=Aside0.mk (below_step (tB_ HB) hb);clear HO568;clear HO574;clear HO578;clear HO582;clear HO586;clear HO590;clear HB;have HO568:=n0_;have HO574:=n1_;have HO578:=n2_;have HO582:=n3_;have HO586:=n4_;have HO590:=n5_;have HO593:=n6_;have HB:=n7_;clear n0_ n1_ n2_ n3_ n4_ n5_ n6_ n7_;clear hb ho31;obtain ⟨Ao32,co32,eo32⟩:=Kd.R_slice HO574.out;subst eo32;obtain ⟨Ao33,co33,eo33⟩:=Kd.R_slice HO593.out;subst eo33)|(go_at_call 53;(with_reducible refine (nl_texts.calls k _ _ t571 _ _ y591 true _ ?side1 ?side2 ?side3 ?side4 A21.out).mono ?_);(case side1=>repeat (first|exact (Kd.R_reads' HO574.out).2.2|(with_reducible refine Kd.C_alloc ?_ _)|(with_reducible refine Kd.C_drewN ?_ _)|(with_reducible refine Kd.C_drew ?_)));(case side2=>exact (Kd.R_reads' HO574.out).2.1);(case side3=>repeat (first|exact (Kd.R_reads' HO593.out).2.2|(with_reducible refine Kd.C_alloc ?_ _)|(with_reducible refine Kd.C_drewN ?_ _)|(with_reducible refine Kd.C_drew ?_)));(case side4=>exact (Kd.R_reads' HO593.out).2.1);rintro e w' ⟨rfl,⟨nd,rfl⟩⟩))
       go_meet
       case rel=>exact ⟨_,(((t588 == 0) != (t576 == 0))),tS_,H',⟨by first|omega|exact Nat.le_refl _⟩,⟨tR_ HO568⟩,⟨by (with_reducible repeat (first|apply Kd.R_alloc|apply Kd.R_drewN|apply Kd.R_drew));exact Kd.R_mono HO578.out (fun _ hk=>⟨hk.1.1.1.2,⟨hk.1.1.2,hk.1.2⟩⟩)⟩,⟨by (with_reducible repeat (first|apply Kd.R_alloc|apply Kd.R_drewN|apply Kd.R_drew));exact Kd.R_mono HO582.out (fun _ hk=>⟨hk.1.1.1.2,⟨hk.1.1.2,hk.1.2⟩⟩)⟩,⟨by (with_reducible repeat (first|apply Kd.R_alloc|apply Kd.R_drewN|apply Kd.R_drew));exact Kd.R_mono HO586.out (fun _ hk=>⟨hk.1.1.1.2,⟨hk.1.1.2,hk.1.2⟩⟩)⟩,⟨by (with_reducible repeat (first|apply Kd.R_alloc|apply Kd.R_drewN|apply Kd.R_drew));exact Kd.R_mono HO590.out (fun _ hk=>⟨hk.1.1.1.2,⟨hk.1.1.2,hk.1.2⟩⟩)⟩,⟨tB_ HB⟩⟩
      ·rw [if_neg c29] at H
       exact absurd (H.trans (congrArg some HT0_.out)) (nl_RulesSteps.j0_no _ _ _ _ _ _ _ _ _ _ _)
    ·rw [if_neg c23] at H
     have c23b0:(t576 == 0)=false:=beq_eq_false_iff_ne.mpr c23
     have c23b1:(t576 != 0)=true:=bne_iff_ne.mpr c23
     by_cases c38:t576=5
     ·rw [if_pos c38] at H
      have c38b0:(t576 == 5)=true:=beq_iff_eq.mpr c38
      have c38b1:(t576 != 5)=false:=bne_eq_false_iff_eq.mpr c38
      clear c38
      by_cases c39:t580=0
      ·rw [if_pos c39] at H
       have c39b0:(t580 == 0)=true:=beq_iff_eq.mpr c39
       have c39b1:(t580 != 0)=false:=bne_eq_false_iff_eq.mpr c39
       clear c39
       have H':=Aside0.mk H
       clear H
       go_wp2_with (first|((with_reducible refine gate_dst (N:=67) rfl ?_);(try (refine gate_guard (by rfl) ?_;dsimp only));refine Kd.R_lit Kd.string _ 9 ?hg (N:=67) ?hd (xs:=([t569]:List ByteArray)) (inner:=[.string t569]) (ok:=fun _=>True) (okp:=fun _=>True) ?hr ?hp (fun _ hk=>hk) trivial (Below.refl _ _) (Nat.le_refl _) (by simp) ?_;(case hd=>rfl);(case hg=>rfl);(case hr=>first|(go_simp;done)|(go_simp;rfl));(case hp=>exact (Reps.one (show Kd.M Kd.string _ _ _ t569 [.string t569] from rfl) (Reps.none _ _)));intro v592 w40 ho41 hb hg_ hnew_;clear hg_ hnew_;(first|rw [←Ny591.out] at ho41|(simp only [Int.reduceToNat] at ho41;rw [←Ny591.out] at ho41));have n0_:=Aside0.mk (Kd.R_below (tR_ HO568) hb);have n1_:=Aside0.mk (Kd.R_elder' (tR_ HO574) (Kd.R_base ho41) hb);have n2_:=Aside0.mk (Kd.R_elder' (tR_ HO578) (Kd.R_base ho41) hb);have n3_:=Aside0.mk (Kd.R_elder' (tR_ HO582) (Kd.R_base ho41) hb);have n4_:=Aside0.mk (Kd.R_elder' (tR_ HO586) (Kd.R_base ho41) hb);have n5_:=Aside0.mk (Kd.R_elder' (tR_ HO590) (Kd.R_base ho41) hb);have n6_:=Aside0.mk (Kd.R_lower (Kd.R_new' (Kd.R_new' (Kd.R_new' (Kd.R_new' (Kd.R_new' ho41 (Kd.R_lt (tR_ HO574))) (Kd.R_lt (tR_ HO578))) (Kd.R_lt (tR_ HO582))) (Kd.R_lt (tR_ HO586))) (Kd.R_lt (tR_ HO590))) (below_size (tB_ HB)));have n7_:=Aside0.mk (below_step (tB_ HB) hb);clear HO568;clear HO574;clear HO578;clear HO582;clear HO586;clear HO590;clear HB;have HO568:=n0_;have HO574:=n1_;have HO578:=n2_;have HO582:=n3_;have HO586:=n4_;have HO590:=n5_;have HO593:=n6_;have HB:=n7_;clear n0_ n1_ n2_ n3_ n4_ n5_ n6_ n7_;clear hb ho41;obtain ⟨Ao42,co42,eo42⟩:=Kd.R_slice HO574.out;subst eo42;obtain ⟨Ao43,co43,eo43⟩:=Kd.R_slice HO593.out;subst eo43)|(go_at_call 53;(with_reducible refine (nl_texts.calls k _ _ t571 _ _ y591 true _ ?side1 ?side2 ?side3 ?side4 A21.out).mono ?_);(case side1=>repeat (first|exact (Kd.R_reads' HO574.out).2.2|(with_reducible refine Kd.C_alloc ?_ _)|(with_reducible refine Kd.C_drewN ?_ _)|(with_reducible refine Kd.C_drew ?_)));(case side2=>exact (Kd.R_reads' HO574.out).2.1);(case side3=>repeat (first|exact (Kd.R_reads' HO593.out).2.2|(with_reducible refine Kd.C_alloc ?_ _)|(with_reducible refine Kd.C_drewN ?_ _)|(with_reducible refine Kd.C_drew ?_)));(case side4=>exact (Kd.R_reads' HO593.out).2.1);rintro e w' ⟨rfl,⟨nd,rfl⟩⟩))
       go_meet
       case rel=>exact ⟨_,(((t588 == 0) != (t576 == 0))),tS_,H',⟨by first|omega|exact Nat.le_refl _⟩,⟨tR_ HO568⟩,⟨by (with_reducible repeat (first|apply Kd.R_alloc|apply Kd.R_drewN|apply Kd.R_drew));exact Kd.R_mono HO578.out (fun _ hk=>⟨hk.1.1.1.2,⟨hk.1.1.2,hk.1.2⟩⟩)⟩,⟨by (with_reducible repeat (first|apply Kd.R_alloc|apply Kd.R_drewN|apply Kd.R_drew));exact Kd.R_mono HO582.out (fun _ hk=>⟨hk.1.1.1.2,⟨hk.1.1.2,hk.1.2⟩⟩)⟩,⟨by (with_reducible repeat (first|apply Kd.R_alloc|apply Kd.R_drewN|apply Kd.R_drew));exact Kd.R_mono HO586.out (fun _ hk=>⟨hk.1.1.1.2,⟨hk.1.1.2,hk.1.2⟩⟩)⟩,⟨by (with_reducible repeat (first|apply Kd.R_alloc|apply Kd.R_drewN|apply Kd.R_drew));exact Kd.R_mono HO590.out (fun _ hk=>⟨hk.1.1.1.2,⟨hk.1.1.2,hk.1.2⟩⟩)⟩,⟨tB_ HB⟩⟩
      ·rw [if_neg c39] at H
       have c39b0:(t580 == 0)=false:=beq_eq_false_iff_ne.mpr c39
       have c39b1:(t580 != 0)=true:=bne_iff_ne.mpr c39
       by_cases c44:t580=5
       ·rw [if_pos c44] at H
        have c44b0:(t580 == 5)=true:=beq_iff_eq.mpr c44
        have c44b1:(t580 != 5)=false:=bne_eq_false_iff_eq.mpr c44
        clear c44
        have H':=Aside0.mk H
        clear H
        go_wp2_with (first|((with_reducible refine gate_dst (N:=67) rfl ?_);(try (refine gate_guard (by rfl) ?_;dsimp only));refine Kd.R_lit Kd.string _ 9 ?hg (N:=67) ?hd (xs:=([t569]:List ByteArray)) (inner:=[.string t569]) (ok:=fun _=>True) (okp:=fun _=>True) ?hr ?hp (fun _ hk=>hk) trivial (Below.refl _ _) (Nat.le_refl _) (by simp) ?_;(case hd=>rfl);(case hg=>rfl);(case hr=>first|(go_simp;done)|(go_simp;rfl));(case hp=>exact (Reps.one (show Kd.M Kd.string _ _ _ t569 [.string t569] from rfl) (Reps.none _ _)));intro v592 w45 ho46 hb hg_ hnew_;clear hg_ hnew_;(first|rw [←Ny591.out] at ho46|(simp only [Int.reduceToNat] at ho46;rw [←Ny591.out] at ho46));have n0_:=Aside0.mk (Kd.R_below (tR_ HO568) hb);have n1_:=Aside0.mk (Kd.R_elder' (tR_ HO574) (Kd.R_base ho46) hb);have n2_:=Aside0.mk (Kd.R_elder' (tR_ HO578) (Kd.R_base ho46) hb);have n3_:=Aside0.mk (Kd.R_elder' (tR_ HO582) (Kd.R_base ho46) hb);have n4_:=Aside0.mk (Kd.R_elder' (tR_ HO586) (Kd.R_base ho46) hb);have n5_:=Aside0.mk (Kd.R_elder' (tR_ HO590) (Kd.R_base ho46) hb);have n6_:=Aside0.mk (Kd.R_lower (Kd.R_new' (Kd.R_new' (Kd.R_new' (Kd.R_new' (Kd.R_new' ho46 (Kd.R_lt (tR_ HO574))) (Kd.R_lt (tR_ HO578))) (Kd.R_lt (tR_ HO582))) (Kd.R_lt (tR_ HO586))) (Kd.R_lt (tR_ HO590))) (below_size (tB_ HB)));have n7_:=Aside0.mk (below_step (tB_ HB) hb);clear HO568;clear HO574;clear HO578;clear HO582;clear HO586;clear HO590;clear HB;have HO568:=n0_;have HO574:=n1_;have HO578:=n2_;have HO582:=n3_;have HO586:=n4_;have HO590:=n5_;have HO593:=n6_;have HB:=n7_;clear n0_ n1_ n2_ n3_ n4_ n5_ n6_ n7_;clear hb ho46;obtain ⟨Ao47,co47,eo47⟩:=Kd.R_slice HO574.out;subst eo47;obtain ⟨Ao48,co48,eo48⟩:=Kd.R_slice HO593.out;subst eo48)|(go_at_call 53;(with_reducible refine (nl_texts.calls k _ _ t571 _ _ y591 true _ ?side1 ?side2 ?side3 ?side4 A21.out).mono ?_);(case side1=>repeat (first|exact (Kd.R_reads' HO574.out).2.2|(with_reducible refine Kd.C_alloc ?_ _)|(with_reducible refine Kd.C_drewN ?_ _)|(with_reducible refine Kd.C_drew ?_)));(case side2=>exact (Kd.R_reads' HO574.out).2.1);(case side3=>repeat (first|exact (Kd.R_reads' HO593.out).2.2|(with_reducible refine Kd.C_alloc ?_ _)|(with_reducible refine Kd.C_drewN ?_ _)|(with_reducible refine Kd.C_drew ?_)));(case side4=>exact (Kd.R_reads' HO593.out).2.1);rintro e w' ⟨rfl,⟨nd,rfl⟩⟩))
        go_meet
        case rel=>exact ⟨_,(((t588 == 0) != (t576 == 0))),tS_,H',⟨by first|omega|exact Nat.le_refl _⟩,⟨tR_ HO568⟩,⟨by (with_reducible repeat (first|apply Kd.R_alloc|apply Kd.R_drewN|apply Kd.R_drew));exact Kd.R_mono HO578.out (fun _ hk=>⟨hk.1.1.1.2,⟨hk.1.1.2,hk.1.2⟩⟩)⟩,⟨by (with_reducible repeat (first|apply Kd.R_alloc|apply Kd.R_drewN|apply Kd.R_drew));exact Kd.R_mono HO582.out (fun _ hk=>⟨hk.1.1.1.2,⟨hk.1.1.2,hk.1.2⟩⟩)⟩,⟨by (with_reducible repeat (first|apply Kd.R_alloc|apply Kd.R_drewN|apply Kd.R_drew));exact Kd.R_mono HO586.out (fun _ hk=>⟨hk.1.1.1.2,⟨hk.1.1.2,hk.1.2⟩⟩)⟩,⟨by (with_reducible repeat (first|apply Kd.R_alloc|apply Kd.R_drewN|apply Kd.R_drew));exact Kd.R_mono HO590.out (fun _ hk=>⟨hk.1.1.1.2,⟨hk.1.1.2,hk.1.2⟩⟩)⟩,⟨tB_ HB⟩⟩
       ·rw [if_neg c44] at H
        exact absurd (H.trans (congrArg some HT0_.out)) (nl_RulesSteps.j0_no _ _ _ _ _ _ _ _ _ _ _)
     ·rw [if_neg c38] at H
      exact absurd (H.trans (congrArg some HT0_.out)) (nl_RulesSteps.j0_no _ _ _ _ _ _ _ _ _ _ _)
   ·replace c22:=Bool.eq_false_iff.mpr c22
    subst c22
    have H1:(nl_RulesSteps.j0 k t570 t566 t569 t575 t576 t579 t580 t583 t584 t587 true)=some r:=by rw [if_neg (show ¬ (false=true) by decide)] at H;exact H
    exact absurd (H1.trans (congrArg some HT0_.out)) (nl_RulesSteps.j0_no _ _ _ _ _ _ _ _ _ _ _)
  ·rw [if_neg c20] at H
   exact absurd (H.trans (congrArg some HT0_.out)) (nl_RulesSteps.j0_no _ _ _ _ _ _ _ _ _ _ _)
 case rest =>
  clear HC12
  try clear c1
  try clear c2
  try clear p2
  try clear c3
  try clear c4
  try clear c5
  try clear p6
  try clear c13
  try clear c20
  try clear c20b0
  try clear c20b1
  try clear c22
  try clear c23
  try clear c23b0
  try clear c23b1
  try clear c24
  try clear c24b0
  try clear c24b1
  try clear c29
  try clear c29b0
  try clear c29b1
  try clear c33
  try clear c38
  try clear c38b0
  try clear c38b1
  try clear c39
  try clear c39b0
  try clear c39b1
  try clear c41
  try clear c44
  try clear c44b0
  try clear c44b1
  try clear c49
  try clear c55
  try clear c56
  obtain ⟨kq,x93_11,rfl,HA,HJ11,HO_7,HO_11,HO_13,HO_15,HO_17,HB⟩:=hcut
  cases kq with
  | zero=>exact absurd HA.out (by simp [nl_RulesSteps.j0])
  | succ kj11 =>
   have H:=HA.out
   clear HA
   simp only [nl_RulesSteps.j0] at H
   by_cases c61:x93_11=true
   ·subst c61
    have H1:(some false)=some r:=by rw [if_pos rfl] at H;exact H
    exact absurd (H1.trans (congrArg some HT0_.out)) (by simp)
   ·replace c61:=Bool.eq_false_iff.mpr c61
    subst c61
    have H1:(if t576=0 then (nl_RulesSteps.l0 kj11 t570 t566 t569 t575 t579 t580 t583 t584 t587 (([t569]:List ByteArray)) 0) else (nl_RulesSteps.j2 kj11 t570 t566 t569 t579 t580 t583 t584))=some r:=by rw [if_neg (show ¬ (false=true) by decide)] at H;exact H
    clear H
    have H:=H1
    clear H1
    have HC62:=Aside0.mk H
    clear H
    go_upto_if 95 with (fail)
    go_cut [] (fun wc=>∃ (kq:Nat),Aside0 (nl_RulesSteps.j2 kq t570 t566 t569 t579 t580 t583 t584=some r)∧Aside0 (kq≤kj11)∧Aside0 (Kd.R k94 94 wc w.heap.size (fun _=>True) (.slice Ao14 t566.length co14) t566)∧Aside0 (Kd.R Kd.string 9 wc w.heap.size (fun k_=>some k_≠(v585:Value).ownBlock) v581 t579)∧Aside0 (Kd.R Kd.string 9 wc w.heap.size (fun k_=>some k_≠(v581:Value).ownBlock) v585 t583)∧Aside0 (Below w.heap.size w wc))
    case first =>
     have H:=HC62.out
     clear HC62
     by_cases c63:t576=0
     ·rw [if_pos c63] at H
      have c63b0:(t576 == 0)=true:=beq_iff_eq.mpr c63
      have c63b1:(t576 != 0)=false:=bne_eq_false_iff_eq.mpr c63
      clear c63
      (first|rw [c63b0]|(simp only [i64_w,i32_w];rw [c63b0])|skip)
      obtain ⟨y595,hy595⟩:∃ y_:List ByteArray,y_=(([t569]:List ByteArray)):=⟨_,rfl⟩
      replace H:(nl_RulesSteps.l0 kj11 t570 t566 t569 t575 t579 t580 t583 t584 t587 y595 0)=some r:=by first|(rw [hy595];with_reducible exact H)|(have H2_:=(Option.bind_some _ _).symm.trans H;rw [hy595];with_reducible exact H2_)|(have H2_:=(Option.bind_some _ _).symm.trans H;with_reducible exact H2_)|with_reducible exact H|(rw [hy595];exact H)|exact H
      have Ny595:=Aside0.mk hy595
      clear hy595
      have H':=Aside0.mk H
      clear H
      go_wp2_with (first|((with_reducible refine gate_dst (N:=97) rfl ?_);(try (refine gate_guard (by rfl) ?_;dsimp only));refine Kd.R_lit Kd.string _ 9 ?hg (N:=97) ?hd (xs:=([t569]:List ByteArray)) (inner:=[.string t569]) (ok:=fun _=>True) (okp:=fun _=>True) ?hr ?hp (fun _ hk=>hk) trivial (Below.refl _ _) (Nat.le_refl _) (by simp) ?_;(case hd=>rfl);(case hg=>rfl);(case hr=>first|(go_simp;done)|(go_simp;rfl));(case hp=>exact (Reps.one (show Kd.M Kd.string _ _ _ t569 [.string t569] from rfl) (Reps.none _ _)));intro v596 w64 ho65 hb hg_ hnew_;clear hg_ hnew_;(first|rw [←Ny595.out] at ho65|(simp only [Int.reduceToNat] at ho65;rw [←Ny595.out] at ho65));have n0_:=Aside0.mk (Kd.R_below (tR_ HO_7) hb);have n1_:=Aside0.mk (Kd.R_elder' (tR_ HO_11) (Kd.R_base ho65) hb);have n2_:=Aside0.mk (Kd.R_elder' (tR_ HO_13) (Kd.R_base ho65) hb);have n3_:=Aside0.mk (Kd.R_elder' (tR_ HO_15) (Kd.R_base ho65) hb);have n4_:=Aside0.mk (Kd.R_elder' (tR_ HO_17) (Kd.R_base ho65) hb);have n5_:=Aside0.mk (Kd.R_lower (Kd.R_new' (Kd.R_new' (Kd.R_new' (Kd.R_new' ho65 (Kd.R_lt (tR_ HO_11))) (Kd.R_lt (tR_ HO_13))) (Kd.R_lt (tR_ HO_15))) (Kd.R_lt (tR_ HO_17))) (below_size (tB_ HB)));have n6_:=Aside0.mk (below_step (tB_ HB) hb);clear HO_7;clear HO_11;clear HO_13;clear HO_15;clear HO_17;clear HB;have HO_7:=n0_;have HO_11:=n1_;have HO_13:=n2_;have HO_15:=n3_;have HO_17:=n4_;have HO597:=n5_;have HB:=n6_;clear n0_ n1_ n2_ n3_ n4_ n5_ n6_;clear hb ho65))
      go_loopg [19,20] kj11 (fun kq v19 v20 w'=>∃ (x19_2:List ByteArray) (x20_2:Int),v20=.int .i64 x20_2∧Aside0 (nl_RulesSteps.l0 kq t570 t566 t569 t575 t579 t580 t583 t584 t587 x19_2 x20_2=some r)∧Aside0 (kq≤kj11)∧Aside0 (Kd.R k94 94 w' w.heap.size (fun _=>True) (.slice Ao14 t566.length co14) t566)∧Aside0 (Kd.R Kd.string 9 w' w.heap.size (fun k_=>some k_≠(v581:Value).ownBlock∧some k_≠(v585:Value).ownBlock∧some k_≠(v589:Value).ownBlock∧some k_≠(v19:Value).ownBlock) v577 t575)∧Aside0 (Kd.R Kd.string 9 w' w.heap.size (fun k_=>some k_≠(v577:Value).ownBlock∧some k_≠(v585:Value).ownBlock∧some k_≠(v589:Value).ownBlock∧some k_≠(v19:Value).ownBlock) v581 t579)∧Aside0 (Kd.R Kd.string 9 w' w.heap.size (fun k_=>some k_≠(v577:Value).ownBlock∧some k_≠(v581:Value).ownBlock∧some k_≠(v589:Value).ownBlock∧some k_≠(v19:Value).ownBlock) v585 t583)∧Aside0 (Kd.R Kd.string 9 w' w.heap.size (fun k_=>some k_≠(v577:Value).ownBlock∧some k_≠(v581:Value).ownBlock∧some k_≠(v585:Value).ownBlock∧some k_≠(v19:Value).ownBlock) v589 t587)∧Aside0 (Kd.R Kd.string 9 w' w.heap.size (fun k_=>some k_≠(v577:Value).ownBlock∧some k_≠(v581:Value).ownBlock∧some k_≠(v585:Value).ownBlock∧some k_≠(v589:Value).ownBlock) v19 x19_2)∧Aside0 (Below w.heap.size w w'))
      case atStart=>exact ⟨(y595),(0),tS_,H',⟨Nat.le_refl _⟩,⟨tR_ HO_7⟩,⟨by (with_reducible repeat (first|apply Kd.R_alloc|apply Kd.R_drewN|apply Kd.R_drew));exact Kd.R_mono HO_11.out (fun _ hk=>⟨hk.1.1,⟨hk.1.2.1,⟨hk.1.2.2,hk.2⟩⟩⟩)⟩,⟨by (with_reducible repeat (first|apply Kd.R_alloc|apply Kd.R_drewN|apply Kd.R_drew));exact Kd.R_mono HO_13.out (fun _ hk=>⟨hk.1.1,⟨hk.1.2.1,⟨hk.1.2.2,hk.2⟩⟩⟩)⟩,⟨by (with_reducible repeat (first|apply Kd.R_alloc|apply Kd.R_drewN|apply Kd.R_drew));exact Kd.R_mono HO_15.out (fun _ hk=>⟨hk.1.1,⟨hk.1.2.1,⟨hk.1.2.2,hk.2⟩⟩⟩)⟩,⟨by (with_reducible repeat (first|apply Kd.R_alloc|apply Kd.R_drewN|apply Kd.R_drew));exact Kd.R_mono HO_17.out (fun _ hk=>⟨hk.1.1,⟨hk.1.2.1,⟨hk.1.2.2,hk.2⟩⟩⟩)⟩,⟨by (with_reducible repeat (first|apply Kd.R_alloc|apply Kd.R_drewN|apply Kd.R_drew));exact Kd.R_mono HO597.out (fun _ hk=>⟨hk.1.1.1.2,⟨hk.1.1.2,⟨hk.1.2,hk.2⟩⟩⟩)⟩,⟨tB_ HB⟩⟩
      case round =>
       clear H'
       try clear c1
       try clear c2
       try clear p2
       try clear c3
       try clear c4
       try clear c5
       try clear c6
       try clear p6
       try clear c13
       try clear c20
       try clear c20b0
       try clear c20b1
       try clear c22
       try clear c23
       try clear c23b0
       try clear c23b1
       try clear c24
       try clear c24b0
       try clear c24b1
       try clear c29
       try clear c29b0
       try clear c29b1
       try clear c33
       try clear c38
       try clear c38b0
       try clear c38b1
       try clear c39
       try clear c39b0
       try clear c39b1
       try clear c41
       try clear c44
       try clear c44b0
       try clear c44b1
       try clear c49
       try clear c55
       try clear c56
       try clear c61
       try clear c63
       try clear c63b0
       try clear c63b1
       try clear p64
       try clear p2
       try clear p6
       obtain ⟨x19_2,x20_2,rfl,HA,HK2,HO_7,HO_11,HO_13,HO_15,HO_17,HO_19,HB⟩:=hrel
       cases gk with
       | zero=>exact absurd HA.out (by simp [nl_RulesSteps.l0])
       | succ k2 =>
        have H:=HA.out
        clear HA
        simp only [nl_RulesSteps.l0] at H
        by_cases c66:x20_2 < (t587.length:Int)
        ·rw [if_pos c66] at H
         have c66b0:decide (x20_2 < (t587.length:Int))=true:=decide_eq_true c66
         clear c66
         by_cases c67:0≤x20_2
         ·rw [if_pos c67] at H
          have c67b0:decide (0≤x20_2)=true:=decide_eq_true c67
          clear c67
          by_cases c68:(rdOf ByteArray.empty t587 x20_2).toList=t569.toList
          ·rw [if_pos c68] at H
           have c68b0:((rdOf ByteArray.empty t587 x20_2).toList == t569.toList)=true:=beq_iff_eq.mpr c68
           have c68b1:((rdOf ByteArray.empty t587 x20_2).toList != t569.toList)=false:=bne_eq_false_iff_eq.mpr c68
           clear c68
           have H':=Aside0.mk H
           clear H
           obtain ⟨Ao69,co69,eo69⟩:=Kd.R_slice HO_17.out
           subst eo69
           have p598:0≤(x20_2:Int):=oT_
           have q598:x20_2 < (t587.length:Int):=oT_
           obtain ⟨ad598,e598,hx598_0⟩:=Kd.at_string (Kd.R_reads' HO_17.out).2.2 x20_2 p598 q598
           cases e598
           replace p598:=eq_true p598
           replace q598:=eq_true q598
           go_wp2
           go_roundg k2
           case measure=>have:=HJ11.out;have:=HK2.out;omega
           case rel=>exact ⟨(x19_2),(wrap64 (x20_2+1)),tS_,H',⟨by have:=HJ11.out;have:=HK2.out;omega⟩,⟨tR_ HO_7⟩,⟨tR_ HO_11⟩,⟨tR_ HO_13⟩,⟨tR_ HO_15⟩,⟨tR_ HO_17⟩,⟨tR_ HO_19⟩,⟨tB_ HB⟩⟩
          ·rw [if_neg c68] at H
           have c68b0:((rdOf ByteArray.empty t587 x20_2).toList == t569.toList)=false:=beq_eq_false_iff_ne.mpr c68
           have c68b1:((rdOf ByteArray.empty t587 x20_2).toList != t569.toList)=true:=bne_iff_ne.mpr c68
           by_cases c70:x19_2.length < 8796093022208
           ·rw [if_pos c70] at H
            have LMc70:=Aside0.mk c70
            clear c70
            obtain ⟨y600,hy600⟩:∃ y_:List ByteArray,y_=(x19_2++[rdOf ByteArray.empty t587 x20_2]):=⟨_,rfl⟩
            replace H:(nl_RulesSteps.l0 k2 t570 t566 t569 t575 t579 t580 t583 t584 t587 y600 (wrap64 (x20_2+1)))=some r:=by first|(rw [hy600];with_reducible exact H)|(have H2_:=(Option.bind_some _ _).symm.trans H;rw [hy600];with_reducible exact H2_)|(have H2_:=(Option.bind_some _ _).symm.trans H;with_reducible exact H2_)|with_reducible exact H|(rw [hy600];exact H)|exact H
            have Ny600:=Aside0.mk hy600
            clear hy600
            have H':=Aside0.mk H
            clear H
            obtain ⟨Ao71,co71,eo71⟩:=Kd.R_slice HO_17.out
            subst eo71
            have p598:0≤(x20_2:Int):=oT_
            have q598:x20_2 < (t587.length:Int):=oT_
            obtain ⟨ad598,e598,hx598_0⟩:=Kd.at_string (Kd.R_reads' HO_17.out).2.2 x20_2 p598 q598
            cases e598
            replace p598:=eq_true p598
            replace q598:=eq_true q598
            have p599:0≤(x20_2:Int):=oT_
            have q599:x20_2 < (t587.length:Int):=oT_
            obtain ⟨ad599,e599,hx599_0⟩:=Kd.at_string (Kd.R_reads' HO_17.out).2.2 x20_2 p599 q599
            obtain rfl:ad598=ad599:=(by injection e599)
            replace p599:=eq_true p599
            replace q599:=eq_true q599
            go_wp2_with (first|((with_reducible refine gate_builtin (b:=.append) (xs:=#[.tmp 110,.tmp 115]) rfl ?_);(try (refine gate_guard (by rfl) ?_;dsimp only));at_builtin;refine Kd.R_append Kd.string (w0:=w) w.heap.size rfl (.tmp 110) (.tmp 115) 36 9 (.string ⟨#[]⟩) 16 rfl Tryz.underlying36 info9 rfl (by decide) (by omega) u19 x19_2 (rdOf ByteArray.empty t587 x20_2) [.string (rdOf ByteArray.empty t587 x20_2)] (fun k_=>some k_≠(v577:Value).ownBlock∧some k_≠(v581:Value).ownBlock∧some k_≠(v585:Value).ownBlock∧some k_≠(.slice (some ad598) t587.length co71:Value).ownBlock) (fun _=>False) rfl rfl ?aP (fun _ hk=>hk.elim) ?aF ?aO ?aB ?aS ?aL ?_;(case aP=>exact rfl);(case aB=>exact (tB_ HB));(case aF=>exact (fun k_ hk=>⟨Kd.fresh' (Kd.R_lt (tR_ HO_11)) k_ hk,Kd.fresh' (Kd.R_lt (tR_ HO_13)) k_ hk,Kd.fresh' (Kd.R_lt (tR_ HO_15)) k_ hk,Kd.fresh' (Kd.R_lt (tR_ HO_17)) k_ hk⟩));(case aO=>exact (tR_ HO_19));(case aS=>exact (below_size (tB_ HB)));(case aL=>have:=LMc70.out;omega);intro v601 w72 ho hb hg hat;rw [←Ny600.out] at ho;have n0_:=Aside0.mk (Kd.R_over' (tR_ HO_7) (Kd.R_typed (tR_ HO_19)) (by decide) hg);have n1_:=Aside0.mk (Kd.R_after (ok:=(fun k_=>some k_≠(v581:Value).ownBlock∧some k_≠(v585:Value).ownBlock∧some k_≠(.slice (some ad598) t587.length co71:Value).ownBlock)) (by (with_reducible repeat (first|apply Kd.R_alloc|apply Kd.R_drewN|apply Kd.R_drew));exact Kd.R_mono HO_11.out (fun _ hk=>⟨⟨hk.1,⟨hk.2.1,hk.2.2.1⟩⟩,hk.2.2.2⟩)) hg hat);have n2_:=Aside0.mk (Kd.R_after (ok:=(fun k_=>some k_≠(v577:Value).ownBlock∧some k_≠(v585:Value).ownBlock∧some k_≠(.slice (some ad598) t587.length co71:Value).ownBlock)) (by (with_reducible repeat (first|apply Kd.R_alloc|apply Kd.R_drewN|apply Kd.R_drew));exact Kd.R_mono HO_13.out (fun _ hk=>⟨⟨hk.1,⟨hk.2.1,hk.2.2.1⟩⟩,hk.2.2.2⟩)) hg hat);have n3_:=Aside0.mk (Kd.R_after (ok:=(fun k_=>some k_≠(v577:Value).ownBlock∧some k_≠(v581:Value).ownBlock∧some k_≠(.slice (some ad598) t587.length co71:Value).ownBlock)) (by (with_reducible repeat (first|apply Kd.R_alloc|apply Kd.R_drewN|apply Kd.R_drew));exact Kd.R_mono HO_15.out (fun _ hk=>⟨⟨hk.1,⟨hk.2.1,hk.2.2.1⟩⟩,hk.2.2.2⟩)) hg hat);have n4_:=Aside0.mk (Kd.R_after (ok:=(fun k_=>some k_≠(v577:Value).ownBlock∧some k_≠(v581:Value).ownBlock∧some k_≠(v585:Value).ownBlock)) (by (with_reducible repeat (first|apply Kd.R_alloc|apply Kd.R_drewN|apply Kd.R_drew));exact Kd.R_mono HO_17.out (fun _ hk=>⟨⟨hk.1,⟨hk.2.1,hk.2.2.1⟩⟩,hk.2.2.2⟩)) hg hat);have n5_:=Aside0.mk (hb);have n6_:=Aside0.mk (ho);clear HO_7;clear HO_11;clear HO_13;clear HO_15;clear HO_17;clear HB;clear HO_19;have HO_7:=n0_;have HO_11:=n1_;have HO_13:=n2_;have HO_15:=n3_;have HO_17:=n4_;have HB:=n5_;have HO602:=n6_;clear n0_ n1_ n2_ n3_ n4_ n5_ n6_;clear ho hb hg hat))
            go_roundg k2
            case measure=>have:=HJ11.out;have:=HK2.out;omega
            case rel=>exact ⟨(y600),(wrap64 (x20_2+1)),tS_,H',⟨by have:=HJ11.out;have:=HK2.out;omega⟩,⟨tR_ HO_7⟩,⟨by (with_reducible repeat (first|apply Kd.R_alloc|apply Kd.R_drewN|apply Kd.R_drew));exact Kd.R_mono HO_11.out (fun _ hk=>⟨hk.1.1,⟨hk.1.2.1,⟨hk.1.2.2,hk.2⟩⟩⟩)⟩,⟨by (with_reducible repeat (first|apply Kd.R_alloc|apply Kd.R_drewN|apply Kd.R_drew));exact Kd.R_mono HO_13.out (fun _ hk=>⟨hk.1.1,⟨hk.1.2.1,⟨hk.1.2.2,hk.2⟩⟩⟩)⟩,⟨by (with_reducible repeat (first|apply Kd.R_alloc|apply Kd.R_drewN|apply Kd.R_drew));exact Kd.R_mono HO_15.out (fun _ hk=>⟨hk.1.1,⟨hk.1.2.1,⟨hk.1.2.2,hk.2⟩⟩⟩)⟩,⟨by (with_reducible repeat (first|apply Kd.R_alloc|apply Kd.R_drewN|apply Kd.R_drew));exact Kd.R_mono HO_17.out (fun _ hk=>⟨hk.1.1,⟨hk.1.2.1,⟨hk.1.2.2,hk.2⟩⟩⟩)⟩,⟨tR_ HO602⟩,⟨tB_ HB⟩⟩
           ·rw [if_neg c70] at H
            exact absurd H (by simp)
         ·rw [if_neg c67] at H
          exact absurd H (by simp)
        ·rw [if_neg c66] at H
         have c66b0:decide (x20_2 < (t587.length:Int))=false:=decide_eq_false c66
         clear c66
         replace H:=Option.bind_eq_some_iff.mp H
         obtain ⟨t603,A730,H⟩:=H
         replace H:(if t603=true then (nl_RulesSteps.j2 k2 t570 t566 t569 t579 t580 t583 t584) else (some false))=some r:=H
         have A73:=Aside0.mk A730
         clear A730
         by_cases c74:t603=true
         ·subst c74
          have H1:(nl_RulesSteps.j2 k2 t570 t566 t569 t579 t580 t583 t584)=some r:=by rw [if_pos rfl] at H;exact H
          clear H
          have H:=H1
          clear H1
          have H':=Aside0.mk H
          clear H
          obtain ⟨Ao75,co75,eo75⟩:=Kd.R_slice HO_17.out
          subst eo75
          obtain ⟨Ao76,co76,eo76⟩:=Kd.R_slice HO_11.out
          subst eo76
          obtain ⟨Ao77,co77,eo77⟩:=Kd.R_slice HO_19.out
          subst eo77
          go_wp2_with (first|((with_reducible refine gate_callee (f:=53) rfl ?_);refine goesL_ (some 119) rfl rfl Tryz.func53 (by kernel_rfl) rfl #[.slice Ao76 t575.length co76,.slice Ao77 x19_2.length co77] rfl tM_ ?_;(with_reducible refine (nl_texts.calls k2 _ _ t575 _ _ x19_2 true _ ?side1 ?side2 ?side3 ?side4 A73.out).mono ?_);(case side1=>repeat (first|exact (Kd.R_reads' HO_11.out).2.2|(with_reducible refine Kd.C_alloc ?_ _)|(with_reducible refine Kd.C_drewN ?_ _)|(with_reducible refine Kd.C_drew ?_)));(case side2=>exact (Kd.R_reads' HO_11.out).2.1);(case side3=>repeat (first|exact (Kd.R_reads' HO_19.out).2.2|(with_reducible refine Kd.C_alloc ?_ _)|(with_reducible refine Kd.C_drewN ?_ _)|(with_reducible refine Kd.C_drew ?_)));(case side4=>exact (Kd.R_reads' HO_19.out).2.1);rintro e w' ⟨rfl,⟨nd,rfl⟩⟩;refine ⟨_,rfl,?_⟩))
          go_meet
          case rel=>exact ⟨_,H',⟨by have:=HJ11.out;have:=HK2.out;first|omega|exact Nat.le_refl _⟩,⟨tR_ HO_7⟩,⟨by (with_reducible repeat (first|apply Kd.R_alloc|apply Kd.R_drewN|apply Kd.R_drew));exact Kd.R_mono HO_13.out (fun _ hk=>hk.2.1)⟩,⟨by (with_reducible repeat (first|apply Kd.R_alloc|apply Kd.R_drewN|apply Kd.R_drew));exact Kd.R_mono HO_15.out (fun _ hk=>hk.2.1)⟩,⟨tB_ HB⟩⟩
         ·replace c74:=Bool.eq_false_iff.mpr c74
          subst c74
          have H1:(some false)=some r:=by rw [if_neg (show ¬ (false=true) by decide)] at H;exact H
          exact absurd (H1.trans (congrArg some HT0_.out)) (by simp)
     ·rw [if_neg c63] at H
      have c63b0:(t576 == 0)=false:=beq_eq_false_iff_ne.mpr c63
      have c63b1:(t576 != 0)=true:=bne_iff_ne.mpr c63
      (first|rw [c63b0]|(simp only [i64_w,i32_w];rw [c63b0])|skip)
      have H':=Aside0.mk H
      clear H
      go_wp2
      go_meet
      case rel=>exact ⟨_,H',⟨by have:=HJ11.out;first|omega|exact Nat.le_refl _⟩,⟨tR_ HO_7⟩,⟨by (with_reducible repeat (first|apply Kd.R_alloc|apply Kd.R_drewN|apply Kd.R_drew));exact Kd.R_mono HO_13.out (fun _ hk=>hk.2.1)⟩,⟨by (with_reducible repeat (first|apply Kd.R_alloc|apply Kd.R_drewN|apply Kd.R_drew));exact Kd.R_mono HO_15.out (fun _ hk=>hk.2.1)⟩,⟨tB_ HB⟩⟩
    case rest =>
     clear HC62
     try clear c1
     try clear c2
     try clear p2
     try clear c3
     try clear c4
     try clear c5
     try clear p5
     try clear q5
     try clear hx5
     try clear c6
     try clear p6
     try clear c7
     try clear c13
     try clear c20
     try clear c20b0
     try clear c20b1
     try clear c22
     try clear c23
     try clear c23b0
     try clear c23b1
     try clear c24
     try clear c24b0
     try clear c24b1
     try clear c29
     try clear c29b0
     try clear c29b1
     try clear c33
     try clear c38
     try clear c38b0
     try clear c38b1
     try clear c39
     try clear c39b0
     try clear c39b1
     try clear c41
     try clear c44
     try clear c44b0
     try clear c44b1
     try clear c49
     try clear c53
     try clear c55
     try clear c56
     try clear p59
     try clear q59
     try clear hx59
     try clear c61
     try clear c63
     try clear c63b0
     try clear c63b1
     try clear p64
     try clear c66
     try clear c66b0
     try clear c67
     try clear c67b0
     try clear c68
     try clear c68b0
     try clear c68b1
     try clear c70
     try clear c74
     try clear hx598_0
     try clear hx599_0
     try clear p2
     try clear p598
     try clear p599
     try clear p6
     try clear p64
     try clear q598
     try clear q599
     obtain ⟨kq,HA,HJ61,HO_7,HO_13,HO_15,HB⟩:=hcut
     cases kq with
     | zero=>exact absurd HA.out (by simp [nl_RulesSteps.j2])
     | succ kj61 =>
      have H:=HA.out
      clear HA
      simp only [nl_RulesSteps.j2] at H
      by_cases c81:t584=0
      ·rw [if_pos c81] at H
       have c81b0:(t584 == 0)=true:=beq_iff_eq.mpr c81
       have c81b1:(t584 != 0)=false:=bne_eq_false_iff_eq.mpr c81
       clear c81
       have HC82:=Aside0.mk H
       clear H
       go_upto_region 22 with (fail)
       go_cut [150] (fun v150 wc=>∃ (kq:Nat) (x150_81:Bool),v150=.bool x150_81∧Aside0 (nl_RulesSteps.j3 kq t570 t566 t569 t579 t580 t583 x150_81=some r)∧Aside0 (kq≤kj61)∧Aside0 (Kd.R k94 94 wc w.heap.size (fun _=>True) (.slice Ao14 t566.length co14) t566)∧Aside0 (Kd.R Kd.string 9 wc w.heap.size (fun k_=>some k_≠(v585:Value).ownBlock) v581 t579)∧Aside0 (Kd.R Kd.string 9 wc w.heap.size (fun k_=>some k_≠(v581:Value).ownBlock) v585 t583)∧Aside0 (Below w.heap.size w wc))
       case first =>
        have H:=HC82.out
        clear HC82
        by_cases c83:t580=0
        ·rw [if_pos c83] at H
         have c83b0:(t580 == 0)=true:=beq_iff_eq.mpr c83
         have c83b1:(t580 != 0)=false:=bne_eq_false_iff_eq.mpr c83
         clear c83
         (first|rw [c83b0]|(simp only [i64_w,i32_w];rw [c83b0])|skip)
         by_cases c84:(t583.length:Int) < (t579.length:Int)
         ·rw [if_pos c84] at H
          have c84b0:decide ((t583.length:Int) < (t579.length:Int))=true:=decide_eq_true c84
          have c84b1:decide (t583.length < t579.length)=true:=decide_eq_true (Int.ofNat_lt.mp c84)
          clear c84
          have H':=Aside0.mk H
          clear H
          obtain ⟨Ao85,co85,eo85⟩:=Kd.R_slice HO_15.out
          subst eo85
          obtain ⟨Ao86,co86,eo86⟩:=Kd.R_slice HO_13.out
          subst eo86
          go_wp2
          go_meet
          case rel=>exact ⟨_,(true),tS_,H',⟨by have:=HJ11.out;have:=HJ61.out;first|omega|exact Nat.le_refl _⟩,⟨tR_ HO_7⟩,⟨tR_ HO_13⟩,⟨tR_ HO_15⟩,⟨tB_ HB⟩⟩
         ·rw [if_neg c84] at H
          have c84b0:decide ((t583.length:Int) < (t579.length:Int))=false:=decide_eq_false c84
          have c84b1:decide (t583.length < t579.length)=false:=decide_eq_false (fun h=>c84 (Int.ofNat_lt.mpr h))
          clear c84
          by_cases c87:0≤(t579.length:Int)
          ·rw [if_pos c87] at H
           have c87b0:=eq_true c87
           have c87b1:decide (0≤(t579.length:Int))=true:=decide_eq_true c87
           clear c87
           by_cases c88:(t579.length:Int)≤(t583.length:Int)
           ·rw [if_pos c88] at H
            have c88b0:=eq_true c88
            have c88b1:decide ((t579.length:Int)≤(t583.length:Int))=true:=decide_eq_true c88
            clear c88
            obtain ⟨y605,hy605⟩:∃ y_:List ByteArray,y_=(t583.take ((t579.length:Int):Int).toNat):=⟨_,rfl⟩
            replace H:((nl_texts.f kj61 y605 t579).bind fun t609=>(if t609=true then (nl_RulesSteps.j3 kj61 t570 t566 t569 t579 t580 t583 ((t566.length:Int) == 0)) else (nl_RulesSteps.j3 kj61 t570 t566 t569 t579 t580 t583 true)))=some r:=by first|(rw [hy605];with_reducible exact H)|(have H2_:=(Option.bind_some _ _).symm.trans H;rw [hy605];with_reducible exact H2_)|(have H2_:=(Option.bind_some _ _).symm.trans H;with_reducible exact H2_)|with_reducible exact H|(rw [hy605];exact H)|exact H
            have Ny605:=Aside0.mk hy605
            clear hy605
            replace H:=Option.bind_eq_some_iff.mp H
            obtain ⟨t609,A890,H⟩:=H
            replace H:(if t609=true then (nl_RulesSteps.j3 kj61 t570 t566 t569 t579 t580 t583 ((t566.length:Int) == 0)) else (nl_RulesSteps.j3 kj61 t570 t566 t569 t579 t580 t583 true))=some r:=H
            have A89:=Aside0.mk A890
            clear A890
            by_cases c90:t609=true
            ·subst c90
             have H1:(nl_RulesSteps.j3 kj61 t570 t566 t569 t579 t580 t583 ((t566.length:Int) == 0))=some r:=by rw [if_pos rfl] at H;exact H
             clear H
             have H:=H1
             clear H1
             have H':=Aside0.mk H
             clear H
             obtain ⟨Ao91,co91,eo91⟩:=Kd.R_slice HO_15.out
             subst eo91
             obtain ⟨Ao92,co92,eo92⟩:=Kd.R_slice HO_13.out
             subst eo92
             have q93:((t579.length:Int):Int)≤((t583.length:Int):Int):=oT_
             obtain ⟨i093,hi093,_,hsz93,_⟩:=info_parts info9
             have hroom93:t583.length≤co91:=(Kd.R_reads' HO_15.out).2.1
             have hC93:Kd.C Kd.string _ Ao91 t583.length t583:=(Kd.R_reads' HO_15.out).2.2
             have hcut93:=cut_to (P:=Tryz.prog) 36 9 .i64 Tryz.underlying36 hi093 Ao91 t583.length co91 (t579.length:Int) (oT_) q93 hroom93
             have hr93:=Kd.C_take (m:=((t579.length:Int):Int).toNat) hC93 (by omega)
             have hy93:y605.length=((t579.length:Int):Int).toNat:=(by rw [Ny605.out,List.length_take];omega)
             rw [←Ny605.out] at hr93
             rw [←hy93] at hcut93
             have HR608:=Aside0.mk hr93
             have HC608:=Aside0.mk (show y605.length≤co91 from by omega)
             clear hr93 hC93 hroom93 hi093 hsz93
             have KY93:=Aside0.mk hy93
             clear hy93
             have KL93:=Aside0.mk (show ((t579.length:Int):Int).toNat≤t583.length from by omega)
             replace q93:=eq_true q93
             go_wp2_with (first|(go_at_call 53;(with_reducible refine (nl_texts.calls kj61 _ _ y605 _ _ t579 true _ ?side1 ?side2 ?side3 ?side4 A89.out).mono ?_);(case side1=>repeat (first|exact (by repeat (first|(with_reducible exact HR608.out)|(with_reducible refine Kd.C_alloc ?_ _)|(with_reducible refine Kd.C_drewN ?_ _)|(with_reducible refine Kd.C_drew ?_)|exact HR608.out))|(with_reducible refine Kd.C_alloc ?_ _)|(with_reducible refine Kd.C_drewN ?_ _)|(with_reducible refine Kd.C_drew ?_)));(case side2=>exact HC608.out);(case side3=>repeat (first|exact (Kd.R_reads' HO_13.out).2.2|(with_reducible refine Kd.C_alloc ?_ _)|(with_reducible refine Kd.C_drewN ?_ _)|(with_reducible refine Kd.C_drew ?_)));(case side4=>exact (Kd.R_reads' HO_13.out).2.1);rintro e w' ⟨rfl,⟨nd,rfl⟩⟩))
             go_meet
             case rel=>exact ⟨_,(((t566.length:Int) == 0)),tS_,H',⟨by have:=HJ11.out;have:=HJ61.out;first|omega|exact Nat.le_refl _⟩,⟨tR_ HO_7⟩,⟨tR_ HO_13⟩,⟨tR_ HO_15⟩,⟨tB_ HB⟩⟩
            ·replace c90:=Bool.eq_false_iff.mpr c90
             subst c90
             have H1:(nl_RulesSteps.j3 kj61 t570 t566 t569 t579 t580 t583 true)=some r:=by rw [if_neg (show ¬ (false=true) by decide)] at H;exact H
             clear H
             have H:=H1
             clear H1
             have H':=Aside0.mk H
             clear H
             obtain ⟨Ao94,co94,eo94⟩:=Kd.R_slice HO_15.out
             subst eo94
             obtain ⟨Ao95,co95,eo95⟩:=Kd.R_slice HO_13.out
             subst eo95
             have q96:((t579.length:Int):Int)≤((t583.length:Int):Int):=oT_
             obtain ⟨i096,hi096,_,hsz96,_⟩:=info_parts info9
             have hroom96:t583.length≤co94:=(Kd.R_reads' HO_15.out).2.1
             have hC96:Kd.C Kd.string _ Ao94 t583.length t583:=(Kd.R_reads' HO_15.out).2.2
             have hcut96:=cut_to (P:=Tryz.prog) 36 9 .i64 Tryz.underlying36 hi096 Ao94 t583.length co94 (t579.length:Int) (oT_) q96 hroom96
             have hr96:=Kd.C_take (m:=((t579.length:Int):Int).toNat) hC96 (by omega)
             have hy96:y605.length=((t579.length:Int):Int).toNat:=(by rw [Ny605.out,List.length_take];omega)
             rw [←Ny605.out] at hr96
             rw [←hy96] at hcut96
             have HR608:=Aside0.mk hr96
             have HC608:=Aside0.mk (show y605.length≤co94 from by omega)
             clear hr96 hC96 hroom96 hi096 hsz96
             have KY96:=Aside0.mk hy96
             clear hy96
             have KL96:=Aside0.mk (show ((t579.length:Int):Int).toNat≤t583.length from by omega)
             replace q96:=eq_true q96
             go_wp2_with (first|(go_at_call 53;(with_reducible refine (nl_texts.calls kj61 _ _ y605 _ _ t579 false _ ?side1 ?side2 ?side3 ?side4 A89.out).mono ?_);(case side1=>repeat (first|exact (by repeat (first|(with_reducible exact HR608.out)|(with_reducible refine Kd.C_alloc ?_ _)|(with_reducible refine Kd.C_drewN ?_ _)|(with_reducible refine Kd.C_drew ?_)|exact HR608.out))|(with_reducible refine Kd.C_alloc ?_ _)|(with_reducible refine Kd.C_drewN ?_ _)|(with_reducible refine Kd.C_drew ?_)));(case side2=>exact HC608.out);(case side3=>repeat (first|exact (Kd.R_reads' HO_13.out).2.2|(with_reducible refine Kd.C_alloc ?_ _)|(with_reducible refine Kd.C_drewN ?_ _)|(with_reducible refine Kd.C_drew ?_)));(case side4=>exact (Kd.R_reads' HO_13.out).2.1);rintro e w' ⟨rfl,⟨nd,rfl⟩⟩))
             go_meet
             case rel=>exact ⟨_,(true),tS_,H',⟨by have:=HJ11.out;have:=HJ61.out;first|omega|exact Nat.le_refl _⟩,⟨tR_ HO_7⟩,⟨tR_ HO_13⟩,⟨tR_ HO_15⟩,⟨tB_ HB⟩⟩
           ·rw [if_neg c88] at H
            exact absurd H (by simp)
          ·rw [if_neg c87] at H
           exact absurd H (by simp)
        ·rw [if_neg c83] at H
         have c83b0:(t580 == 0)=false:=beq_eq_false_iff_ne.mpr c83
         have c83b1:(t580 != 0)=true:=bne_iff_ne.mpr c83
         (first|rw [c83b0]|(simp only [i64_w,i32_w];rw [c83b0])|skip)
         have H':=Aside0.mk H
         clear H
         go_wp2
         go_meet
         case rel=>exact ⟨_,(true),tS_,H',⟨by have:=HJ11.out;have:=HJ61.out;first|omega|exact Nat.le_refl _⟩,⟨tR_ HO_7⟩,⟨tR_ HO_13⟩,⟨tR_ HO_15⟩,⟨tB_ HB⟩⟩
       case rest =>
        clear HC82
        try clear c1
        try clear c2
        try clear p2
        try clear c3
        try clear c4
        try clear c5
        try clear p5
        try clear q5
        try clear hx5
        try clear c6
        try clear p6
        try clear c7
        try clear c8
        try clear c9
        try clear q9
        try clear c13
        try clear c20
        try clear c20b0
        try clear c20b1
        try clear c22
        try clear c23
        try clear c23b0
        try clear c23b1
        try clear c24
        try clear c24b0
        try clear c24b1
        try clear c29
        try clear c29b0
        try clear c29b1
        try clear c33
        try clear c38
        try clear c38b0
        try clear c38b1
        try clear c39
        try clear c39b0
        try clear c39b1
        try clear c41
        try clear c44
        try clear c44b0
        try clear c44b1
        try clear c49
        try clear c53
        try clear c55
        try clear c56
        try clear p59
        try clear q59
        try clear hx59
        try clear c61
        try clear c63
        try clear c63b0
        try clear c63b1
        try clear p64
        try clear c66
        try clear c66b0
        try clear c67
        try clear c67b0
        try clear c68
        try clear c68b0
        try clear c68b1
        try clear c70
        try clear c74
        try clear c81
        try clear c81b0
        try clear c81b1
        try clear c83
        try clear c83b0
        try clear c83b1
        try clear c84
        try clear c84b0
        try clear c84b1
        try clear c87
        try clear c87b0
        try clear c87b1
        try clear c88
        try clear c88b0
        try clear c88b1
        try clear c90
        try clear q93
        try clear q96
        try clear hx598_0
        try clear hx599_0
        try clear p2
        try clear p5
        try clear p59
        try clear p598
        try clear p599
        try clear p6
        try clear p64
        try clear q5
        try clear q59
        try clear q598
        try clear q599
        try clear q93
        try clear q96
        obtain ⟨kq,x150_81,rfl,HA,HJ81,HO_7,HO_13,HO_15,HB⟩:=hcut
        cases kq with
        | zero=>exact absurd HA.out (by simp [nl_RulesSteps.j3])
        | succ kj81 =>
         have H:=HA.out
         clear HA
         simp only [nl_RulesSteps.j3] at H
         by_cases c97:x150_81=true
         ·subst c97
          have H1:(if t580=0 then (if (t566.length:Int)=0 then ((nl_texts.f kj81 t579 t583).bind fun t610=>(if t610=true then ((nl_awake.f kj81).bind fun t611=>(some t611)) else (some false))) else (some false)) else (some false))=some r:=by rw [if_pos rfl] at H;exact H
          clear H
          have H:=H1
          clear H1
          by_cases c98:t580=0
          ·rw [if_pos c98] at H
           have c98b0:(t580 == 0)=true:=beq_iff_eq.mpr c98
           have c98b1:(t580 != 0)=false:=bne_eq_false_iff_eq.mpr c98
           clear c98
           by_cases c99:(t566.length:Int)=0
           ·rw [if_pos c99] at H
            have c99b0:((t566.length:Int) == 0)=true:=beq_iff_eq.mpr c99
            have c99b1:((t566.length:Int) != 0)=false:=bne_eq_false_iff_eq.mpr c99
            clear c99
            replace H:=Option.bind_eq_some_iff.mp H
            obtain ⟨t610,A1000,H⟩:=H
            replace H:(if t610=true then ((nl_awake.f kj81).bind fun t611=>(some t611)) else (some false))=some r:=H
            have A100:=Aside0.mk A1000
            clear A1000
            by_cases c101:t610=true
            ·subst c101
             have H1:((nl_awake.f kj81).bind fun t611=>(some t611))=some r:=by rw [if_pos rfl] at H;exact H
             clear H
             have H:=H1
             clear H1
             replace H:=Option.bind_eq_some_iff.mp H
             obtain ⟨t611,A1020,H⟩:=H
             replace H:(some t611)=some r:=H
             have A102:=Aside0.mk A1020
             clear A1020
             obtain rfl:=Option.some.inj H
             obtain ⟨Ao103,co103,eo103⟩:=Kd.R_slice HO_13.out
             subst eo103
             obtain ⟨Ao104,co104,eo104⟩:=Kd.R_slice HO_15.out
             subst eo104
             go_wp2_with (first|(go_at_call 53;(with_reducible refine (nl_texts.calls kj81 _ _ t579 _ _ t583 true _ ?side1 ?side2 ?side3 ?side4 A100.out).mono ?_);(case side1=>repeat (first|exact (Kd.R_reads' HO_13.out).2.2|(with_reducible refine Kd.C_alloc ?_ _)|(with_reducible refine Kd.C_drewN ?_ _)|(with_reducible refine Kd.C_drew ?_)));(case side2=>exact (Kd.R_reads' HO_13.out).2.1);(case side3=>repeat (first|exact (Kd.R_reads' HO_15.out).2.2|(with_reducible refine Kd.C_alloc ?_ _)|(with_reducible refine Kd.C_drewN ?_ _)|(with_reducible refine Kd.C_drew ?_)));(case side4=>exact (Kd.R_reads' HO_15.out).2.1);rintro e w' ⟨rfl,⟨nd,rfl⟩⟩)|(go_at_call 24;(with_reducible refine (nl_awake.calls kj81  t611 _ A102.out).mono ?_);rintro e w105 ⟨rfl,hb⟩;have n0_:=Aside0.mk (Kd.R_below (tR_ HO_7) hb);have n1_:=Aside0.mk (Kd.R_below (tR_ HO_13) hb);have n2_:=Aside0.mk (Kd.R_below (tR_ HO_15) hb);have n3_:=Aside0.mk (below_step (tB_ HB) hb);clear HO_7;clear HO_13;clear HO_15;clear HB;have HO_7:=n0_;have HO_13:=n1_;have HO_15:=n2_;have HB:=n3_;clear n0_ n1_ n2_ n3_;(try clear hb);(try clear hb2);(try clear hk);(try clear hi)))
             go_ret
             exact ⟨tE_,tB_ HB⟩
            ·replace c101:=Bool.eq_false_iff.mpr c101
             subst c101
             have H1:(some false)=some r:=by rw [if_neg (show ¬ (false=true) by decide)] at H;exact H
             exact absurd (H1.trans (congrArg some HT0_.out)) (by simp)
           ·rw [if_neg c99] at H
            exact absurd (H.trans (congrArg some HT0_.out)) (by simp)
          ·rw [if_neg c98] at H
           exact absurd (H.trans (congrArg some HT0_.out)) (by simp)
         ·replace c97:=Bool.eq_false_iff.mpr c97
          subst c97
          have H1:(if 0≤(wrap64 ((t566.length:Int) - 1)) then (if (wrap64 ((t566.length:Int) - 1))≤(t566.length:Int) then ((rules_Reach.f (t566.take ((wrap64 ((t566.length:Int) - 1)):Int).toNat) t569 (wrap64 (t570+1))).bind fun bt616=>(if bt616.2=0 then (if (bt616.1.length:Int)≤(t583.length:Int) then ((nl_awake.f kj81).bind fun t620=>(some t620)) else (some false)) else (some false))) else (none)) else (none))=some r:=by rw [if_neg (show ¬ (false=true) by decide)] at H;exact H
          clear H
          have H:=H1
          clear H1
          obtain ⟨ji108,hji108⟩:∃ j_:Int,(wrap64 ((t566.length:Int) - 1))=j_:=⟨_,rfl⟩
          replace H:(if 0≤(ji108) then (if (ji108)≤(t566.length:Int) then ((rules_Reach.f (t566.take ((ji108):Int).toNat) t569 (wrap64 (t570+1))).bind fun bt616=>(if bt616.2=0 then (if (bt616.1.length:Int)≤(t583.length:Int) then ((nl_awake.f kj81).bind fun t620=>(some t620)) else (some false)) else (some false))) else (none)) else (none))=some r:=by first|(rw [hji108] at H;exact H)|(simp only [hji108] at H ⊢;exact H)
          have hji108w:(IntKind.i64.wrap ((t566.length:Int) - 1))=ji108:=(i64_w _).trans hji108
          by_cases c109:0≤(ji108)
          ·rw [if_pos c109] at H
           have c109b0:=eq_true c109
           have c109b1:decide (0≤(ji108))=true:=decide_eq_true c109
           clear c109
           by_cases c110:(ji108)≤(t566.length:Int)
           ·rw [if_pos c110] at H
            have c110b0:=eq_true c110
            have c110b1:decide ((ji108)≤(t566.length:Int))=true:=decide_eq_true c110
            clear c110
            obtain ⟨y612,hy612⟩:∃ y_:List (S94),y_=(t566.take ((ji108):Int).toNat):=⟨_,rfl⟩
            replace H:((rules_Reach.f y612 t569 (wrap64 (t570+1))).bind fun bt616=>(if bt616.2=0 then (if (bt616.1.length:Int)≤(t583.length:Int) then ((nl_awake.f kj81).bind fun t620=>(some t620)) else (some false)) else (some false)))=some r:=by first|(rw [hy612];with_reducible exact H)|(have H2_:=(Option.bind_some _ _).symm.trans H;rw [hy612];with_reducible exact H2_)|(have H2_:=(Option.bind_some _ _).symm.trans H;with_reducible exact H2_)|with_reducible exact H|(rw [hy612];exact H)|exact H
            have Ny612:=Aside0.mk hy612
            clear hy612
            replace H:=Option.bind_eq_some_iff.mp H
            obtain ⟨⟨t616,t617⟩,A1110,H⟩:=H
            replace H:(if t617=0 then (if (t616.length:Int)≤(t583.length:Int) then ((nl_awake.f kj81).bind fun t620=>(some t620)) else (some false)) else (some false))=some r:=H
            have A111:=Aside0.mk A1110
            clear A1110
            by_cases c112:t617=0
            ·rw [if_pos c112] at H
             have c112b0:(t617 == 0)=true:=beq_iff_eq.mpr c112
             have c112b1:(t617 != 0)=false:=bne_eq_false_iff_eq.mpr c112
             clear c112
             by_cases c113:(t616.length:Int)≤(t583.length:Int)
             ·rw [if_pos c113] at H
              have c113b0:decide ((t616.length:Int)≤(t583.length:Int))=true:=decide_eq_true c113
              have c113b1:decide (t616.length≤t583.length)=true:=decide_eq_true (Int.ofNat_le.mp c113)
              clear c113
              replace H:=Option.bind_eq_some_iff.mp H
              obtain ⟨t620,A1140,H⟩:=H
              replace H:(some t620)=some r:=H
              have A114:=Aside0.mk A1140
              clear A1140
              obtain rfl:=Option.some.inj H
              have q115:((ji108):Int)≤((t566.length:Int):Int):=oT_
              obtain ⟨i0115,hi0115,_,hsz115,_⟩:=info_parts info94
              have hroom115:t566.length≤co14:=(Kd.R_reads' HO_7.out).2.1
              have hC115:Kd.C k94 _ Ao14 t566.length t566:=(Kd.R_reads' HO_7.out).2.2
              have hcut115:=cut_to (P:=Tryz.prog) 35 94 .i64 Tryz.underlying35 hi0115 Ao14 t566.length co14 (ji108) (oT_) q115 hroom115
              have hr115:=Kd.C_take (m:=((ji108):Int).toNat) hC115 (by omega)
              have hy115:y612.length=((ji108):Int).toNat:=(by rw [Ny612.out,List.length_take];omega)
              rw [←Ny612.out] at hr115
              rw [←hy115] at hcut115
              have HR615:=Aside0.mk hr115
              have HC615:=Aside0.mk (show y612.length≤co14 from by omega)
              clear hr115 hC115 hroom115 hi0115 hsz115
              have KY115:=Aside0.mk hy115
              clear hy115
              have KL115:=Aside0.mk (show ((ji108):Int).toNat≤t566.length from by omega)
              replace q115:=eq_true q115
              go_wp2_with (first|((with_reducible refine gate_callee (f:=56) rfl ?_);refine goesL_ (some 175) rfl rfl Tryz.func56 (by kernel_rfl) rfl #[.slice Ao14 y612.length co14,.string t569,.int .i64 (wrap64 (t570+1))] rfl tM_ ?_;(with_reducible refine (rules_Reach.calls _ _ y612 t569 (wrap64 (t570+1)) t616 t617 _ ?side1 ?side2 A111.out).mono ?_);(case side1=>repeat (first|exact (by repeat (first|(with_reducible exact HR615.out)|(with_reducible refine Kd.C_alloc ?_ _)|(with_reducible refine Kd.C_drewN ?_ _)|(with_reducible refine Kd.C_drew ?_)|exact HR615.out))|(with_reducible refine Kd.C_alloc ?_ _)|(with_reducible refine Kd.C_drewN ?_ _)|(with_reducible refine Kd.C_drew ?_)));(case side2=>exact HC615.out);rintro e w116 ⟨v618,rfl,ho0,hb⟩;refine ⟨_,rfl,?_⟩;have n0_:=Aside0.mk (Kd.R_below (tR_ HO_7) hb);have n1_:=Aside0.mk (Kd.R_elder' (tR_ HO_13) (Kd.R_base ho0) hb);have n2_:=Aside0.mk (Kd.R_elder' (tR_ HO_15) (Kd.R_base ho0) hb);have n3_:=Aside0.mk (Kd.R_lower (Kd.R_new' (Kd.R_new' ho0 (Kd.R_lt (tR_ HO_13))) (Kd.R_lt (tR_ HO_15))) (below_size (tB_ HB)));have n4_:=Aside0.mk (Kd.C_below (by repeat (first|(with_reducible exact HR615.out)|(with_reducible refine Kd.C_alloc ?_ _)|(with_reducible refine Kd.C_drewN ?_ _)|(with_reducible refine Kd.C_drew ?_)|exact HR615.out)) hb);have n5_:=Aside0.mk (below_step (tB_ HB) hb);clear HO_7;clear HO_13;clear HO_15;clear HR615;clear HB;have HO_7:=n0_;have HO_13:=n1_;have HO_15:=n2_;have HO619:=n3_;have HR615:=n4_;have HB:=n5_;clear n0_ n1_ n2_ n3_ n4_ n5_;(try clear hb);(try clear hb2);(try clear hk);(try clear hi);(try clear ho0);obtain ⟨Ao117,co117,eo117⟩:=Kd.R_slice HO619.out;subst eo117;obtain ⟨Ao118,co118,eo118⟩:=Kd.R_slice HO_15.out;subst eo118)|(go_at_call 24;(with_reducible refine (nl_awake.calls kj81  t620 _ A114.out).mono ?_);rintro e w119 ⟨rfl,hb⟩;have n0_:=Aside0.mk (Kd.R_below (tR_ HO_7) hb);have n1_:=Aside0.mk (Kd.R_below (tR_ HO_13) hb);have n2_:=Aside0.mk (Kd.R_below (tR_ HO_15) hb);have n3_:=Aside0.mk (Kd.R_below (tR_ HO619) hb);have n4_:=Aside0.mk (Kd.C_below (by repeat (first|(with_reducible exact HR615.out)|(with_reducible refine Kd.C_alloc ?_ _)|(with_reducible refine Kd.C_drewN ?_ _)|(with_reducible refine Kd.C_drew ?_)|exact HR615.out)) hb);have n5_:=Aside0.mk (below_step (tB_ HB) hb);clear HO_7;clear HO_13;clear HO_15;clear HO619;clear HR615;clear HB;have HO_7:=n0_;have HO_13:=n1_;have HO_15:=n2_;have HO619:=n3_;have HR615:=n4_;have HB:=n5_;clear n0_ n1_ n2_ n3_ n4_ n5_;(try clear hb);(try clear hb2);(try clear hk);(try clear hi)))
              go_ret
              exact ⟨by first|rfl|(simp [errW_none,errW_some]<;>rfl)|(simp only [←hji108];first|rfl|(simp [errW_none,errW_some]<;>rfl))|(simp [*,errW_none,errW_some]<;>rfl),tB_ HB⟩
             ·rw [if_neg c113] at H
              exact absurd (H.trans (congrArg some HT0_.out)) (by simp)
            ·rw [if_neg c112] at H
             exact absurd (H.trans (congrArg some HT0_.out)) (by simp)
           ·rw [if_neg c110] at H
            exact absurd H (by simp)
          ·rw [if_neg c109] at H
           exact absurd H (by simp)
      ·rw [if_neg c81] at H
       have c81b0:(t584 == 0)=false:=beq_eq_false_iff_ne.mpr c81
       have c81b1:(t584 != 0)=true:=bne_iff_ne.mpr c81
       by_cases c126:t584=5
       ·rw [if_pos c126] at H
        have c126b0:(t584 == 5)=true:=beq_iff_eq.mpr c126
        have c126b1:(t584 != 5)=false:=bne_eq_false_iff_eq.mpr c126
        clear c126
        replace H:=Option.bind_eq_some_iff.mp H
        obtain ⟨t604,A1270,H⟩:=H
        replace H:(some t604)=some r:=H
        have A127:=Aside0.mk A1270
        clear A1270
        obtain rfl:=Option.some.inj H
        go_wp2_with (first|(go_at_call 24;(with_reducible refine (nl_awake.calls kj61  t604 _ A127.out).mono ?_);rintro e w128 ⟨rfl,hb⟩;have n0_:=Aside0.mk (Kd.R_below (tR_ HO_7) hb);have n1_:=Aside0.mk (Kd.R_below (tR_ HO_13) hb);have n2_:=Aside0.mk (Kd.R_below (tR_ HO_15) hb);have n3_:=Aside0.mk (below_step (tB_ HB) hb);clear HO_7;clear HO_13;clear HO_15;clear HB;have HO_7:=n0_;have HO_13:=n1_;have HO_15:=n2_;have HB:=n3_;clear n0_ n1_ n2_ n3_;(try clear hb);(try clear hb2);(try clear hk);(try clear hi)))
        go_ret
        exact ⟨tE_,tB_ HB⟩
       ·rw [if_neg c126] at H
        exact absurd (H.trans (congrArg some HT0_.out)) (by simp)
end Go.Proofs.YtaafeallcaiooaaGreat.Pr
