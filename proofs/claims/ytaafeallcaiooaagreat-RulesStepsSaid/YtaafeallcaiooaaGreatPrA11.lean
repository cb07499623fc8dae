import Derived.Test.YtaafeallcaiooaaGreatPr0
namespace Go.Proofs.YtaafeallcaiooaaGreat.Pr
open Go.RowKit Go.Proofs.Zw Go.Proofs.Zl Go.Proofs.Zm
attribute [local go_sem] max2_int min2_int max_two min_two max_three min_three max_four min_four
set_option linter.unusedVariables false
set_option linter.unusedSimpArgs false
mutual
def nl_grow.j0:Nat→ByteArray→Int→Int→Int→Bool→Option (ByteArray × Int)
 | 0,_,_,_,_,_=>none
 | k+1,x0,x1,x2,x8,x31=>if x31=true then (if 0≤(Int.tmod x8 5) then (if (Int.tmod x8 5)≤(wrap64 ((Int.tmod x8 5)+1)) then (if (wrap64 ((Int.tmod x8 5)+1))≤5 then (some ((⟨#[97,98,120,121,122]⟩:ByteArray).extract ((Int.tmod x8 5):Int).toNat ((wrap64 ((Int.tmod x8 5)+1)):Int).toNat,wrap64 (x1+1))) else (none)) else (none)) else (none)) else (if 0≤(wrap64 (x8 - 5)) then (if (wrap64 (x8 - 5))≤(wrap64 (x8 - 4)) then (if (wrap64 (x8 - 4))≤6 then (if x8 < 8 then (nl_grow.j1 k x0 x1 x2 x8 ((⟨#[99,99,100,101,101,102]⟩:ByteArray).extract ((wrap64 (x8 - 5)):Int).toNat ((wrap64 (x8 - 4)):Int).toNat) true) else (nl_grow.j1 k x0 x1 x2 x8 ((⟨#[99,99,100,101,101,102]⟩:ByteArray).extract ((wrap64 (x8 - 5)):Int).toNat ((wrap64 (x8 - 4)):Int).toNat) (decide (x2 < 3)))) else (none)) else (none)) else (none))
def nl_grow.j1:Nat→ByteArray→Int→Int→Int→ByteArray→Bool→Option (ByteArray × Int)
 | 0,_,_,_,_,_,_=>none
 | k+1,x0,x1,x2,x8,x9,x50=>if x50=true then ((nl_grow.f k x0 (wrap64 (x1+1)) (wrap64 (x2 - 1))).bind fun bt307=>(if x8≥8 then (if 1+1≤9223372036854775807 then (if 1+bt307.1.size≤9223372036854775807 then (if (((⟨#[100]⟩:ByteArray)++(⟨#[40]⟩:ByteArray))++bt307.1).size+1≤9223372036854775807 then (some ((((⟨#[100]⟩:ByteArray)++(⟨#[40]⟩:ByteArray))++bt307.1)++(⟨#[41]⟩:ByteArray),bt307.2)) else (none)) else (none)) else (none)) else (if x9.size+1≤9223372036854775807 then (if (x9++(⟨#[40]⟩:ByteArray)).size+bt307.1.size≤9223372036854775807 then (if ((x9++(⟨#[40]⟩:ByteArray))++bt307.1).size+1≤9223372036854775807 then (some (((x9++(⟨#[40]⟩:ByteArray))++bt307.1)++(⟨#[41]⟩:ByteArray),bt307.2)) else (none)) else (none)) else (none)))) else ((nl_grow.f k x0 (wrap64 (x1+1)) (wrap64 (Int.tdiv (wrap64 (x2 - 1)) 2))).bind fun bt309=>((nl_grow.f k x0 bt309.2 (wrap64 ((wrap64 (x2 - 1)) - (wrap64 (Int.tdiv (wrap64 (x2 - 1)) 2))))).bind fun bt311=>(if x9.size+1≤9223372036854775807 then (if (x9++(⟨#[40]⟩:ByteArray)).size+bt309.1.size≤9223372036854775807 then (if ((x9++(⟨#[40]⟩:ByteArray))++bt309.1).size+1≤9223372036854775807 then (if (((x9++(⟨#[40]⟩:ByteArray))++bt309.1)++(⟨#[44]⟩:ByteArray)).size+bt311.1.size≤9223372036854775807 then (if ((((x9++(⟨#[40]⟩:ByteArray))++bt309.1)++(⟨#[44]⟩:ByteArray))++bt311.1).size+1≤9223372036854775807 then (some (((((x9++(⟨#[40]⟩:ByteArray))++bt309.1)++(⟨#[44]⟩:ByteArray))++bt311.1)++(⟨#[41]⟩:ByteArray),bt311.2)) else (none)) else (none)) else (none)) else (none)) else (none))))
def nl_grow.f:Nat→ByteArray→Int→Int→Option (ByteArray × Int)
 | 0,_,_,_=>none
 | k+1,a0,a1,a2=>if a1≥(a0.size:Int) then (some ((⟨#[97]⟩:ByteArray),a1)) else (if 0≤a1 then (if a1 < (a0.size:Int) then (if a2 < 2 then (nl_grow.j0 k a0 a1 a2 (Int.tmod (wrap64 (bt a0 a1)) 11) true) else (nl_grow.j0 k a0 a1 a2 (Int.tmod (wrap64 (bt a0 a1)) 11) (decide ((Int.tmod (wrap64 (bt a0 a1)) 11) < 5)))) else (none)) else (none))
end
set_option maxHeartbeats 8000000 in
set_option maxRecDepth 100000 in
theorem nl_grow.calls (k:Nat):∀ (a0:ByteArray) (a1:Int) (a2:Int) (r1:ByteArray) (r2:Int) (w:World) (h:nl_grow.f k a0 a1 a2=some (r1,r2)),
  Calls Tryz.prog 83 #[.string a0,.int .i64 a1,.int .i64 a2] w fun e w'=>e=.returned (.tuple #[.string r1,.int .i64 r2])∧Drawn0 w w':=by
 induction k using Nat.strongRecOn with
 | _ k ih =>
 intro a0 a1 a2 r1 r2 w h
 cases k with
 | zero=>exact absurd h (by simp [nl_grow.f])
 | succ k =>
 simp only [nl_grow.f] at h
 have H:(if a1≥(a0.size:Int) then (some ((⟨#[97]⟩:ByteArray),a1)) else (if 0≤a1 then (if a1 < (a0.size:Int) then (if a2 < 2 then (nl_grow.j0 k a0 a1 a2 (Int.tmod (wrap64 (bt a0 a1)) 11) true) else (nl_grow.j0 k a0 a1 a2 (Int.tmod (wrap64 (bt a0 a1)) 11) (decide ((Int.tmod (wrap64 (bt a0 a1)) 11) < 5)))) else (none)) else (none)))=some (r1,r2):=h
 clear h
 by_cases c4:a1≥(a0.size:Int)
 ·rw [if_pos c4] at H
  have c4b0:decide ((a0.size:Int)≤a1)=true:=decide_eq_true c4
  clear c4
  simp only [Option.some.injEq,Prod.mk.injEq] at H
  obtain ⟨rfl,rfl⟩:=H
  go_enter Tryz.func83,Tryz.ntmps83
  go_wp2
  go_ret2
  exact ⟨by first|rfl|(simp;done)|(simp [*];done),tD_⟩
 ·rw [if_neg c4] at H
  have c4b0:decide ((a0.size:Int)≤a1)=false:=decide_eq_false c4
  clear c4
  by_cases c5:0≤a1
  ·rw [if_pos c5] at H
   have c5b0:decide (0≤a1)=true:=decide_eq_true c5
   clear c5
   by_cases c6:a1 < (a0.size:Int)
   ·rw [if_pos c6] at H
    have c6b0:decide (a1 < (a0.size:Int))=true:=decide_eq_true c6
    clear c6
    have HC8:=Aside0.mk H
    clear H
    have p7:0≤(a1:Int):=oT_
    have q7:a1 < (a0.size:Int):=oT_
    have hx7:=bt_at a0 a1
    replace p7:=eq_true p7
    replace q7:=eq_true q7
    go_enter Tryz.func83,Tryz.ntmps83
    go_upto_region 4 with (fail)
    go_cut [31] (fun v31 wc=>∃ (kq:Nat) (x31_7:Bool),v31=.bool x31_7∧Aside0 (nl_grow.j0 kq a0 a1 a2 (Int.tmod (wrap64 (bt a0 a1)) 11) x31_7=some (r1,r2))∧Aside0 (kq≤k)∧Drawn0 w wc)
    case first =>
     have H:=HC8.out
     clear HC8
     by_cases c9:a2 < 2
     ·rw [if_pos c9] at H
      have c9b0:decide (a2 < 2)=true:=decide_eq_true c9
      clear c9
      (first|rw [c9b0]|(simp only [i64_w,i32_w];rw [c9b0])|skip)
      have H':=Aside0.mk H
      clear H
      go_wp2
      go_meet
      case rel=>exact ⟨_,(true),tS_,H',⟨by first|omega|exact Nat.le_refl _⟩,tD_⟩
     ·rw [if_neg c9] at H
      have c9b0:decide (a2 < 2)=false:=decide_eq_false c9
      clear c9
      (first|rw [c9b0]|(simp only [i64_w,i32_w];rw [c9b0])|skip)
      have H':=Aside0.mk H
      clear H
      go_wp2
      go_meet
      case rel=>exact ⟨_,(decide ((Int.tmod (wrap64 (bt a0 a1)) 11) < 5)),tS_,H',⟨by first|omega|exact Nat.le_refl _⟩,tD_⟩
    case rest =>
     clear HC8
     try clear p2
     try clear c4
     try clear c4b0
     try clear c5
     try clear c5b0
     try clear c6
     try clear c6b0
     try clear p6
     try clear p7
     try clear q7
     try clear hx7
     try clear c8
     try clear c9
     try clear c9b0
     try clear p7
     try clear q7
     obtain ⟨kq,x31_7,rfl,HA,HJ7,⟨mc7,rfl⟩⟩:=hcut
     cases kq with
     | zero=>exact absurd HA.out (by simp [nl_grow.j0])
     | succ kj7 =>
      have H:=HA.out
      clear HA
      simp only [nl_grow.j0] at H
      by_cases c10:x31_7=true
      ·subst c10
       have H1:(if 0≤(Int.tmod (Int.tmod (wrap64 (bt a0 a1)) 11) 5) then (if (Int.tmod (Int.tmod (wrap64 (bt a0 a1)) 11) 5)≤(wrap64 ((Int.tmod (Int.tmod (wrap64 (bt a0 a1)) 11) 5)+1)) then (if (wrap64 ((Int.tmod (Int.tmod (wrap64 (bt a0 a1)) 11) 5)+1))≤5 then (some ((⟨#[97,98,120,121,122]⟩:ByteArray).extract ((Int.tmod (Int.tmod (wrap64 (bt a0 a1)) 11) 5):Int).toNat ((wrap64 ((Int.tmod (Int.tmod (wrap64 (bt a0 a1)) 11) 5)+1)):Int).toNat,wrap64 (a1+1))) else (none)) else (none)) else (none))=some (r1,r2):=by rw [if_pos rfl] at H;exact H
       clear H
       have H:=H1
       clear H1
       obtain ⟨ji11,hji11⟩:∃ j_:Int,(Int.tmod (Int.tmod (wrap64 (bt a0 a1)) 11) 5)=j_:=⟨_,rfl⟩
       replace H:(if 0≤(ji11) then (if (ji11)≤(wrap64 ((ji11)+1)) then (if (wrap64 ((ji11)+1))≤5 then (some ((⟨#[97,98,120,121,122]⟩:ByteArray).extract ((ji11):Int).toNat ((wrap64 ((ji11)+1)):Int).toNat,wrap64 (a1+1))) else (none)) else (none)) else (none))=some (r1,r2):=by first|(rw [hji11] at H;exact H)|(simp only [hji11] at H ⊢;exact H)
       by_cases c12:0≤(ji11)
       ·rw [if_pos c12] at H
        have c12b0:=eq_true c12
        have c12b1:decide (0≤(ji11))=true:=decide_eq_true c12
        clear c12
        by_cases c13:(ji11)≤(wrap64 ((ji11)+1))
        ·rw [if_pos c13] at H
         have c13b0:=eq_true c13
         have c13b1:decide ((ji11)≤(wrap64 ((ji11)+1)))=true:=decide_eq_true c13
         by_cases c14:(wrap64 ((ji11)+1))≤5
         ·rw [if_pos c14] at H
          have c14b0:=eq_true c14
          have c14b1:decide ((wrap64 ((ji11)+1))≤5)=true:=decide_eq_true c14
          simp only [Option.some.injEq,Prod.mk.injEq] at H
          obtain ⟨rfl,rfl⟩:=H
          go_wp2
          go_ret2
          exact ⟨by first|rfl|(simp;done)|(simp only [←hji11]<;>(first|rfl|simp))|(simp [*];done),tD_⟩
         ·rw [if_neg c14] at H
          exact absurd H (by simp)
        ·rw [if_neg c13] at H
         exact absurd H (by simp)
       ·rw [if_neg c12] at H
        exact absurd H (by simp)
      ·replace c10:=Bool.eq_false_iff.mpr c10
       subst c10
       have H1:(if 0≤(wrap64 ((Int.tmod (wrap64 (bt a0 a1)) 11) - 5)) then (if (wrap64 ((Int.tmod (wrap64 (bt a0 a1)) 11) - 5))≤(wrap64 ((Int.tmod (wrap64 (bt a0 a1)) 11) - 4)) then (if (wrap64 ((Int.tmod (wrap64 (bt a0 a1)) 11) - 4))≤6 then (if (Int.tmod (wrap64 (bt a0 a1)) 11) < 8 then (nl_grow.j1 kj7 a0 a1 a2 (Int.tmod (wrap64 (bt a0 a1)) 11) ((⟨#[99,99,100,101,101,102]⟩:ByteArray).extract ((wrap64 ((Int.tmod (wrap64 (bt a0 a1)) 11) - 5)):Int).toNat ((wrap64 ((Int.tmod (wrap64 (bt a0 a1)) 11) - 4)):Int).toNat) true) else (nl_grow.j1 kj7 a0 a1 a2 (Int.tmod (wrap64 (bt a0 a1)) 11) ((⟨#[99,99,100,101,101,102]⟩:ByteArray).extract ((wrap64 ((Int.tmod (wrap64 (bt a0 a1)) 11) - 5)):Int).toNat ((wrap64 ((Int.tmod (wrap64 (bt a0 a1)) 11) - 4)):Int).toNat) (decide (a2 < 3)))) else (none)) else (none)) else (none))=some (r1,r2):=by rw [if_neg (show ¬ (false=true) by decide)] at H;exact H
       clear H
       have H:=H1
       clear H1
       obtain ⟨ji15,hji15⟩:∃ j_:Int,(wrap64 ((Int.tmod (wrap64 (bt a0 a1)) 11) - 5))=j_:=⟨_,rfl⟩
       replace H:(if 0≤(ji15) then (if (ji15)≤(wrap64 ((Int.tmod (wrap64 (bt a0 a1)) 11) - 4)) then (if (wrap64 ((Int.tmod (wrap64 (bt a0 a1)) 11) - 4))≤6 then (if (Int.tmod (wrap64 (bt a0 a1)) 11) < 8 then (nl_grow.j1 kj7 a0 a1 a2 (Int.tmod (wrap64 (bt a0 a1)) 11) ((⟨#[99,99,100,101,101,102]⟩:ByteArray).extract ((ji15):Int).toNat ((wrap64 ((Int.tmod (wrap64 (bt a0 a1)) 11) - 4)):Int).toNat) true) else (nl_grow.j1 kj7 a0 a1 a2 (Int.tmod (wrap64 (bt a0 a1)) 11) ((⟨#[99,99,100,101,101,102]⟩:ByteArray).extract ((ji15):Int).toNat ((wrap64 ((Int.tmod (wrap64 (bt a0 a1)) 11) - 4)):Int).toNat) (decide (a2 < 3)))) else (none)) else (none)) else (none))=some (r1,r2):=by first|(rw [hji15] at H;exact H)|(simp only [hji15] at H ⊢;exact H)
       have hji15w:(IntKind.i64.wrap ((Int.tmod (wrap64 (bt a0 a1)) 11) - 5))=ji15:=(i64_w _).trans hji15
       by_cases c16:0≤(ji15)
       ·rw [if_pos c16] at H
        have c16b0:=eq_true c16
        have c16b1:decide (0≤(ji15))=true:=decide_eq_true c16
        clear c16
        by_cases c17:(ji15)≤(wrap64 ((Int.tmod (wrap64 (bt a0 a1)) 11) - 4))
        ·rw [if_pos c17] at H
         have c17b0:=eq_true c17
         have c17b1:decide ((ji15)≤(wrap64 ((Int.tmod (wrap64 (bt a0 a1)) 11) - 4)))=true:=decide_eq_true c17
         clear c17
         by_cases c18:(wrap64 ((Int.tmod (wrap64 (bt a0 a1)) 11) - 4))≤6
         ·rw [if_pos c18] at H
          have c18b0:=eq_true c18
          have c18b1:decide ((wrap64 ((Int.tmod (wrap64 (bt a0 a1)) 11) - 4))≤6)=true:=decide_eq_true c18
          clear c18
          have HC19:=Aside0.mk H
          clear H
          go_upto_region 7 with (fail)
          go_cut [50] (fun v50 wc=>∃ (kq:Nat) (x50_18:Bool),v50=.bool x50_18∧Aside0 (nl_grow.j1 kq a0 a1 a2 (Int.tmod (wrap64 (bt a0 a1)) 11) ((⟨#[99,99,100,101,101,102]⟩:ByteArray).extract ((ji15):Int).toNat ((wrap64 ((Int.tmod (wrap64 (bt a0 a1)) 11) - 4)):Int).toNat) x50_18=some (r1,r2))∧Aside0 (kq≤kj7)∧Drawn0 w wc)
          case first =>
           have H:=HC19.out
           clear HC19
           by_cases c20:(Int.tmod (wrap64 (bt a0 a1)) 11) < 8
           ·rw [if_pos c20] at H
            have c20b0:decide ((Int.tmod (wrap64 (bt a0 a1)) 11) < 8)=true:=decide_eq_true c20
            clear c20
            (first|rw [c20b0]|(simp only [i64_w,i32_w];rw [c20b0])|skip)
            have H':=Aside0.mk H
            clear H
            go_wp2
            go_meet
            case rel=>exact ⟨_,(true),tS_,H',⟨by have:=HJ7.out;first|omega|exact Nat.le_refl _⟩,tD_⟩
           ·rw [if_neg c20] at H
            have c20b0:decide ((Int.tmod (wrap64 (bt a0 a1)) 11) < 8)=false:=decide_eq_false c20
            clear c20
            (first|rw [c20b0]|(simp only [i64_w,i32_w];rw [c20b0])|skip)
            have H':=Aside0.mk H
            clear H
            go_wp2
            go_meet
            case rel=>exact ⟨_,(decide (a2 < 3)),tS_,H',⟨by have:=HJ7.out;first|omega|exact Nat.le_refl _⟩,tD_⟩
          case rest =>
           clear HC19
           try clear c1
           try clear c2
           try clear p2
           try clear c4
           try clear c4b0
           try clear c5
           try clear c5b0
           try clear c6
           try clear c6b0
           try clear p6
           try clear c7
           try clear p7
           try clear q7
           try clear hx7
           try clear c8
           try clear c9
           try clear c9b0
           try clear c10
           try clear c12
           try clear c12b0
           try clear c12b1
           try clear c13
           try clear c13b0
           try clear c13b1
           try clear c14
           try clear c14b0
           try clear c14b1
           try clear c16
           try clear c16b0
           try clear c16b1
           try clear c17
           try clear c17b0
           try clear c17b1
           try clear c18
           try clear c18b0
           try clear c18b1
           try clear c20
           try clear c20b0
           try clear p2
           try clear p6
           try clear p7
           try clear q7
           obtain ⟨kq,x50_18,rfl,HA,HJ18,⟨mc18,rfl⟩⟩:=hcut
           cases kq with
           | zero=>exact absurd HA.out (by simp [nl_grow.j1])
           | succ kj18 =>
            have H:=HA.out
            clear HA
            simp only [nl_grow.j1] at H
            by_cases c21:x50_18=true
            ·subst c21
             have H1:((nl_grow.f kj18 a0 (wrap64 (a1+1)) (wrap64 (a2 - 1))).bind fun bt307=>(if (Int.tmod (wrap64 (bt a0 a1)) 11)≥8 then (if 1+1≤9223372036854775807 then (if 1+bt307.1.size≤9223372036854775807 then (if (((⟨#[100]⟩:ByteArray)++(⟨#[40]⟩:ByteArray))++bt307.1).size+1≤9223372036854775807 then (some ((((⟨#[100]⟩:ByteArray)++(⟨#[40]⟩:ByteArray))++bt307.1)++(⟨#[41]⟩:ByteArray),bt307.2)) else (none)) else (none)) else (none)) else (if ((⟨#[99,99,100,101,101,102]⟩:ByteArray).extract ((ji15):Int).toNat ((wrap64 ((Int.tmod (wrap64 (bt a0 a1)) 11) - 4)):Int).toNat).size+1≤9223372036854775807 then (if (((⟨#[99,99,100,101,101,102]⟩:ByteArray).extract ((ji15):Int).toNat ((wrap64 ((Int.tmod (wrap64 (bt a0 a1)) 11) - 4)):Int).toNat)++(⟨#[40]⟩:ByteArray)).size+bt307.1.size≤9223372036854775807 then (if ((((⟨#[99,99,100,101,101,102]⟩:ByteArray).extract ((ji15):Int).toNat ((wrap64 ((Int.tmod (wrap64 (bt a0 a1)) 11) - 4)):Int).toNat)++(⟨#[40]⟩:ByteArray))++bt307.1).size+1≤9223372036854775807 then (some (((((⟨#[99,99,100,101,101,102]⟩:ByteArray).extract ((ji15):Int).toNat ((wrap64 ((Int.tmod (wrap64 (bt a0 a1)) 11) - 4)):Int).toNat)++(⟨#[40]⟩:ByteArray))++bt307.1)++(⟨#[41]⟩:ByteArray),bt307.2)) else (none)) else (none)) else (none))))=some (r1,r2):=by rw [if_pos rfl] at H;exact H
             clear H
             have H:=H1
             clear H1
             replace H:=Option.bind_eq_some_iff.mp H
             obtain ⟨⟨t307,t308⟩,A220,H⟩:=H
             replace H:(if (Int.tmod (wrap64 (bt a0 a1)) 11)≥8 then (if 1+1≤9223372036854775807 then (if 1+t307.size≤9223372036854775807 then (if (((⟨#[100]⟩:ByteArray)++(⟨#[40]⟩:ByteArray))++t307).size+1≤9223372036854775807 then (some ((((⟨#[100]⟩:ByteArray)++(⟨#[40]⟩:ByteArray))++t307)++(⟨#[41]⟩:ByteArray),t308)) else (none)) else (none)) else (none)) else (if ((⟨#[99,99,100,101,101,102]⟩:ByteArray).extract ((ji15):Int).toNat ((wrap64 ((Int.tmod (wrap64 (bt a0 a1)) 11) - 4)):Int).toNat).size+1≤9223372036854775807 then (if (((⟨#[99,99,100,101,101,102]⟩:ByteArray).extract ((ji15):Int).toNat ((wrap64 ((Int.tmod (wrap64 (bt a0 a1)) 11) - 4)):Int).toNat)++(⟨#[40]⟩:ByteArray)).size+t307.size≤9223372036854775807 then (if ((((⟨#[99,99,100,101,101,102]⟩:ByteArray).extract ((ji15):Int).toNat ((wrap64 ((Int.tmod (wrap64 (bt a0 a1)) 11) - 4)):Int).toNat)++(⟨#[40]⟩:ByteArray))++t307).size+1≤9223372036854775807 then (some (((((⟨#[99,99,100,101,101,102]⟩:ByteArray).extract ((ji15):Int).toNat ((wrap64 ((Int.tmod (wrap64 (bt a0 a1)) 11) - 4)):Int).toNat)++(⟨#[40]⟩:ByteArray))++t307)++(⟨#[41]⟩:ByteArray),t308)) else (none)) else (none)) else (none)))=some (r1,r2):=H
             have A22:=Aside0.mk A220
             clear A220
             by_cases c23:(Int.tmod (wrap64 (bt a0 a1)) 11)≥8
             ·rw [if_pos c23] at H
              have c23b0:decide (8≤(Int.tmod (wrap64 (bt a0 a1)) 11))=true:=decide_eq_true c23
              clear c23
              by_cases c24:1+1≤9223372036854775807
              ·rw [if_pos c24] at H
               have c24b0:=eq_true c24
               have c24b1:decide (1+1≤9223372036854775807)=true:=decide_eq_true c24
               try have c24b2:(9223372036854775807 < 1+1)=False:=eq_false (Nat.not_lt.2 c24)
               by_cases c25:1+t307.size≤9223372036854775807
               ·rw [if_pos c25] at H
                have c25b0:=eq_true c25
                have c25b1:decide (1+t307.size≤9223372036854775807)=true:=decide_eq_true c25
                try have c25b2:(9223372036854775807 < 1+t307.size)=False:=eq_false (Nat.not_lt.2 c25)
                by_cases c26:(((⟨#[100]⟩:ByteArray)++(⟨#[40]⟩:ByteArray))++t307).size+1≤9223372036854775807
                ·rw [if_pos c26] at H
                 have c26b0:=eq_true c26
                 have c26b1:decide ((((⟨#[100]⟩:ByteArray)++(⟨#[40]⟩:ByteArray))++t307).size+1≤9223372036854775807)=true:=decide_eq_true c26
                 try have c26b2:(9223372036854775807 < (((⟨#[100]⟩:ByteArray)++(⟨#[40]⟩:ByteArray))++t307).size+1)=False:=eq_false (Nat.not_lt.2 c26)
                 simp only [Option.some.injEq,Prod.mk.injEq] at H
                 obtain ⟨rfl,rfl⟩:=H
                 go_wp2_with (first|((with_reducible refine gate_callee (f:=83) rfl ?_);refine goesL_ (some 57) rfl rfl Tryz.func83 (by kernel_rfl) rfl #[.string a0,.int .i64 (wrap64 (a1+1)),.int .i64 (wrap64 (a2 - 1))] rfl tM_ ?_;(with_reducible refine (ih kj18 (by have:=HJ7.out;have:=HJ18.out;omega) a0 (wrap64 (a1+1)) (wrap64 (a2 - 1)) t307 t308 _ A22.out).mono ?_);rintro e w' ⟨rfl,⟨nd,rfl⟩⟩;refine ⟨_,rfl,?_⟩))
                 all_goals first|(show Oper.upon _ _ _ _ _ (Result.halt _ _);exfalso;have es_:∀ x:UInt8,(⟨#[x]⟩:ByteArray).size=1:=fun _=>rfl;have es2_:∀ x y:UInt8,(⟨#[x,y]⟩:ByteArray).size=2:=fun _ _=>rfl;have e6_:(⟨#[99,99,100,101,101,102]⟩:ByteArray).size=6:=rfl;(try (have hq0_:=of_eq_true c25b0;simp only [ByteArray.size_append,ByteArray.size_extract,es_,es2_,e6_] at hq0_));(try (have hq1_:=of_eq_true c26b0;simp only [ByteArray.size_append,ByteArray.size_extract,es_,es2_,e6_] at hq1_));omega)|skip
                 go_ret2
                 exact ⟨by first|rfl|(simp;done)|(simp only [←hji15]<;>(first|rfl|simp))|(simp [*];done),tD_⟩
                ·rw [if_neg c26] at H
                 exact absurd H (by simp)
               ·rw [if_neg c25] at H
                exact absurd H (by simp)
              ·rw [if_neg c24] at H
               exact absurd H (by simp)
             ·rw [if_neg c23] at H
              have c23b0:decide (8≤(Int.tmod (wrap64 (bt a0 a1)) 11))=false:=decide_eq_false c23
              clear c23
              by_cases c27:((⟨#[99,99,100,101,101,102]⟩:ByteArray).extract ((ji15):Int).toNat ((wrap64 ((Int.tmod (wrap64 (bt a0 a1)) 11) - 4)):Int).toNat).size+1≤9223372036854775807
              ·rw [if_pos c27] at H
               have c27b0:=eq_true c27
               have c27b1:decide (((⟨#[99,99,100,101,101,102]⟩:ByteArray).extract ((ji15):Int).toNat ((wrap64 ((Int.tmod (wrap64 (bt a0 a1)) 11) - 4)):Int).toNat).size+1≤9223372036854775807)=true:=decide_eq_true c27
               try have c27b2:(9223372036854775807 < ((⟨#[99,99,100,101,101,102]⟩:ByteArray).extract ((ji15):Int).toNat ((wrap64 ((Int.tmod (wrap64 (bt a0 a1)) 11) - 4)):Int).toNat).size+1)=False:=eq_false (Nat.not_lt.2 c27)
               by_cases c28:(((⟨#[99,99,100,101,101,102]⟩:ByteArray).extract ((ji15):Int).toNat ((wrap64 ((Int.tmod (wrap64 (bt a0 a1)) 11) - 4)):Int).toNat)++(⟨#[40]⟩:ByteArray)).size+t307.size≤9223372036854775807
               ·rw [if_pos c28] at H
                have c28b0:=eq_true c28
                have c28b1:decide ((((⟨#[99,99,100,101,101,102]⟩:ByteArray).extract ((ji15):Int).toNat ((wrap64 ((Int.tmod (wrap64 (bt a0 a1)) 11) - 4)):Int).toNat)++(⟨#[40]⟩:ByteArray)).size+t307.size≤9223372036854775807)=true:=decide_eq_true c28
                try have c28b2:(9223372036854775807 < (((⟨#[99,99,100,101,101,102]⟩:ByteArray).extract ((ji15):Int).toNat ((wrap64 ((Int.tmod (wrap64 (bt a0 a1)) 11) - 4)):Int).toNat)++(⟨#[40]⟩:ByteArray)).size+t307.size)=False:=eq_false (Nat.not_lt.2 c28)
                by_cases c29:((((⟨#[99,99,100,101,101,102]⟩:ByteArray).extract ((ji15):Int).toNat ((wrap64 ((Int.tmod (wrap64 (bt a0 a1)) 11) - 4)):Int).toNat)++(⟨#[40]⟩:ByteArray))++t307).size+1≤9223372036854775807
                ·rw [if_pos c29] at H
                 have c29b0:=eq_true c29
                 have c29b1:decide (((((⟨#[99,99,100,101,101,102]⟩:ByteArray).extract ((ji15):Int).toNat ((wrap64 ((Int.tmod (wrap64 (bt a0 a1)) 11) - 4)):Int).toNat)++(⟨#[40]⟩:ByteArray))++t307).size+1≤9223372036854775807)=true:=decide_eq_true c29
                 try have c29b2:(9223372036854775807 < ((((⟨#[99,99,100,101,101,102]⟩:ByteArray).extract ((ji15):Int).toNat ((wrap64 ((Int.tmod (wrap64 (bt a0 a1)) 11) - 4)):Int).toNat)++(⟨#[40]⟩:ByteArray))++t307).size+1)=False:=eq_false (Nat.not_lt.2 c29)
                 simp only [Option.some.injEq,Prod.mk.injEq] at H
                 obtain ⟨rfl,rfl⟩:=H
                 go_wp2_with (first|((with_reducible refine gate_callee (f:=83) rfl ?_);refine goesL_ (some 57) rfl rfl Tryz.func83 (by kernel_rfl) rfl #[.string a0,.int .i64 (wrap64 (a1+1)),.int .i64 (wrap64 (a2 - 1))] rfl tM_ ?_;(with_reducible refine (ih kj18 (by have:=HJ7.out;have:=HJ18.out;omega) a0 (wrap64 (a1+1)) (wrap64 (a2 - 1)) t307 t308 _ A22.out).mono ?_);rintro e w' ⟨rfl,⟨nd,rfl⟩⟩;refine ⟨_,rfl,?_⟩))
                 all_goals first|(show Oper.upon _ _ _ _ _ (Result.halt _ _);exfalso;have es_:∀ x:UInt8,(⟨#[x]⟩:ByteArray).size=1:=fun _=>rfl;have es2_:∀ x y:UInt8,(⟨#[x,y]⟩:ByteArray).size=2:=fun _ _=>rfl;have e6_:(⟨#[99,99,100,101,101,102]⟩:ByteArray).size=6:=rfl;(try (have hq0_:=of_eq_true c27b0;simp only [ByteArray.size_append,ByteArray.size_extract,es_,es2_,e6_] at hq0_));(try (have hq1_:=of_eq_true c28b0;simp only [ByteArray.size_append,ByteArray.size_extract,es_,es2_,e6_] at hq1_));(try (have hq2_:=of_eq_true c29b0;simp only [ByteArray.size_append,ByteArray.size_extract,es_,es2_,e6_] at hq2_));omega)|skip
                 go_ret2
                 exact ⟨by first|rfl|(simp;done)|(simp only [←hji15]<;>(first|rfl|simp))|(simp [*];done),tD_⟩
                ·rw [if_neg c29] at H
                 exact absurd H (by simp)
               ·rw [if_neg c28] at H
                exact absurd H (by simp)
              ·rw [if_neg c27] at H
               exact absurd H (by simp)
            ·replace c21:=Bool.eq_false_iff.mpr c21
             subst c21
             have H1:((nl_grow.f kj18 a0 (wrap64 (a1+1)) (wrap64 (Int.tdiv (wrap64 (a2 - 1)) 2))).bind fun bt309=>((nl_grow.f kj18 a0 bt309.2 (wrap64 ((wrap64 (a2 - 1)) - (wrap64 (Int.tdiv (wrap64 (a2 - 1)) 2))))).bind fun bt311=>(if ((⟨#[99,99,100,101,101,102]⟩:ByteArray).extract ((ji15):Int).toNat ((wrap64 ((Int.tmod (wrap64 (bt a0 a1)) 11) - 4)):Int).toNat).size+1≤9223372036854775807 then (if (((⟨#[99,99,100,101,101,102]⟩:ByteArray).extract ((ji15):Int).toNat ((wrap64 ((Int.tmod (wrap64 (bt a0 a1)) 11) - 4)):Int).toNat)++(⟨#[40]⟩:ByteArray)).size+bt309.1.size≤9223372036854775807 then (if ((((⟨#[99,99,100,101,101,102]⟩:ByteArray).extract ((ji15):Int).toNat ((wrap64 ((Int.tmod (wrap64 (bt a0 a1)) 11) - 4)):Int).toNat)++(⟨#[40]⟩:ByteArray))++bt309.1).size+1≤9223372036854775807 then (if (((((⟨#[99,99,100,101,101,102]⟩:ByteArray).extract ((ji15):Int).toNat ((wrap64 ((Int.tmod (wrap64 (bt a0 a1)) 11) - 4)):Int).toNat)++(⟨#[40]⟩:ByteArray))++bt309.1)++(⟨#[44]⟩:ByteArray)).size+bt311.1.size≤9223372036854775807 then (if ((((((⟨#[99,99,100,101,101,102]⟩:ByteArray).extract ((ji15):Int).toNat ((wrap64 ((Int.tmod (wrap64 (bt a0 a1)) 11) - 4)):Int).toNat)++(⟨#[40]⟩:ByteArray))++bt309.1)++(⟨#[44]⟩:ByteArray))++bt311.1).size+1≤9223372036854775807 then (some (((((((⟨#[99,99,100,101,101,102]⟩:ByteArray).extract ((ji15):Int).toNat ((wrap64 ((Int.tmod (wrap64 (bt a0 a1)) 11) - 4)):Int).toNat)++(⟨#[40]⟩:ByteArray))++bt309.1)++(⟨#[44]⟩:ByteArray))++bt311.1)++(⟨#[41]⟩:ByteArray),bt311.2)) else (none)) else (none)) else (none)) else (none)) else (none))))=some (r1,r2):=by rw [if_neg (show ¬ (false=true) by decide)] at H;exact H
             clear H
             have H:=H1
             clear H1
             replace H:=Option.bind_eq_some_iff.mp H
             obtain ⟨⟨t309,t310⟩,A300,H⟩:=H
             replace H:((nl_grow.f kj18 a0 t310 (wrap64 ((wrap64 (a2 - 1)) - (wrap64 (Int.tdiv (wrap64 (a2 - 1)) 2))))).bind fun bt311=>(if ((⟨#[99,99,100,101,101,102]⟩:ByteArray).extract ((ji15):Int).toNat ((wrap64 ((Int.tmod (wrap64 (bt a0 a1)) 11) - 4)):Int).toNat).size+1≤9223372036854775807 then (if (((⟨#[99,99,100,101,101,102]⟩:ByteArray).extract ((ji15):Int).toNat ((wrap64 ((Int.tmod (wrap64 (bt a0 a1)) 11) - 4)):Int).toNat)++(⟨#[40]⟩:ByteArray)).size+t309.size≤9223372036854775807 then (if ((((⟨#[99,99,100,101,101,102]⟩:ByteArray).extract ((ji15):Int).toNat ((wrap64 ((Int.tmod (wrap64 (bt a0 a1)) 11) - 4)):Int).toNat)++(⟨#[40]⟩:ByteArray))++t309).size+1≤9223372036854775807 then (if (((((⟨#[99,99,100,101,101,102]⟩:ByteArray).extract ((ji15):Int).toNat ((wrap64 ((Int.tmod (wrap64 (bt a0 a1)) 11) - 4)):Int).toNat)++(⟨#[40]⟩:ByteArray))++t309)++(⟨#[44]⟩:ByteArray)).size+bt311.1.size≤9223372036854775807 then (if ((((((⟨#[99,99,100,101,101,102]⟩:ByteArray).extract ((ji15):Int).toNat ((wrap64 ((Int.tmod (wrap64 (bt a0 a1)) 11) - 4)):Int).toNat)++(⟨#[40]⟩:ByteArray))++t309)++(⟨#[44]⟩:ByteArray))++bt311.1).size+1≤9223372036854775807 then (some (((((((⟨#[99,99,100,101,101,102]⟩:ByteArray).extract ((ji15):Int).toNat ((wrap64 ((Int.tmod (wrap64 (bt a0 a1)) 11) - 4)):Int).toNat)++(⟨#[40]⟩:ByteArray))++t309)++(⟨#[44]⟩:ByteArray))++bt311.1)++(⟨#[41]⟩:ByteArray),bt311.2)) else (none)) else (none)) else (none)) else (none)) else (none)))=some (r1,r2):=H
             have A30:=Aside0.mk A300
             clear A300
             replace H:=Option.bind_eq_some_iff.mp H
             obtain ⟨⟨t311,t312⟩,A310,H⟩:=H
             replace H:(if ((⟨#[99,99,100,101,101,102]⟩:ByteArray).extract ((ji15):Int).toNat ((wrap64 ((Int.tmod (wrap64 (bt a0 a1)) 11) - 4)):Int).toNat).size+1≤9223372036854775807 then (if (((⟨#[99,99,100,101,101,102]⟩:ByteArray).extract ((ji15):Int).toNat ((wrap64 ((Int.tmod (wrap64 (bt a0 a1)) 11) - 4)):Int).toNat)++(⟨#[40]⟩:ByteArray)).size+t309.size≤9223372036854775807 then (if ((((⟨#[99,99,100,101,101,102]⟩:ByteArray).extract ((ji15):Int).toNat ((wrap64 ((Int.tmod (wrap64 (bt a0 a1)) 11) - 4)):Int).toNat)++(⟨#[40]⟩:ByteArray))++t309).size+1≤9223372036854775807 then (if (((((⟨#[99,99,100,101,101,102]⟩:ByteArray).extract ((ji15):Int).toNat ((wrap64 ((Int.tmod (wrap64 (bt a0 a1)) 11) - 4)):Int).toNat)++(⟨#[40]⟩:ByteArray))++t309)++(⟨#[44]⟩:ByteArray)).size+t311.size≤9223372036854775807 then (if ((((((⟨#[99,99,100,101,101,102]⟩:ByteArray).extract ((ji15):Int).toNat ((wrap64 ((Int.tmod (wrap64 (bt a0 a1)) 11) - 4)):Int).toNat)++(⟨#[40]⟩:ByteArray))++t309)++(⟨#[44]⟩:ByteArray))++t311).size+1≤9223372036854775807 then (some (((((((⟨#[99,99,100,101,101,102]⟩:ByteArray).extract ((ji15):Int).toNat ((wrap64 ((Int.tmod (wrap64 (bt a0 a1)) 11) - 4)):Int).toNat)++(⟨#[40]⟩:ByteArray))++t309)++(⟨#[44]⟩:ByteArray))++t311)++(⟨#[41]⟩:ByteArray),t312)) else (none)) else (none)) else (none)) else (none)) else (none))=some (r1,r2):=H
             have A31:=Aside0.mk A310
             clear A310
             by_cases c32:((⟨#[99,99,100,101,101,102]⟩:ByteArray).extract ((ji15):Int).toNat ((wrap64 ((Int.tmod (wrap64 (bt a0 a1)) 11) - 4)):Int).toNat).size+1≤9223372036854775807
             ·rw [if_pos c32] at H
              have c32b0:=eq_true c32
              have c32b1:decide (((⟨#[99,99,100,101,101,102]⟩:ByteArray).extract ((ji15):Int).toNat ((wrap64 ((Int.tmod (wrap64 (bt a0 a1)) 11) - 4)):Int).toNat).size+1≤9223372036854775807)=true:=decide_eq_true c32
              try have c32b2:(9223372036854775807 < ((⟨#[99,99,100,101,101,102]⟩:ByteArray).extract ((ji15):Int).toNat ((wrap64 ((Int.tmod (wrap64 (bt a0 a1)) 11) - 4)):Int).toNat).size+1)=False:=eq_false (Nat.not_lt.2 c32)
              by_cases c33:(((⟨#[99,99,100,101,101,102]⟩:ByteArray).extract ((ji15):Int).toNat ((wrap64 ((Int.tmod (wrap64 (bt a0 a1)) 11) - 4)):Int).toNat)++(⟨#[40]⟩:ByteArray)).size+t309.size≤9223372036854775807
              ·rw [if_pos c33] at H
               have c33b0:=eq_true c33
               have c33b1:decide ((((⟨#[99,99,100,101,101,102]⟩:ByteArray).extract ((ji15):Int).toNat ((wrap64 ((Int.tmod (wrap64 (bt a0 a1)) 11) - 4)):Int).toNat)++(⟨#[40]⟩:ByteArray)).size+t309.size≤9223372036854775807)=true:=decide_eq_true c33
               try have c33b2:(9223372036854775807 < (((⟨#[99,99,100,101,101,102]⟩:ByteArray).extract ((ji15):Int).toNat ((wrap64 ((Int.tmod (wrap64 (bt a0 a1)) 11) - 4)):Int).toNat)++(⟨#[40]⟩:ByteArray)).size+t309.size)=False:=eq_false (Nat.not_lt.2 c33)
               by_cases c34:((((⟨#[99,99,100,101,101,102]⟩:ByteArray).extract ((ji15):Int).toNat ((wrap64 ((Int.tmod (wrap64 (bt a0 a1)) 11) - 4)):Int).toNat)++(⟨#[40]⟩:ByteArray))++t309).size+1≤9223372036854775807
               ·rw [if_pos c34] at H
                have c34b0:=eq_true c34
                have c34b1:decide (((((⟨#[99,99,100,101,101,102]⟩:ByteArray).extract ((ji15):Int).toNat ((wrap64 ((Int.tmod (wrap64 (bt a0 a1)) 11) - 4)):Int).toNat)++(⟨#[40]⟩:ByteArray))++t309).size+1≤9223372036854775807)=true:=decide_eq_true c34
                try have c34b2:(9223372036854775807 < ((((⟨#[99,99,100,101,101,102]⟩:ByteArray).extract ((ji15):Int).toNat ((wrap64 ((Int.tmod (wrap64 (bt a0 a1)) 11) - 4)):Int).toNat)++(⟨#[40]⟩:ByteArray))++t309).size+1)=False:=eq_false (Nat.not_lt.2 c34)
                by_cases c35:(((((⟨#[99,99,100,101,101,102]⟩:ByteArray).extract ((ji15):Int).toNat ((wrap64 ((Int.tmod (wrap64 (bt a0 a1)) 11) - 4)):Int).toNat)++(⟨#[40]⟩:ByteArray))++t309)++(⟨#[44]⟩:ByteArray)).size+t311.size≤9223372036854775807
                ·rw [if_pos c35] at H
                 have c35b0:=eq_true c35
                 have c35b1:decide ((((((⟨#[99,99,100,101,101,102]⟩:ByteArray).extract ((ji15):Int).toNat ((wrap64 ((Int.tmod (wrap64 (bt a0 a1)) 11) - 4)):Int).toNat)++(⟨#[40]⟩:ByteArray))++t309)++(⟨#[44]⟩:ByteArray)).size+t311.size≤9223372036854775807)=true:=decide_eq_true c35
                 try have c35b2:(9223372036854775807 < (((((⟨#[99,99,100,101,101,102]⟩:ByteArray).extract ((ji15):Int).toNat ((wrap64 ((Int.tmod (wrap64 (bt a0 a1)) 11) - 4)):Int).toNat)++(⟨#[40]⟩:ByteArray))++t309)++(⟨#[44]⟩:ByteArray)).size+t311.size)=False:=eq_false (Nat.not_lt.2 c35)
                 by_cases c36:((((((⟨#[99,99,100,101,101,102]⟩:ByteArray).extract ((ji15):Int).toNat ((wrap64 ((Int.tmod (wrap64 (bt a0 a1)) 11) - 4)):Int).toNat)++(⟨#[40]⟩:ByteArray))++t309)++(⟨#[44]⟩:ByteArray))++t311).size+1≤9223372036854775807
                 ·rw [if_pos c36] at H
                  have c36b0:=eq_true c36
                  have c36b1:decide (((((((⟨#[99,99,100,101,101,102]⟩:ByteArray).extract ((ji15):Int).toNat ((wrap64 ((Int.tmod (wrap64 (bt a0 a1)) 11) - 4)):Int).toNat)++(⟨#[40]⟩:ByteArray))++t309)++(⟨#[44]⟩:ByteArray))++t311).size+1≤9223372036854775807)=true:=decide_eq_true c36
                  try have c36b2:(9223372036854775807 < ((((((⟨#[99,99,100,101,101,102]⟩:ByteArray).extract ((ji15):Int).toNat ((wrap64 ((Int.tmod (wrap64 (bt a0 a1)) 11) - 4)):Int).toNat)++(⟨#[40]⟩:ByteArray))++t309)++(⟨#[44]⟩:ByteArray))++t311).size+1)=False:=eq_false (Nat.not_lt.2 c36)
                  simp only [Option.some.injEq,Prod.mk.injEq] at H
                  obtain ⟨rfl,rfl⟩:=H
                  go_wp2_with (first|((with_reducible refine gate_callee (f:=83) rfl ?_);refine goesL_ (some 75) rfl rfl Tryz.func83 (by kernel_rfl) rfl #[.string a0,.int .i64 (wrap64 (a1+1)),.int .i64 (wrap64 (Int.tdiv (wrap64 (a2 - 1)) 2))] rfl tM_ ?_;(with_reducible refine (ih kj18 (by have:=HJ7.out;have:=HJ18.out;omega) a0 (wrap64 (a1+1)) (wrap64 (Int.tdiv (wrap64 (a2 - 1)) 2)) t309 t310 _ A30.out).mono ?_);rintro e w' ⟨rfl,⟨nd,rfl⟩⟩;refine ⟨_,rfl,?_⟩)|((with_reducible refine gate_callee (f:=83) rfl ?_);refine goesL_ (some 87) rfl rfl Tryz.func83 (by kernel_rfl) rfl #[.string a0,.int .i64 t310,.int .i64 (wrap64 ((wrap64 (a2 - 1)) - (wrap64 (Int.tdiv (wrap64 (a2 - 1)) 2))))] rfl tM_ ?_;(with_reducible refine (ih kj18 (by have:=HJ7.out;have:=HJ18.out;omega) a0 t310 (wrap64 ((wrap64 (a2 - 1)) - (wrap64 (Int.tdiv (wrap64 (a2 - 1)) 2)))) t311 t312 _ A31.out).mono ?_);rintro e w' ⟨rfl,⟨nd,rfl⟩⟩;refine ⟨_,rfl,?_⟩))
                  all_goals first|(show Oper.upon _ _ _ _ _ (Result.halt _ _);exfalso;have es_:∀ x:UInt8,(⟨#[x]⟩:ByteArray).size=1:=fun _=>rfl;have es2_:∀ x y:UInt8,(⟨#[x,y]⟩:ByteArray).size=2:=fun _ _=>rfl;have e6_:(⟨#[99,99,100,101,101,102]⟩:ByteArray).size=6:=rfl;(try (have hq0_:=of_eq_true c32b0;simp only [ByteArray.size_append,ByteArray.size_extract,es_,es2_,e6_] at hq0_));(try (have hq1_:=of_eq_true c33b0;simp only [ByteArray.size_append,ByteArray.size_extract,es_,es2_,e6_] at hq1_));(try (have hq2_:=of_eq_true c34b0;simp only [ByteArray.size_append,ByteArray.size_extract,es_,es2_,e6_] at hq2_));(try (have hq3_:=of_eq_true c35b0;simp only [ByteArray.size_append,ByteArray.size_extract,es_,es2_,e6_] at hq3_));(try (have hq4_:=of_eq_true c36b0;simp only [ByteArray.size_append,ByteArray.size_extract,es_,es2_,e6_] at hq4_));omega)|skip
                  go_ret2
                  exact ⟨by first|rfl|(simp;done)|(simp only [←hji15]<;>(first|rfl|simp))|(simp [*];done),tD_⟩
                 ·rw [if_neg c36] at H
                  exact absurd H (by simp)
                ·rw [if_neg c35] at H
                 exact absurd H (by simp)
               ·rw [if_neg c34] at H
                exact absurd H (by simp)
              ·rw [if_neg c33] at H
               exact absurd H (by simp)
             ·rw [if_neg c32] at H
              exact absurd H (by simp)
         ·rw [if_neg c18] at H
          exact absurd H (by simp)
        ·rw [if_neg c17] at H
         exact absurd H (by simp)
       ·rw [if_neg c16] at H
        exact absurd H (by simp)
   ·rw [if_neg c6] at H
    exact absurd H (by simp)
  ·rw [if_neg c5] at H
   exact absurd H (by simp)
def nl_term.f (k:Nat) (a0:ByteArray) (a1:Int):Option (ByteArray):=(nl_grow.f k a0 0 a1).bind fun bt313=>(some bt313.1)
set_option maxHeartbeats 8000000 in
set_option maxRecDepth 100000 in
theorem nl_term.calls (k:Nat) (a0:ByteArray) (a1:Int) (r:ByteArray) (w:World) (h:nl_term.f k a0 a1=some r) :
  Calls Tryz.prog 33 #[.string a0,.int .i64 a1] w fun e w'=>e=.returned (.string r)∧Drawn0 w w':=by
 have H:((nl_grow.f k a0 0 a1).bind fun bt313=>(some bt313.1))=some r:=h
 clear h
 replace H:=Option.bind_eq_some_iff.mp H
 obtain ⟨⟨t313,t314⟩,A30,H⟩:=H
 replace H:(some t313)=some r:=H
 have A3:=Aside0.mk A30
 clear A30
 obtain rfl:=Option.some.inj H
 go_enter Tryz.func33,Tryz.ntmps33
 go_wp2_with (first|((with_reducible refine gate_callee (f:=83) rfl ?_);refine goesL_ (some 10) rfl rfl Tryz.func83 (by kernel_rfl) rfl #[.string a0,.int .i64 0,.int .i64 a1] rfl tM_ ?_;(with_reducible refine (nl_grow.calls k a0 0 a1 t313 t314 _ A3.out).mono ?_);rintro e w' ⟨rfl,⟨nd,rfl⟩⟩;refine ⟨_,rfl,?_⟩))
 go_ret
 exact ⟨by first|rfl|(simp;done)|(simp [*];done),tD_⟩
end Go.Proofs.YtaafeallcaiooaaGreat.Pr
