import Derived.Test.YtaafeallcaiooaaGreatPr0
namespace Go.Proofs.YtaafeallcaiooaaGreat.Pr
open Go.RowKit Go.Proofs.Zw Go.Proofs.Zl Go.Proofs.Zm
attribute [local go_sem] max2_int min2_int max_two min_two max_three min_three max_four min_four
set_option linter.unusedVariables false
set_option linter.unusedSimpArgs false
def nl_numbers.l0:Nat→List (List Int)→List (List Int)→Int→Option ((List (List Int)))
 | 0,_,_,_=>none
 | k+1,x0,x3,x4=>if x4 < (x0.length:Int) then (if x4 < 7 then (if 0≤x4 then (if 0≤(mn ((rd_L1 x0 x4).length:Int) 4) then (if (mn ((rd_L1 x0 x4).length:Int) 4)≤((rd_L1 x0 x4).length:Int) then (if ([]:List Int).length+((rd_L1 x0 x4).take ((mn ((rd_L1 x0 x4).length:Int) 4):Int).toNat).length < 17592186044416 then (if x3.length < 5864062014805 then (nl_numbers.l0 k x0 (x3++[(([]:List Int)++((rd_L1 x0 x4).take ((mn ((rd_L1 x0 x4).length:Int) 4):Int).toNat))]) (wrap64 (x4+1))) else (none)) else (none)) else (none)) else (none)) else (none)) else (some x3)) else (some x3)
theorem nl_numbers.mono_l:∀ k,(∀ y0 y1 y2,LeO (nl_numbers.l0 k y0 y1 y2) (nl_numbers.l0 (k+1) y0 y1 y2))
 | 0=>fun _ _ _ r h=>by simp [nl_numbers.l0] at h
 | k+1=>by
  have ih0:=nl_numbers.mono_l k
  ·intro y0 y1 y2
   unfold nl_numbers.l0
   repeat' first
   | (with_reducible exact ih0 _ _ _)
   | (with_reducible exact LeO.refl _)
   | (with_reducible exact LeO.none _)
   | (with_reducible refine LeO.ite ?_ ?_)
   | (with_reducible refine LeO.bind ?_ (fun _=>?_))
   | exact ih0 _ _ _
   | exact LeO.none _
   | refine LeO.ite ?_ ?_
   | refine LeO.bind ?_ (fun _=>?_)
def nl_short.f (a0:ByteArray):Option (ByteArray):=if 0≤(mn (a0.size:Int) 400) then (if (mn (a0.size:Int) 400)≤(a0.size:Int) then (some (a0.extract 0 ((mn (a0.size:Int) 400):Int).toNat)) else (none)) else (none)
set_option maxHeartbeats 8000000 in
set_option maxRecDepth 100000 in
theorem nl_short.calls (a0:ByteArray) (r:ByteArray) (w:World) (h:nl_short.f a0=some r) :
  Calls Tryz.prog 21 #[.string a0] w fun e w'=>e=.returned (.string r)∧Below w.heap.size w w':=by
 have HB:=Aside0.mk (Below.refl w.heap.size w)
 have H:(if 0≤(mn (a0.size:Int) 400) then (if (mn (a0.size:Int) 400)≤(a0.size:Int) then (some (a0.extract 0 ((mn (a0.size:Int) 400):Int).toNat)) else (none)) else (none))=some r:=h
 clear h
 obtain ⟨ji2,hji2⟩:∃ j_:Int,(mn (a0.size:Int) 400)=j_:=⟨_,rfl⟩
 replace H:(if 0≤(ji2) then (if (ji2)≤(a0.size:Int) then (some (a0.extract 0 ((ji2):Int).toNat)) else (none)) else (none))=some r:=by first|(rw [hji2] at H;exact H)|(simp only [hji2] at H ⊢;exact H)
 (try (have hji2h:ji2≤400:=by (rw [←hji2];unfold mn;(repeat' split)<;>omega)))
 (try (have hji2g:ji2≤64:=by omega))
 (try (have hji2l:0≤ji2:=by (rw [←hji2];unfold mn;(repeat' split)<;>omega)))
 (try (have hji2m:0≤ji2:=by omega))
 have hji2_:(if 400 < (a0.size:Int) then 400 else (a0.size:Int))=ji2:=hji2
 by_cases c3:0≤(ji2)
 ·rw [if_pos c3] at H
  have c3b0:=eq_true c3
  have c3b1:decide (0≤(ji2))=true:=decide_eq_true c3
  clear c3
  by_cases c4:(ji2)≤(a0.size:Int)
  ·rw [if_pos c4] at H
   have c4b0:=eq_true c4
   have c4b1:decide ((ji2)≤(a0.size:Int))=true:=decide_eq_true c4
   clear c4
   obtain rfl:=Option.some.inj H
   go_enter Tryz.func21,Tryz.ntmps21
   go_wp2
   go_ret
   exact ⟨by first|rfl|(simp [errW_none,errW_some]<;>rfl)|(simp only [←hji2];first|rfl|(simp [errW_none,errW_some]<;>rfl))|(simp [*,errW_none,errW_some]<;>rfl),tB_ HB⟩
  ·rw [if_neg c4] at H
   exact absurd H (by simp)
 ·rw [if_neg c3] at H
  exact absurd H (by simp)
def nr_Variable.f (a0:Int):Option (Bool):=if a0≥120 then (some (decide (a0≤122))) else (some false)
set_option maxHeartbeats 8000000 in
set_option maxRecDepth 100000 in
theorem nr_Variable.calls (a0:Int) (r:Bool) (w:World) (h:nr_Variable.f a0=some r) :
  Calls Tryz.prog 74 #[.int .u8 a0] w fun e w'=>e=.returned (.bool r)∧Drawn0 w w':=by
 have H:(if a0≥120 then (some (decide (a0≤122))) else (some false))=some r:=h
 clear h
 by_cases c2:a0≥120
 ·rw [if_pos c2] at H
  have c2b0:decide (120≤a0)=true:=decide_eq_true c2
  clear c2
  obtain rfl:=Option.some.inj H
  go_enter Tryz.func74,Tryz.ntmps74
  go_wp2
  go_ret
  exact ⟨by first|rfl|(simp;done)|(simp [*];done),tD_⟩
 ·rw [if_neg c2] at H
  have c2b0:decide (120≤a0)=false:=decide_eq_false c2
  clear c2
  obtain rfl:=Option.some.inj H
  go_enter Tryz.func74,Tryz.ntmps74
  go_wp2
  go_ret
  exact ⟨by first|rfl|(simp;done)|(simp [*];done),tD_⟩
mutual
def nr_Parts.j0:Nat→Int→Bool→Option (Int)
 | 0,_,_=>none
 | k+1,x0,x3=>if x3=true then (some 0) else (if x0=99 then (nr_Parts.j1 k x0 true) else (nr_Parts.j1 k x0 (x0 == 100)))
def nr_Parts.j1:Nat→Int→Bool→Option (Int)
 | 0,_,_=>none
 | k+1,x0,x14=>if x14=true then (some 1) else (if x0=101 then (some 2) else (if x0=102 then (some 2) else (some (-1))))
end
def nr_Parts.f (k:Nat) (a0:Int):Option (Int):=if a0=97 then (nr_Parts.j0 k a0 true) else (if a0=98 then (nr_Parts.j0 k a0 true) else ((nr_Variable.f a0).bind fun t110=>(nr_Parts.j0 k a0 t110)))
theorem nr_Parts.mono_l:∀ k,(∀ y0 y1,LeO (nr_Parts.j0 k y0 y1) (nr_Parts.j0 (k+1) y0 y1))∧(∀ y0 y1,LeO (nr_Parts.j1 k y0 y1) (nr_Parts.j1 (k+1) y0 y1))
 | 0=>⟨fun _ _ r h=>by simp [nr_Parts.j0] at h,fun _ _ r h=>by simp [nr_Parts.j1] at h⟩
 | k+1=>by
  obtain ⟨ih0,ih1⟩:=nr_Parts.mono_l k
  refine ⟨?_,?_⟩
  ·intro y0 y1
   unfold nr_Parts.j0
   repeat' first
   | (with_reducible exact ih0 _ _)
   | (with_reducible exact ih1 _ _)
   | (with_reducible exact LeO.refl _)
   | (with_reducible exact LeO.none _)
   | (with_reducible refine LeO.ite ?_ ?_)
   | (with_reducible refine LeO.bind ?_ (fun _=>?_))
   | exact ih0 _ _
   | exact ih1 _ _
   | exact LeO.none _
   | refine LeO.ite ?_ ?_
   | refine LeO.bind ?_ (fun _=>?_)
  ·intro y0 y1
   unfold nr_Parts.j1
   repeat' first
   | (with_reducible exact ih0 _ _)
   | (with_reducible exact ih1 _ _)
   | (with_reducible exact LeO.refl _)
   | (with_reducible exact LeO.none _)
   | (with_reducible refine LeO.ite ?_ ?_)
   | (with_reducible refine LeO.bind ?_ (fun _=>?_))
   | exact ih0 _ _
   | exact ih1 _ _
   | exact LeO.none _
   | refine LeO.ite ?_ ?_
   | refine LeO.bind ?_ (fun _=>?_)
theorem nr_Parts.mono:∀ a0 k,LeO (nr_Parts.f k a0) (nr_Parts.f (k+1) a0):=by
 intro a0 k
 obtain ⟨ih0,ih1⟩:=nr_Parts.mono_l k
 unfold nr_Parts.f
 repeat' first
   | (with_reducible exact ih0 _ _)
   | (with_reducible exact ih1 _ _)
   | (with_reducible exact LeO.refl _)
   | (with_reducible exact LeO.none _)
   | (with_reducible refine LeO.ite ?_ ?_)
   | (with_reducible refine LeO.bind ?_ (fun _=>?_))
   | exact ih0 _ _
   | exact ih1 _ _
   | exact LeO.none _
   | refine LeO.ite ?_ ?_
   | refine LeO.bind ?_ (fun _=>?_)
set_option maxHeartbeats 8000000 in
set_option maxRecDepth 100000 in
theorem nr_Parts.calls (k:Nat) (a0:Int) (r:Int) (w:World) (h:nr_Parts.f k a0=some r) :
  Calls Tryz.prog 71 #[.int .u8 a0] w fun e w'=>e=.returned (.int .i64 r)∧Drawn0 w w':=by
 have H:(if a0=97 then (nr_Parts.j0 k a0 true) else (if a0=98 then (nr_Parts.j0 k a0 true) else ((nr_Variable.f a0).bind fun t110=>(nr_Parts.j0 k a0 t110))))=some r:=h
 clear h
 have HC2:=Aside0.mk H
 clear H
 go_enter Tryz.func71,Tryz.ntmps71
 go_upto_region 1 with (fail)
 go_cut [3] (fun v3 wc=>∃ (kq:Nat) (x3_1:Bool),v3=.bool x3_1∧Aside0 (nr_Parts.j0 kq a0 x3_1=some r)∧Aside0 (kq≤k)∧Drawn0 w wc)
 case first =>
  have H:=HC2.out
  clear HC2
  by_cases c3:a0=97
  ·rw [if_pos c3] at H
   have c3b0:(a0 == 97)=true:=beq_iff_eq.mpr c3
   have c3b1:(a0 != 97)=false:=bne_eq_false_iff_eq.mpr c3
   clear c3
   (first|rw [c3b0]|(simp only [i64_w,i32_w];rw [c3b0])|skip)
   have H':=Aside0.mk H
   clear H
   go_wp2
   go_meet
   case rel=>exact ⟨_,(true),tS_,H',⟨by first|omega|exact Nat.le_refl _⟩,tD_⟩
  ·rw [if_neg c3] at H
   have c3b0:(a0 == 97)=false:=beq_eq_false_iff_ne.mpr c3
   have c3b1:(a0 != 97)=true:=bne_iff_ne.mpr c3
   (first|rw [c3b0]|(simp only [i64_w,i32_w];rw [c3b0])|skip)
   by_cases c4:a0=98
   ·rw [if_pos c4] at H
    have c4b0:(a0 == 98)=true:=beq_iff_eq.mpr c4
    have c4b1:(a0 != 98)=false:=bne_eq_false_iff_eq.mpr c4
    clear c4
    have H':=Aside0.mk H
    clear H
    go_wp2
    go_meet
    case rel=>exact ⟨_,(true),tS_,H',⟨by first|omega|exact Nat.le_refl _⟩,tD_⟩
   ·rw [if_neg c4] at H
    have c4b0:(a0 == 98)=false:=beq_eq_false_iff_ne.mpr c4
    have c4b1:(a0 != 98)=true:=bne_iff_ne.mpr c4
    replace H:=Option.bind_eq_some_iff.mp H
    obtain ⟨t110,A50,H⟩:=H
    replace H:(nr_Parts.j0 k a0 t110)=some r:=H
    have A5:=Aside0.mk A50
    clear A50
    have H':=Aside0.mk H
    clear H
    go_wp2_with (first|(go_at_call 74;(with_reducible refine (nr_Variable.calls a0 t110 _ A5.out).mono ?_);rintro e w' ⟨rfl,⟨nd,rfl⟩⟩))
    go_meet
    case rel=>exact ⟨_,(t110),tS_,H',⟨by first|omega|exact Nat.le_refl _⟩,tD_⟩
 case rest =>
  clear HC2
  try clear p2
  try clear c3
  try clear c3b0
  try clear c3b1
  try clear c4
  try clear c4b0
  try clear c4b1
  obtain ⟨kq,x3_1,rfl,HA,HJ1,⟨mc1,rfl⟩⟩:=hcut
  cases kq with
  | zero=>exact absurd HA.out (by simp [nr_Parts.j0])
  | succ kj1 =>
   have H:=HA.out
   clear HA
   simp only [nr_Parts.j0] at H
   by_cases c6:x3_1=true
   ·subst c6
    have H1:(some 0)=some r:=by rw [if_pos rfl] at H;exact H
    clear H
    have H:=H1
    clear H1
    obtain rfl:=Option.some.inj H
    go_wp2
    go_ret
    exact ⟨by first|rfl|(simp;done)|(simp [*];done),tD_⟩
   ·replace c6:=Bool.eq_false_iff.mpr c6
    subst c6
    have H1:(if a0=99 then (nr_Parts.j1 kj1 a0 true) else (nr_Parts.j1 kj1 a0 (a0 == 100)))=some r:=by rw [if_neg (show ¬ (false=true) by decide)] at H;exact H
    clear H
    have H:=H1
    clear H1
    have HC7:=Aside0.mk H
    clear H
    go_upto_region 3 with (fail)
    go_cut [14] (fun v14 wc=>∃ (kq:Nat) (x14_6:Bool),v14=.bool x14_6∧Aside0 (nr_Parts.j1 kq a0 x14_6=some r)∧Aside0 (kq≤kj1)∧Drawn0 w wc)
    case first =>
     have H:=HC7.out
     clear HC7
     by_cases c8:a0=99
     ·rw [if_pos c8] at H
      have c8b0:(a0 == 99)=true:=beq_iff_eq.mpr c8
      have c8b1:(a0 != 99)=false:=bne_eq_false_iff_eq.mpr c8
      clear c8
      (first|rw [c8b0]|(simp only [i64_w,i32_w];rw [c8b0])|skip)
      have H':=Aside0.mk H
      clear H
      go_wp2
      go_meet
      case rel=>exact ⟨_,(true),tS_,H',⟨by have:=HJ1.out;first|omega|exact Nat.le_refl _⟩,tD_⟩
     ·rw [if_neg c8] at H
      have c8b0:(a0 == 99)=false:=beq_eq_false_iff_ne.mpr c8
      have c8b1:(a0 != 99)=true:=bne_iff_ne.mpr c8
      (first|rw [c8b0]|(simp only [i64_w,i32_w];rw [c8b0])|skip)
      have H':=Aside0.mk H
      clear H
      go_wp2
      go_meet
      case rel=>exact ⟨_,((a0 == 100)),tS_,H',⟨by have:=HJ1.out;first|omega|exact Nat.le_refl _⟩,tD_⟩
    case rest =>
     clear HC7
     try clear c1
     try clear p2
     try clear c3
     try clear c3b0
     try clear c3b1
     try clear c4
     try clear c4b0
     try clear c4b1
     try clear c6
     try clear c7
     try clear c8
     try clear c8b0
     try clear c8b1
     try clear p2
     obtain ⟨kq,x14_6,rfl,HA,HJ6,⟨mc6,rfl⟩⟩:=hcut
     cases kq with
     | zero=>exact absurd HA.out (by simp [nr_Parts.j1])
     | succ kj6 =>
      have H:=HA.out
      clear HA
      simp only [nr_Parts.j1] at H
      by_cases c9:x14_6=true
      ·subst c9
       have H1:(some 1)=some r:=by rw [if_pos rfl] at H;exact H
       clear H
       have H:=H1
       clear H1
       obtain rfl:=Option.some.inj H
       go_wp2
       go_ret
       exact ⟨by first|rfl|(simp;done)|(simp [*];done),tD_⟩
      ·replace c9:=Bool.eq_false_iff.mpr c9
       subst c9
       have H1:(if a0=101 then (some 2) else (if a0=102 then (some 2) else (some (-1))))=some r:=by rw [if_neg (show ¬ (false=true) by decide)] at H;exact H
       clear H
       have H:=H1
       clear H1
       by_cases c10:a0=101
       ·rw [if_pos c10] at H
        have c10b0:(a0 == 101)=true:=beq_iff_eq.mpr c10
        have c10b1:(a0 != 101)=false:=bne_eq_false_iff_eq.mpr c10
        clear c10
        obtain rfl:=Option.some.inj H
        go_wp2
        go_ret
        exact ⟨by first|rfl|(simp;done)|(simp [*];done),tD_⟩
       ·rw [if_neg c10] at H
        have c10b0:(a0 == 101)=false:=beq_eq_false_iff_ne.mpr c10
        have c10b1:(a0 != 101)=true:=bne_iff_ne.mpr c10
        by_cases c11:a0=102
        ·rw [if_pos c11] at H
         have c11b0:(a0 == 102)=true:=beq_iff_eq.mpr c11
         have c11b1:(a0 != 102)=false:=bne_eq_false_iff_eq.mpr c11
         clear c11
         obtain rfl:=Option.some.inj H
         go_wp2
         go_ret
         exact ⟨by first|rfl|(simp;done)|(simp [*];done),tD_⟩
        ·rw [if_neg c11] at H
         have c11b0:(a0 == 102)=false:=beq_eq_false_iff_ne.mpr c11
         have c11b1:(a0 != 102)=true:=bne_iff_ne.mpr c11
         obtain rfl:=Option.some.inj H
         go_wp2
         go_ret
         exact ⟨by first|rfl|(simp;done)|(simp [*];done),tD_⟩
end Go.Proofs.YtaafeallcaiooaaGreat.Pr
