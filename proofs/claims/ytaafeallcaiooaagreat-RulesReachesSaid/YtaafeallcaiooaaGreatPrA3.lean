import Derived.Test.YtaafeallcaiooaaGreatPr0
import Derived.Test.YtaafeallcaiooaaGreatPrA1
import Derived.Test.YtaafeallcaiooaaGreatPrA2
namespace Go.Proofs.YtaafeallcaiooaaGreat.Pr
open Go.RowKit Go.Proofs.Zw Go.Proofs.Zl Go.Proofs.Zm
attribute [local go_sem] max2_int min2_int max_two min_two max_three min_three max_four min_four
set_option linter.unusedVariables false
set_option linter.unusedSimpArgs false
def nr_Size.l0:Nat→ByteArray→Int→Int→Option (Int)
 | 0,_,_,_=>none
 | k+1,x0,x3,x4=>if x4 < (x0.size:Int) then (if 0≤x4 then ((nr_letter.f k (bt x0 x4)).bind fun t172=>(if t172=true then (nr_Size.l0 k x0 (wrap64 (x3+1)) (wrap64 (x4+1))) else (nr_Size.l0 k x0 x3 (wrap64 (x4+1))))) else (none)) else (some x3)
def nr_Size.f (k:Nat) (a0:ByteArray):Option (Int):=nr_Size.l0 k a0 0 0
theorem nr_Size.mono_l:∀ k,(∀ y0 y1 y2,LeO (nr_Size.l0 k y0 y1 y2) (nr_Size.l0 (k+1) y0 y1 y2))
 | 0=>fun _ _ _ r h=>by simp [nr_Size.l0] at h
 | k+1=>by
  have ih0:=nr_Size.mono_l k
  ·intro y0 y1 y2
   unfold nr_Size.l0
   repeat' first
   | (with_reducible exact ih0 _ _ _)
   | (with_reducible exact nr_letter.mono _ _)
   | (with_reducible exact LeO.refl _)
   | (with_reducible exact LeO.none _)
   | (with_reducible refine LeO.ite ?_ ?_)
   | (with_reducible refine LeO.bind ?_ (fun _=>?_))
   | exact ih0 _ _ _
   | exact nr_letter.mono _ _
   | exact LeO.none _
   | refine LeO.ite ?_ ?_
   | refine LeO.bind ?_ (fun _=>?_)
set_option maxHeartbeats 8000000 in
set_option maxRecDepth 100000 in
theorem nr_Size.calls (k:Nat) (a0:ByteArray) (r:Int) (w:World) (h:nr_Size.f k a0=some r) :
  Calls Tryz.prog 26 #[.string a0] w fun e w'=>e=.returned (.int .i64 r)∧Drawn0 w w':=by
 have H:(nr_Size.l0 k a0 0 0)=some r:=h
 clear h
 have H':=Aside0.mk H
 clear H
 go_enter Tryz.func26,Tryz.ntmps26
 go_wp2
 go_loopg [3,4] k (fun kq v3 v4 w'=>∃ (x3_1:Int) (x4_1:Int),v3=.int .i64 x3_1∧v4=.int .i64 x4_1∧Aside0 (nr_Size.l0 kq a0 x3_1 x4_1=some r)∧Aside0 (kq≤k)∧Drawn0 w w')
 case atStart=>exact ⟨(0),(0),tS_,tS_,H',⟨Nat.le_refl _⟩,tD_⟩
 case round =>
  clear H'
  obtain ⟨x3_1,x4_1,rfl,rfl,HA,HK1,⟨m1,rfl⟩⟩:=hrel
  cases gk with
  | zero=>exact absurd HA.out (by simp [nr_Size.l0])
  | succ k1 =>
   have H:=HA.out
   clear HA
   simp only [nr_Size.l0] at H
   by_cases c2:x4_1 < (a0.size:Int)
   ·rw [if_pos c2] at H
    have c2b0:decide (x4_1 < (a0.size:Int))=true:=decide_eq_true c2
    clear c2
    by_cases c3:0≤x4_1
    ·rw [if_pos c3] at H
     have c3b0:decide (0≤x4_1)=true:=decide_eq_true c3
     clear c3
     replace H:=Option.bind_eq_some_iff.mp H
     obtain ⟨t172,A50,H⟩:=H
     replace H:(if t172=true then (nr_Size.l0 k1 a0 (wrap64 (x3_1+1)) (wrap64 (x4_1+1))) else (nr_Size.l0 k1 a0 x3_1 (wrap64 (x4_1+1))))=some r:=H
     have A5:=Aside0.mk A50
     clear A50
     by_cases c6:t172=true
     ·subst c6
      have H1:(nr_Size.l0 k1 a0 (wrap64 (x3_1+1)) (wrap64 (x4_1+1)))=some r:=by rw [if_pos rfl] at H;exact H
      clear H
      have H:=H1
      clear H1
      have H':=Aside0.mk H
      clear H
      have p4:0≤(x4_1:Int):=oT_
      have q4:x4_1 < (a0.size:Int):=oT_
      have hx4:=bt_at a0 x4_1
      replace p4:=eq_true p4
      replace q4:=eq_true q4
      go_wp2_with (first|((with_reducible refine gate_callee (f:=73) rfl ?_);refine goesL_ (some 14) rfl rfl Tryz.func73 (by kernel_rfl) rfl #[.int .u8 (bt a0 x4_1)] rfl tM_ ?_;(with_reducible refine (nr_letter.calls k1 (bt a0 x4_1) true _ A5.out).mono ?_);rintro e w' ⟨rfl,⟨nd,rfl⟩⟩;refine ⟨_,rfl,?_⟩))
      go_roundg k1
      case measure=>have:=HK1.out;omega
      case rel=>exact ⟨(wrap64 (x3_1+1)),(wrap64 (x4_1+1)),tS_,tS_,H',⟨by have:=HK1.out;omega⟩,tD_⟩
     ·replace c6:=Bool.eq_false_iff.mpr c6
      subst c6
      have H1:(nr_Size.l0 k1 a0 x3_1 (wrap64 (x4_1+1)))=some r:=by rw [if_neg (show ¬ (false=true) by decide)] at H;exact H
      clear H
      have H:=H1
      clear H1
      have H':=Aside0.mk H
      clear H
      have p4:0≤(x4_1:Int):=oT_
      have q4:x4_1 < (a0.size:Int):=oT_
      have hx4:=bt_at a0 x4_1
      replace p4:=eq_true p4
      replace q4:=eq_true q4
      go_wp2_with (first|((with_reducible refine gate_callee (f:=73) rfl ?_);refine goesL_ (some 14) rfl rfl Tryz.func73 (by kernel_rfl) rfl #[.int .u8 (bt a0 x4_1)] rfl tM_ ?_;(with_reducible refine (nr_letter.calls k1 (bt a0 x4_1) false _ A5.out).mono ?_);rintro e w' ⟨rfl,⟨nd,rfl⟩⟩;refine ⟨_,rfl,?_⟩))
      go_roundg k1
      case measure=>have:=HK1.out;omega
      case rel=>exact ⟨(x3_1),(wrap64 (x4_1+1)),tS_,tS_,H',⟨by have:=HK1.out;omega⟩,tD_⟩
    ·rw [if_neg c3] at H
     exact absurd H (by simp)
   ·rw [if_neg c2] at H
    have c2b0:decide (x4_1 < (a0.size:Int))=false:=decide_eq_false c2
    clear c2
    obtain rfl:=Option.some.inj H
    go_wp2
    go_ret
    exact ⟨by first|rfl|(simp;done)|(simp [*];done),tD_⟩
mutual
def nr_End.j0:Nat→ByteArray→Int→Bool→Option (Int)
 | 0,_,_,_=>none
 | k+1,x0,x1,x17=>if x17=true then (some (-1)) else (if 0≤x1 then (if x1 < (x0.size:Int) then ((nr_Parts.f k (bt x0 x1)).bind fun t174=>(nr_End.l0 k x0 (wrap64 (x1+1)) t174 0)) else (none)) else (none))
def nr_End.l0:Nat→ByteArray→Int→Int→Int→Option (Int)
 | 0,_,_,_,_=>none
 | k+1,x0,x1,x5,x6=>if x6 < x5 then (if x1≥(x0.size:Int) then (nr_End.j2 k x0 x1 x5 x6 true) else (if x6=0 then (if 0≤x1 then (if x1 < (x0.size:Int) then (if (bt x0 x1)=40 then (if x6 > 0 then (nr_End.j2 k x0 x1 x5 x6 ((bt x0 x1) != 44)) else (nr_End.j2 k x0 x1 x5 x6 false)) else (nr_End.j2 k x0 x1 x5 x6 true)) else (none)) else (none)) else (if x6 > 0 then (if 0≤x1 then (if x1 < (x0.size:Int) then (nr_End.j2 k x0 x1 x5 x6 ((bt x0 x1) != 44)) else (none)) else (none)) else (nr_End.j2 k x0 x1 x5 x6 false)))) else (if x5 > 0 then (if x1≥(x0.size:Int) then (some (-1)) else (if 0≤x1 then (if x1 < (x0.size:Int) then (if (bt x0 x1)=41 then (some (wrap64 (x1+1))) else (some (-1))) else (none)) else (none))) else (some x1))
def nr_End.j2:Nat→ByteArray→Int→Int→Int→Bool→Option (Int)
 | 0,_,_,_,_,_=>none
 | k+1,x0,x1,x5,x6,x52=>if x52=true then (some (-1)) else ((nr_End.f k x0 (wrap64 (x1+1))).bind fun t175=>(if t175 < 0 then (some (-1)) else (nr_End.l0 k x0 t175 x5 (wrap64 (x6+1)))))
def nr_End.f:Nat→ByteArray→Int→Option (Int)
 | 0,_,_=>none
 | k+1,a0,a1=>if a1≥(a0.size:Int) then (nr_End.j0 k a0 a1 true) else (if 0≤a1 then (if a1 < (a0.size:Int) then ((nr_letter.f k (bt a0 a1)).bind fun t173=>(nr_End.j0 k a0 a1 (!t173))) else (none)) else (none))
end
theorem nr_End.mono_l:∀ k,(∀ y0 y1,LeO (nr_End.f k y0 y1) (nr_End.f (k+1) y0 y1))∧(∀ y0 y1 y2,LeO (nr_End.j0 k y0 y1 y2) (nr_End.j0 (k+1) y0 y1 y2))∧(∀ y0 y1 y2 y3,LeO (nr_End.l0 k y0 y1 y2 y3) (nr_End.l0 (k+1) y0 y1 y2 y3))∧(∀ y0 y1 y2 y3 y4,LeO (nr_End.j2 k y0 y1 y2 y3 y4) (nr_End.j2 (k+1) y0 y1 y2 y3 y4))
 | 0=>⟨fun _ _ r h=>by simp [nr_End.f] at h,fun _ _ _ r h=>by simp [nr_End.j0] at h,fun _ _ _ _ r h=>by simp [nr_End.l0] at h,fun _ _ _ _ _ r h=>by simp [nr_End.j2] at h⟩
 | k+1=>by
  obtain ⟨ih0,ih1,ih2,ih3⟩:=nr_End.mono_l k
  refine ⟨?_,?_,?_,?_⟩
  ·intro y0 y1
   unfold nr_End.f
   repeat' first
   | (with_reducible exact ih0 _ _)
   | (with_reducible exact ih1 _ _ _)
   | (with_reducible exact ih2 _ _ _ _)
   | (with_reducible exact ih3 _ _ _ _ _)
   | (with_reducible exact nr_Parts.mono _ _)
   | (with_reducible exact nr_letter.mono _ _)
   | (with_reducible exact LeO.refl _)
   | (with_reducible exact LeO.none _)
   | (with_reducible refine LeO.ite ?_ ?_)
   | (with_reducible refine LeO.bind ?_ (fun _=>?_))
   | exact ih0 _ _
   | exact ih1 _ _ _
   | exact ih2 _ _ _ _
   | exact ih3 _ _ _ _ _
   | exact nr_Parts.mono _ _
   | exact nr_letter.mono _ _
   | exact LeO.none _
   | refine LeO.ite ?_ ?_
   | refine LeO.bind ?_ (fun _=>?_)
  ·intro y0 y1 y2
   unfold nr_End.j0
   repeat' first
   | (with_reducible exact ih0 _ _)
   | (with_reducible exact ih1 _ _ _)
   | (with_reducible exact ih2 _ _ _ _)
   | (with_reducible exact ih3 _ _ _ _ _)
   | (with_reducible exact nr_Parts.mono _ _)
   | (with_reducible exact nr_letter.mono _ _)
   | (with_reducible exact LeO.refl _)
   | (with_reducible exact LeO.none _)
   | (with_reducible refine LeO.ite ?_ ?_)
   | (with_reducible refine LeO.bind ?_ (fun _=>?_))
   | exact ih0 _ _
   | exact ih1 _ _ _
   | exact ih2 _ _ _ _
   | exact ih3 _ _ _ _ _
   | exact nr_Parts.mono _ _
   | exact nr_letter.mono _ _
   | exact LeO.none _
   | refine LeO.ite ?_ ?_
   | refine LeO.bind ?_ (fun _=>?_)
  ·intro y0 y1 y2 y3
   unfold nr_End.l0
   repeat' first
   | (with_reducible exact ih0 _ _)
   | (with_reducible exact ih1 _ _ _)
   | (with_reducible exact ih2 _ _ _ _)
   | (with_reducible exact ih3 _ _ _ _ _)
   | (with_reducible exact nr_Parts.mono _ _)
   | (with_reducible exact nr_letter.mono _ _)
   | (with_reducible exact LeO.refl _)
   | (with_reducible exact LeO.none _)
   | (with_reducible refine LeO.ite ?_ ?_)
   | (with_reducible refine LeO.bind ?_ (fun _=>?_))
   | exact ih0 _ _
   | exact ih1 _ _ _
   | exact ih2 _ _ _ _
   | exact ih3 _ _ _ _ _
   | exact nr_Parts.mono _ _
   | exact nr_letter.mono _ _
   | exact LeO.none _
   | refine LeO.ite ?_ ?_
   | refine LeO.bind ?_ (fun _=>?_)
  ·intro y0 y1 y2 y3 y4
   unfold nr_End.j2
   repeat' first
   | (with_reducible exact ih0 _ _)
   | (with_reducible exact ih1 _ _ _)
   | (with_reducible exact ih2 _ _ _ _)
   | (with_reducible exact ih3 _ _ _ _ _)
   | (with_reducible exact nr_Parts.mono _ _)
   | (with_reducible exact nr_letter.mono _ _)
   | (with_reducible exact LeO.refl _)
   | (with_reducible exact LeO.none _)
   | (with_reducible refine LeO.ite ?_ ?_)
   | (with_reducible refine LeO.bind ?_ (fun _=>?_))
   | exact ih0 _ _
   | exact ih1 _ _ _
   | exact ih2 _ _ _ _
   | exact ih3 _ _ _ _ _
   | exact nr_Parts.mono _ _
   | exact nr_letter.mono _ _
   | exact LeO.none _
   | refine LeO.ite ?_ ?_
   | refine LeO.bind ?_ (fun _=>?_)
theorem nr_End.mono:∀ a0 a1 k,LeO (nr_End.f k a0 a1) (nr_End.f (k+1) a0 a1):=by
 intro a0 a1 k
 obtain ⟨ih0,ih1,ih2,ih3⟩:=nr_End.mono_l k
 exact ih0 a0 a1
set_option maxHeartbeats 8000000 in
set_option maxRecDepth 100000 in
theorem nr_End.calls (k:Nat):∀ (a0:ByteArray) (a1:Int) (r:Int) (w:World) (h:nr_End.f k a0 a1=some r),
  Calls Tryz.prog 72 #[.string a0,.int .i64 a1] w fun e w'=>e=.returned (.int .i64 r)∧Drawn0 w w':=by
 induction k using Nat.strongRecOn with
 | _ k ih =>
 intro a0 a1 r w h
 cases k with
 | zero=>exact absurd h (by simp [nr_End.f])
 | succ k =>
 simp only [nr_End.f] at h
 have H:(if a1≥(a0.size:Int) then (nr_End.j0 k a0 a1 true) else (if 0≤a1 then (if a1 < (a0.size:Int) then ((nr_letter.f k (bt a0 a1)).bind fun t173=>(nr_End.j0 k a0 a1 (!t173))) else (none)) else (none)))=some r:=h
 clear h
 have HC3:=Aside0.mk H
 clear H
 go_enter Tryz.func72,Tryz.ntmps72
 go_upto_region 1 with (fail)
 go_cut [17] (fun v17 wc=>∃ (kq:Nat) (x17_2:Bool),v17=.bool x17_2∧Aside0 (nr_End.j0 kq a0 a1 x17_2=some r)∧Aside0 (kq≤k)∧Drawn0 w wc)
 case first =>
  have H:=HC3.out
  clear HC3
  by_cases c4:a1≥(a0.size:Int)
  ·rw [if_pos c4] at H
   have c4b0:decide ((a0.size:Int)≤a1)=true:=decide_eq_true c4
   clear c4
   (first|rw [c4b0]|(simp only [i64_w,i32_w];rw [c4b0])|skip)
   have H':=Aside0.mk H
   clear H
   go_wp2
   go_meet
   case rel=>exact ⟨_,(true),tS_,H',⟨by first|omega|exact Nat.le_refl _⟩,tD_⟩
  ·rw [if_neg c4] at H
   have c4b0:decide ((a0.size:Int)≤a1)=false:=decide_eq_false c4
   clear c4
   (first|rw [c4b0]|(simp only [i64_w,i32_w];rw [c4b0])|skip)
   by_cases c5:0≤a1
   ·rw [if_pos c5] at H
    have c5b0:decide (0≤a1)=true:=decide_eq_true c5
    clear c5
    by_cases c6:a1 < (a0.size:Int)
    ·rw [if_pos c6] at H
     have c6b0:decide (a1 < (a0.size:Int))=true:=decide_eq_true c6
     clear c6
     replace H:=Option.bind_eq_some_iff.mp H
     obtain ⟨t173,A80,H⟩:=H
     replace H:(nr_End.j0 k a0 a1 (!t173))=some r:=H
     have A8:=Aside0.mk A80
     clear A80
     have H':=Aside0.mk H
     clear H
     have p7:0≤(a1:Int):=oT_
     have q7:a1 < (a0.size:Int):=oT_
     have hx7:=bt_at a0 a1
     replace p7:=eq_true p7
     replace q7:=eq_true q7
     go_wp2_with (first|(go_at_call 73;(with_reducible refine (nr_letter.calls k (bt a0 a1) t173 _ A8.out).mono ?_);rintro e w' ⟨rfl,⟨nd,rfl⟩⟩))
     go_meet
     case rel=>exact ⟨_,(!t173),tS_,H',⟨by first|omega|exact Nat.le_refl _⟩,tD_⟩
    ·rw [if_neg c6] at H
     exact absurd H (by simp)
   ·rw [if_neg c5] at H
    exact absurd H (by simp)
 case rest =>
  clear HC3
  try clear p2
  try clear c4
  try clear c4b0
  try clear c5
  try clear c5b0
  try clear c6
  try clear c6b0
  try clear c7
  try clear p7
  try clear q7
  try clear hx7
  try clear p7
  try clear q7
  obtain ⟨kq,x17_2,rfl,HA,HJ2,⟨mc2,rfl⟩⟩:=hcut
  cases kq with
  | zero=>exact absurd HA.out (by simp [nr_End.j0])
  | succ kj2 =>
   have H:=HA.out
   clear HA
   simp only [nr_End.j0] at H
   by_cases c9:x17_2=true
   ·subst c9
    have H1:(some (-1))=some r:=by rw [if_pos rfl] at H;exact H
    clear H
    have H:=H1
    clear H1
    obtain rfl:=Option.some.inj H
    go_wp2
    go_ret
    exact ⟨by first|rfl|(simp;done)|(simp [*];done),tD_⟩
   ·replace c9:=Bool.eq_false_iff.mpr c9
    subst c9
    have H1:(if 0≤a1 then (if a1 < (a0.size:Int) then ((nr_Parts.f kj2 (bt a0 a1)).bind fun t174=>(nr_End.l0 kj2 a0 (wrap64 (a1+1)) t174 0)) else (none)) else (none))=some r:=by rw [if_neg (show ¬ (false=true) by decide)] at H;exact H
    clear H
    have H:=H1
    clear H1
    by_cases c10:0≤a1
    ·rw [if_pos c10] at H
     have c10b0:decide (0≤a1)=true:=decide_eq_true c10
     clear c10
     by_cases c11:a1 < (a0.size:Int)
     ·rw [if_pos c11] at H
      have c11b0:decide (a1 < (a0.size:Int))=true:=decide_eq_true c11
      clear c11
      replace H:=Option.bind_eq_some_iff.mp H
      obtain ⟨t174,A130,H⟩:=H
      replace H:(nr_End.l0 kj2 a0 (wrap64 (a1+1)) t174 0)=some r:=H
      have A13:=Aside0.mk A130
      clear A130
      have H':=Aside0.mk H
      clear H
      have p12:0≤(a1:Int):=oT_
      have q12:a1 < (a0.size:Int):=oT_
      have hx12:=bt_at a0 a1
      replace p12:=eq_true p12
      replace q12:=eq_true q12
      go_wp2_with (first|((with_reducible refine gate_callee (f:=71) rfl ?_);refine goesL_ (some 21) rfl rfl Tryz.func71 (by kernel_rfl) rfl #[.int .u8 (bt a0 a1)] rfl tM_ ?_;(with_reducible refine (nr_Parts.calls kj2 (bt a0 a1) t174 _ A13.out).mono ?_);rintro e w' ⟨rfl,⟨nd,rfl⟩⟩;refine ⟨_,rfl,?_⟩))
      go_loopg [1,6] kj2 (fun kq v1 v6 w'=>∃ (x1_2:Int) (x6_2:Int),v1=.int .i64 x1_2∧v6=.int .i64 x6_2∧Aside0 (nr_End.l0 kq a0 x1_2 t174 x6_2=some r)∧Aside0 (kq≤kj2)∧Drawn0 w w')
      case atStart=>exact ⟨(wrap64 (a1+1)),(0),tS_,tS_,H',⟨Nat.le_refl _⟩,tD_⟩
      case round =>
       clear H'
       try clear c1
       try clear p1
       try clear q1
       try clear hx1
       try clear c2
       try clear p2
       try clear c4
       try clear c4b0
       try clear c5
       try clear c5b0
       try clear c6
       try clear c6b0
       try clear p6
       try clear c7
       try clear p7
       try clear q7
       try clear hx7
       try clear c9
       try clear c10
       try clear c10b0
       try clear c11
       try clear c11b0
       try clear p12
       try clear q12
       try clear hx12
       try clear p12
       try clear p2
       try clear p7
       try clear q12
       try clear q7
       obtain ⟨x1_2,x6_2,rfl,rfl,HA,HK2,⟨m2,rfl⟩⟩:=hrel
       cases gk with
       | zero=>exact absurd HA.out (by simp [nr_End.l0])
       | succ k2 =>
        have H:=HA.out
        clear HA
        simp only [nr_End.l0] at H
        by_cases c14:x6_2 < t174
        ·rw [if_pos c14] at H
         have c14b0:decide (x6_2 < t174)=true:=decide_eq_true c14
         clear c14
         have HC15:=Aside0.mk H
         clear H
         go_upto_region 8 with (fail)
         go_cut [52] (fun v52 wc=>∃ (kq:Nat) (x52_14:Bool),v52=.bool x52_14∧Aside0 (nr_End.j2 kq a0 x1_2 t174 x6_2 x52_14=some r)∧Aside0 (kq≤k2)∧Drawn0 w wc)
         case first =>
          have H:=HC15.out
          clear HC15
          by_cases c16:x1_2≥(a0.size:Int)
          ·rw [if_pos c16] at H
           have c16b0:decide ((a0.size:Int)≤x1_2)=true:=decide_eq_true c16
           clear c16
           (first|rw [c16b0]|(simp only [i64_w,i32_w];rw [c16b0])|skip)
           have H':=Aside0.mk H
           clear H
           go_wp2
           go_meet
           case rel=>exact ⟨_,(true),tS_,H',⟨by have:=HJ2.out;have:=HK2.out;first|omega|exact Nat.le_refl _⟩,tD_⟩
          ·rw [if_neg c16] at H
           have c16b0:decide ((a0.size:Int)≤x1_2)=false:=decide_eq_false c16
           clear c16
           (first|rw [c16b0]|(simp only [i64_w,i32_w];rw [c16b0])|skip)
           by_cases c17:x6_2=0
           ·rw [if_pos c17] at H
            have c17b0:(x6_2 == 0)=true:=beq_iff_eq.mpr c17
            have c17b1:(x6_2 != 0)=false:=bne_eq_false_iff_eq.mpr c17
            clear c17
            by_cases c18:0≤x1_2
            ·rw [if_pos c18] at H
             have c18b0:decide (0≤x1_2)=true:=decide_eq_true c18
             clear c18
             by_cases c19:x1_2 < (a0.size:Int)
             ·rw [if_pos c19] at H
              have c19b0:decide (x1_2 < (a0.size:Int))=true:=decide_eq_true c19
              clear c19
              by_cases c21:(bt a0 x1_2)=40
              ·rw [if_pos c21] at H
               have c21b0:((bt a0 x1_2) == 40)=true:=beq_iff_eq.mpr c21
               have c21b1:((bt a0 x1_2) != 40)=false:=bne_eq_false_iff_eq.mpr c21
               clear c21
               by_cases c22:x6_2 > 0
               ·rw [if_pos c22] at H
                have c22b0:decide (0 < x6_2)=true:=decide_eq_true c22
                clear c22
                have H':=Aside0.mk H
                clear H
                have p20:0≤(x1_2:Int):=oT_
                have q20:x1_2 < (a0.size:Int):=oT_
                have hx20:=bt_at a0 x1_2
                replace p20:=eq_true p20
                replace q20:=eq_true q20
                have p23:0≤(x1_2:Int):=oT_
                have q23:x1_2 < (a0.size:Int):=oT_
                have hx23:=bt_at a0 x1_2
                replace p23:=eq_true p23
                replace q23:=eq_true q23
                go_wp2
                go_meet
                case rel=>exact ⟨_,(((bt a0 x1_2) != 44)),tS_,H',⟨by have:=HJ2.out;have:=HK2.out;first|omega|exact Nat.le_refl _⟩,tD_⟩
               ·rw [if_neg c22] at H
                have c22b0:decide (0 < x6_2)=false:=decide_eq_false c22
                clear c22
                have H':=Aside0.mk H
                clear H
                have p20:0≤(x1_2:Int):=oT_
                have q20:x1_2 < (a0.size:Int):=oT_
                have hx20:=bt_at a0 x1_2
                replace p20:=eq_true p20
                replace q20:=eq_true q20
                go_wp2
                go_meet
                case rel=>exact ⟨_,(false),tS_,H',⟨by have:=HJ2.out;have:=HK2.out;first|omega|exact Nat.le_refl _⟩,tD_⟩
              ·rw [if_neg c21] at H
               have c21b0:((bt a0 x1_2) == 40)=false:=beq_eq_false_iff_ne.mpr c21
               have c21b1:((bt a0 x1_2) != 40)=true:=bne_iff_ne.mpr c21
               have H':=Aside0.mk H
               clear H
               have p20:0≤(x1_2:Int):=oT_
               have q20:x1_2 < (a0.size:Int):=oT_
               have hx20:=bt_at a0 x1_2
               replace p20:=eq_true p20
               replace q20:=eq_true q20
               go_wp2
               go_meet
               case rel=>exact ⟨_,(true),tS_,H',⟨by have:=HJ2.out;have:=HK2.out;first|omega|exact Nat.le_refl _⟩,tD_⟩
             ·rw [if_neg c19] at H
              exact absurd H (by simp)
            ·rw [if_neg c18] at H
             exact absurd H (by simp)
           ·rw [if_neg c17] at H
            have c17b0:(x6_2 == 0)=false:=beq_eq_false_iff_ne.mpr c17
            have c17b1:(x6_2 != 0)=true:=bne_iff_ne.mpr c17
            by_cases c24:x6_2 > 0
            ·rw [if_pos c24] at H
             have c24b0:decide (0 < x6_2)=true:=decide_eq_true c24
             clear c24
             by_cases c25:0≤x1_2
             ·rw [if_pos c25] at H
              have c25b0:decide (0≤x1_2)=true:=decide_eq_true c25
              clear c25
              by_cases c26:x1_2 < (a0.size:Int)
              ·rw [if_pos c26] at H
               have c26b0:decide (x1_2 < (a0.size:Int))=true:=decide_eq_true c26
               clear c26
               have H':=Aside0.mk H
               clear H
               have p27:0≤(x1_2:Int):=oT_
               have q27:x1_2 < (a0.size:Int):=oT_
               have hx27:=bt_at a0 x1_2
               replace p27:=eq_true p27
               replace q27:=eq_true q27
               go_wp2
               go_meet
               case rel=>exact ⟨_,(((bt a0 x1_2) != 44)),tS_,H',⟨by have:=HJ2.out;have:=HK2.out;first|omega|exact Nat.le_refl _⟩,tD_⟩
              ·rw [if_neg c26] at H
               exact absurd H (by simp)
             ·rw [if_neg c25] at H
              exact absurd H (by simp)
            ·rw [if_neg c24] at H
             have c24b0:decide (0 < x6_2)=false:=decide_eq_false c24
             clear c24
             have H':=Aside0.mk H
             clear H
             go_wp2
             go_meet
             case rel=>exact ⟨_,(false),tS_,H',⟨by have:=HJ2.out;have:=HK2.out;first|omega|exact Nat.le_refl _⟩,tD_⟩
         case rest =>
          clear HC15
          try clear c1
          try clear p1
          try clear q1
          try clear hx1
          try clear c2
          try clear p2
          try clear q2
          try clear hx2
          try clear c4
          try clear c4b0
          try clear c5
          try clear c5b0
          try clear c6
          try clear c6b0
          try clear p6
          try clear c7
          try clear p7
          try clear q7
          try clear hx7
          try clear c9
          try clear c10
          try clear c10b0
          try clear c11
          try clear c11b0
          try clear p12
          try clear q12
          try clear hx12
          try clear c14
          try clear c14b0
          try clear c16
          try clear c16b0
          try clear c17
          try clear c17b0
          try clear c17b1
          try clear c18
          try clear c18b0
          try clear c19
          try clear c19b0
          try clear p20
          try clear q20
          try clear hx20
          try clear c21
          try clear c21b0
          try clear c21b1
          try clear c22
          try clear c22b0
          try clear p23
          try clear q23
          try clear hx23
          try clear c24
          try clear c24b0
          try clear c25
          try clear c25b0
          try clear c26
          try clear c26b0
          try clear p27
          try clear q27
          try clear hx27
          try clear p1
          try clear p12
          try clear p2
          try clear p20
          try clear p23
          try clear p27
          try clear p6
          try clear p7
          try clear q1
          try clear q12
          try clear q20
          try clear q23
          try clear q27
          try clear q7
          obtain ⟨kq,x52_14,rfl,HA,HJ14,⟨mc14,rfl⟩⟩:=hcut
          cases kq with
          | zero=>exact absurd HA.out (by simp [nr_End.j2])
          | succ kj14 =>
           have H:=HA.out
           clear HA
           simp only [nr_End.j2] at H
           by_cases c28:x52_14=true
           ·subst c28
            have H1:(some (-1))=some r:=by rw [if_pos rfl] at H;exact H
            clear H
            have H:=H1
            clear H1
            obtain rfl:=Option.some.inj H
            go_wp2
            go_ret
            exact ⟨by first|rfl|(simp;done)|(simp [*];done),tD_⟩
           ·replace c28:=Bool.eq_false_iff.mpr c28
            subst c28
            have H1:((nr_End.f kj14 a0 (wrap64 (x1_2+1))).bind fun t175=>(if t175 < 0 then (some (-1)) else (nr_End.l0 kj14 a0 t175 t174 (wrap64 (x6_2+1)))))=some r:=by rw [if_neg (show ¬ (false=true) by decide)] at H;exact H
            clear H
            have H:=H1
            clear H1
            replace H:=Option.bind_eq_some_iff.mp H
            obtain ⟨t175,A290,H⟩:=H
            replace H:(if t175 < 0 then (some (-1)) else (nr_End.l0 kj14 a0 t175 t174 (wrap64 (x6_2+1))))=some r:=H
            have A29:=Aside0.mk A290
            clear A290
            by_cases c30:t175 < 0
            ·rw [if_pos c30] at H
             have c30b0:decide (t175 < 0)=true:=decide_eq_true c30
             clear c30
             obtain rfl:=Option.some.inj H
             go_wp2_with (first|((with_reducible refine gate_callee (f:=72) rfl ?_);refine goesL_ (some 56) rfl rfl Tryz.func72 (by kernel_rfl) rfl #[.string a0,.int .i64 (wrap64 (x1_2+1))] rfl tM_ ?_;(with_reducible refine (ih kj14 (by have:=HJ2.out;have:=HK2.out;have:=HJ14.out;omega) a0 (wrap64 (x1_2+1)) t175 _ A29.out).mono ?_);rintro e w' ⟨rfl,⟨nd,rfl⟩⟩;refine ⟨_,rfl,?_⟩))
             go_ret
             exact ⟨by first|rfl|(simp;done)|(simp [*];done),tD_⟩
            ·rw [if_neg c30] at H
             have c30b0:decide (t175 < 0)=false:=decide_eq_false c30
             clear c30
             have H':=Aside0.mk H
             clear H
             go_wp2_with (first|((with_reducible refine gate_callee (f:=72) rfl ?_);refine goesL_ (some 56) rfl rfl Tryz.func72 (by kernel_rfl) rfl #[.string a0,.int .i64 (wrap64 (x1_2+1))] rfl tM_ ?_;(with_reducible refine (ih kj14 (by have:=HJ2.out;have:=HK2.out;have:=HJ14.out;omega) a0 (wrap64 (x1_2+1)) t175 _ A29.out).mono ?_);rintro e w' ⟨rfl,⟨nd,rfl⟩⟩;refine ⟨_,rfl,?_⟩))
             go_roundg kj14
             case measure=>have:=HJ2.out;have:=HK2.out;have:=HJ14.out;omega
             case rel=>exact ⟨(t175),(wrap64 (x6_2+1)),tS_,tS_,H',⟨by have:=HJ2.out;have:=HK2.out;have:=HJ14.out;omega⟩,tD_⟩
        ·rw [if_neg c14] at H
         have c14b0:decide (x6_2 < t174)=false:=decide_eq_false c14
         clear c14
         by_cases c31:t174 > 0
         ·rw [if_pos c31] at H
          have c31b0:decide (0 < t174)=true:=decide_eq_true c31
          clear c31
          by_cases c32:x1_2≥(a0.size:Int)
          ·rw [if_pos c32] at H
           have c32b0:decide ((a0.size:Int)≤x1_2)=true:=decide_eq_true c32
           clear c32
           obtain rfl:=Option.some.inj H
           go_wp2
           go_ret
           exact ⟨by first|rfl|(simp;done)|(simp [*];done),tD_⟩
          ·rw [if_neg c32] at H
           have c32b0:decide ((a0.size:Int)≤x1_2)=false:=decide_eq_false c32
           clear c32
           by_cases c33:0≤x1_2
           ·rw [if_pos c33] at H
            have c33b0:decide (0≤x1_2)=true:=decide_eq_true c33
            clear c33
            by_cases c34:x1_2 < (a0.size:Int)
            ·rw [if_pos c34] at H
             have c34b0:decide (x1_2 < (a0.size:Int))=true:=decide_eq_true c34
             clear c34
             by_cases c36:(bt a0 x1_2)=41
             ·rw [if_pos c36] at H
              have c36b0:((bt a0 x1_2) == 41)=true:=beq_iff_eq.mpr c36
              have c36b1:((bt a0 x1_2) != 41)=false:=bne_eq_false_iff_eq.mpr c36
              clear c36
              obtain rfl:=Option.some.inj H
              have p35:0≤(x1_2:Int):=oT_
              have q35:x1_2 < (a0.size:Int):=oT_
              have hx35:=bt_at a0 x1_2
              replace p35:=eq_true p35
              replace q35:=eq_true q35
              go_wp2
              go_ret
              exact ⟨by first|rfl|(simp;done)|(simp [*];done),tD_⟩
             ·rw [if_neg c36] at H
              have c36b0:((bt a0 x1_2) == 41)=false:=beq_eq_false_iff_ne.mpr c36
              have c36b1:((bt a0 x1_2) != 41)=true:=bne_iff_ne.mpr c36
              obtain rfl:=Option.some.inj H
              have p35:0≤(x1_2:Int):=oT_
              have q35:x1_2 < (a0.size:Int):=oT_
              have hx35:=bt_at a0 x1_2
              replace p35:=eq_true p35
              replace q35:=eq_true q35
              go_wp2
              go_ret
              exact ⟨by first|rfl|(simp;done)|(simp [*];done),tD_⟩
            ·rw [if_neg c34] at H
             exact absurd H (by simp)
           ·rw [if_neg c33] at H
            exact absurd H (by simp)
         ·rw [if_neg c31] at H
          have c31b0:decide (0 < t174)=false:=decide_eq_false c31
          clear c31
          obtain rfl:=Option.some.inj H
          go_wp2
          go_ret
          exact ⟨by first|rfl|(simp;done)|(simp [*];done),tD_⟩
     ·rw [if_neg c11] at H
      exact absurd H (by simp)
    ·rw [if_neg c10] at H
     exact absurd H (by simp)
def nr_Term.f (k:Nat) (a0:ByteArray):Option (Bool):=(nr_End.f k a0 0).bind fun t176=>(if t176=(a0.size:Int) then ((nr_Size.f k a0).bind fun t177=>(some (decide (t177≤60)))) else (some false))
set_option maxHeartbeats 8000000 in
set_option maxRecDepth 100000 in
theorem nr_Term.calls (k:Nat) (a0:ByteArray) (r:Bool) (w:World) (h:nr_Term.f k a0=some r) :
  Calls Tryz.prog 25 #[.string a0] w fun e w'=>e=.returned (.bool r)∧Drawn0 w w':=by
 have H:((nr_End.f k a0 0).bind fun t176=>(if t176=(a0.size:Int) then ((nr_Size.f k a0).bind fun t177=>(some (decide (t177≤60)))) else (some false)))=some r:=h
 clear h
 replace H:=Option.bind_eq_some_iff.mp H
 obtain ⟨t176,A20,H⟩:=H
 replace H:(if t176=(a0.size:Int) then ((nr_Size.f k a0).bind fun t177=>(some (decide (t177≤60)))) else (some false))=some r:=H
 have A2:=Aside0.mk A20
 clear A20
 by_cases c3:t176=(a0.size:Int)
 ·rw [if_pos c3] at H
  have c3b0:(t176 == (a0.size:Int))=true:=beq_iff_eq.mpr c3
  have c3b1:(t176 != (a0.size:Int))=false:=bne_eq_false_iff_eq.mpr c3
  clear c3
  replace H:=Option.bind_eq_some_iff.mp H
  obtain ⟨t177,A40,H⟩:=H
  replace H:(some (decide (t177≤60)))=some r:=H
  have A4:=Aside0.mk A40
  clear A40
  obtain rfl:=Option.some.inj H
  go_enter Tryz.func25,Tryz.ntmps25
  go_wp2_with (first|((with_reducible refine gate_callee (f:=72) rfl ?_);refine goesL_ (some 4) rfl rfl Tryz.func72 (by kernel_rfl) rfl #[.string a0,.int .i64 0] rfl tM_ ?_;(with_reducible refine (nr_End.calls k a0 0 t176 _ A2.out).mono ?_);rintro e w' ⟨rfl,⟨nd,rfl⟩⟩;refine ⟨_,rfl,?_⟩)|(go_at_call 26;(with_reducible refine (nr_Size.calls k a0 t177 _ A4.out).mono ?_);rintro e w' ⟨rfl,⟨nd,rfl⟩⟩))
  go_ret
  exact ⟨by first|rfl|(simp;done)|(simp [*];done),tD_⟩
 ·rw [if_neg c3] at H
  have c3b0:(t176 == (a0.size:Int))=false:=beq_eq_false_iff_ne.mpr c3
  have c3b1:(t176 != (a0.size:Int))=true:=bne_iff_ne.mpr c3
  obtain rfl:=Option.some.inj H
  go_enter Tryz.func25,Tryz.ntmps25
  go_wp2_with (first|((with_reducible refine gate_callee (f:=72) rfl ?_);refine goesL_ (some 4) rfl rfl Tryz.func72 (by kernel_rfl) rfl #[.string a0,.int .i64 0] rfl tM_ ?_;(with_reducible refine (nr_End.calls k a0 0 t176 _ A2.out).mono ?_);rintro e w' ⟨rfl,⟨nd,rfl⟩⟩;refine ⟨_,rfl,?_⟩))
  go_ret
  exact ⟨by first|rfl|(simp;done)|(simp [*];done),tD_⟩
end Go.Proofs.YtaafeallcaiooaaGreat.Pr
