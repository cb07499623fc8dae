/- Reach and Loop on texts: what they compute. -/
import Derived.Test.YtaafeallcaiooaaGreatPr0
import Derived.Test.YtaafeallcaiooaaGreatPrA5
import Derived.Test.YtaafeallcaiooaaGreatPrD1
import Derived.Test.YtaafeallcaiooaaGreatPrD2
import Derived.Test.YtaafeallcaiooaaGreatHNp
import Derived.Test.YtaafeallcaiooaaGreatHLp
import Derived.Test.YtaafeallcaiooaaGreatHNe
import Derived.Test.YtaafeallcaiooaaGreatPrA8
namespace Go.Proofs.YtaafeallcaiooaaGreat.Pr
open Go.RowKit Go.Proofs.Zw Go.Proofs.Zl Go.Proofs.Zm
attribute [local go_sem] max2_int min2_int max_two min_two max_three min_three max_four min_four
set_option linter.unusedVariables false
set_option linter.unusedSimpArgs false
noncomputable def nr_Loop.l0:Nat→List (S94)→List ByteArray→Int→Option (Bool)
 | 0,_,_,_=>none
 | k+1,x0,x1,x5=>if x5 < (x1.length:Int) then (if 0≤(wrap64 (x5 - 1)) then (if (wrap64 (x5 - 1)) < (x1.length:Int) then ((nr_Next.f k x0 (rdOf ByteArray.empty x1 (wrap64 (x5 - 1)))).bind fun t286=>(if 0≤x5 then ((nr_has.f k t286 (rdOf ByteArray.empty x1 x5)).bind fun t290=>(if t290=true then (nr_Loop.l0 k x0 x1 (wrap64 (x5+1))) else (some false))) else (none))) else (none)) else (none)) else (if (x1.length:Int)≥2 then (if 0 < (x1.length:Int) then (if 0≤(wrap64 ((x1.length:Int) - 1)) then (if (wrap64 ((x1.length:Int) - 1)) < (x1.length:Int) then ((nr_Returns.f k (rdOf ByteArray.empty x1 0) (rdOf ByteArray.empty x1 (wrap64 ((x1.length:Int) - 1)))).bind fun t284=>(some t284)) else (none)) else (none)) else (none)) else (some false))
noncomputable def nr_Loop.f (k:Nat) (l0:List (S94)) (l1:List ByteArray):Option (Bool):=nr_Loop.l0 k l0 l1 1
def nr_Loop.T4:Bool × List (List Nat × List Nat):=(true,[([],[]),([],[]),([],[]),([2],[2]),([1,3],[1,3]),([4],[4]),([0,5],[0,5]),([],[]),([],[]),([7,8],[7,8]),([9],[9]),([6,10,6],[6,10]),([11],[11])])
def nr_Loop.B4:List Nat:=[0,0,0,4,14,30,63,0,0,384,896,2047,4095]
theorem nr_Loop.tab4:rtab .any (opsOf Tryz.f32 4)=nr_Loop.T4:=by kernel_rfl
theorem nr_Loop.bits4:waitsOk nr_Loop.T4.2 nr_Loop.B4=true:=by kernel_rfl
def nr_Loop.T6:Bool × List (List Nat × List Nat):=(true,[([],[]),([0],[0]),([1],[1]),([2],[2]),([3],[3]),([4,3],[3,4]),([5,3],[3,5]),([3],[3]),([3],[3]),([8,3],[3,8]),([9,3],[3,9]),([7,10,3],[3,7,10]),([11,3],[3,11]),([6,12,3,3],[3,6,12]),([3,13],[3,13]),([14,13,0,1,2,3,4,5,6,7,8,9,10,11,12,13,14],[14])])
def nr_Loop.B6:List Nat:=[0,1,3,7,15,31,63,15,15,271,783,1935,3983,8191,16383,32767]
theorem nr_Loop.tab6:rtab .any (opsOf Tryz.f32 6)=nr_Loop.T6:=by kernel_rfl
theorem nr_Loop.bits6:waitsOk nr_Loop.T6.2 nr_Loop.B6=true:=by kernel_rfl
set_option maxHeartbeats 8000000 in
set_option maxRecDepth 100000 in
theorem nr_Loop.calls (k:Nat) (A0:Option Addr) (c0:Nat) (l0:List (S94)) (A1:Option Addr) (c1:Nat) (l1:List ByteArray) (r:Bool) (w:World) (hr0:Kd.C k94 w A0 l0.length l0) (hc0:l0.length≤c0) (hr1:Kd.C Kd.string w A1 l1.length l1) (hc1:l1.length≤c1) (h:nr_Loop.f k l0 l1=some r) :
  Calls Tryz.prog 32 #[.slice A0 l0.length c0,.slice A1 l1.length c1] w fun e w'=>e=.returned (.bool r)∧Below w.heap.size w w':=by
 have HR0:=Aside0.mk hr0
 have HC0:=Aside0.mk hc0
 clear hr0 hc0
 have HR1:=Aside0.mk hr1
 have HC1:=Aside0.mk hc1
 clear hr1 hc1
 have HB:=Aside0.mk (Below.refl w.heap.size w)
 have H:(nr_Loop.l0 k l0 l1 1)=some r:=h
 clear h
 have H':=Aside0.mk H
 clear H
 go_enter Tryz.func32,Tryz.ntmps32
 go_wp2
 go_loopg [5] k (fun kq v5 w'=>∃ (x5_1:Int),v5=.int .i64 x5_1∧Aside0 (nr_Loop.l0 kq l0 l1 x5_1=some r)∧Aside0 (kq≤k)∧Aside0 (Below w.heap.size w w'))
 case atStart=>exact ⟨(1),tS_,H',⟨Nat.le_refl _⟩,⟨tB_ HB⟩⟩
 case round =>
  clear H'
  try clear c1
  try clear p2
  obtain ⟨x5_1,rfl,HA,HK1,HB⟩:=hrel
  cases gk with
  | zero=>exact absurd HA.out (by simp [nr_Loop.l0])
  | succ k1 =>
   have H:=HA.out
   clear HA
   simp only [nr_Loop.l0] at H
   by_cases c3:x5_1 < (l1.length:Int)
   ·rw [if_pos c3] at H
    have c3b0:decide (x5_1 < (l1.length:Int))=true:=decide_eq_true c3
    clear c3
    obtain ⟨ji4,hji4⟩:∃ j_:Int,(wrap64 (x5_1 - 1))=j_:=⟨_,rfl⟩
    replace H:(if 0≤(ji4) then (if (ji4) < (l1.length:Int) then ((nr_Next.f k1 l0 (rdOf ByteArray.empty l1 (ji4))).bind fun t286=>(if 0≤x5_1 then ((nr_has.f k1 t286 (rdOf ByteArray.empty l1 x5_1)).bind fun t290=>(if t290=true then (nr_Loop.l0 k1 l0 l1 (wrap64 (x5_1+1))) else (some false))) else (none))) else (none)) else (none))=some r:=by first|(rw [hji4] at H;exact H)|(simp only [hji4] at H ⊢;exact H)
    have hji4w:(IntKind.i64.wrap (x5_1 - 1))=ji4:=(i64_w _).trans hji4
    by_cases c5:0≤(ji4)
    ·rw [if_pos c5] at H
     have c5b0:decide (0≤(ji4))=true:=decide_eq_true c5
     clear c5
     by_cases c6:(ji4) < (l1.length:Int)
     ·rw [if_pos c6] at H
      have c6b0:decide ((ji4) < (l1.length:Int))=true:=decide_eq_true c6
      clear c6
      replace H:=Option.bind_eq_some_iff.mp H
      obtain ⟨t286,A70,H⟩:=H
      replace H:(if 0≤x5_1 then ((nr_has.f k1 t286 (rdOf ByteArray.empty l1 x5_1)).bind fun t290=>(if t290=true then (nr_Loop.l0 k1 l0 l1 (wrap64 (x5_1+1))) else (some false))) else (none))=some r:=H
      have A7:=Aside0.mk A70
      clear A70
      by_cases c8:0≤x5_1
      ·rw [if_pos c8] at H
       have c8b0:decide (0≤x5_1)=true:=decide_eq_true c8
       clear c8
       replace H:=Option.bind_eq_some_iff.mp H
       obtain ⟨t290,A90,H⟩:=H
       replace H:(if t290=true then (nr_Loop.l0 k1 l0 l1 (wrap64 (x5_1+1))) else (some false))=some r:=H
       have A9:=Aside0.mk A90
       clear A90
       by_cases c10:t290=true
       ·subst c10
        have H1:(nr_Loop.l0 k1 l0 l1 (wrap64 (x5_1+1)))=some r:=by rw [if_pos rfl] at H;exact H
        clear H
        have H:=H1
        clear H1
        have H':=Aside0.mk H
        clear H
        try go_wp2
        have n0_:=Aside0.mk (below_drew1 HB.out)
        clear HB
        have HB:=n0_
        clear n0_
        have p285:0≤((ji4):Int):=oT_
        have q285:(ji4) < (l1.length:Int):=oT_
        obtain ⟨ad285,e285,hx285_0⟩:=Kd.at_string HR1.out (ji4) p285 q285
        have hw285_0:=hx285_0
        cases e285
        replace hx285_0:=cB_ HB hx285_0
        replace p285:=eq_true p285
        replace q285:=eq_true q285
        have p289:0≤(x5_1:Int):=oT_
        have q289:x5_1 < (l1.length:Int):=oT_
        obtain ⟨ad289,e289,hx289_0⟩:=Kd.at_string HR1.out x5_1 p289 q289
        have hw289_0:=hx289_0
        obtain rfl:ad285=ad289:=(by injection e289)
        replace hx289_0:=cB_ HB hx289_0
        replace p289:=eq_true p289
        replace q289:=eq_true q289
        refine start_ (n:=13) (S:=fun w'=>w'.cell? (ad285.add ((ji4)).toNat)=some (.string (rdOf ByteArray.empty l1 (ji4)))∧w'.cell? (ad285.add (x5_1).toNat)=some (.string (rdOf ByteArray.empty l1 x5_1))) (ds:=[]) (bm 13 0) (by kernel_rfl) rfl rfl ⟨(cB_ HB hw285_0),(cB_ HB hw289_0)⟩ (fun hHeld=>?_);refine with_tabW nr_Loop.tab4 nr_Loop.bits4 (fun HT_ HW_=>?_)
        generalize wr.drew=w11 at HB hx285_0 hx289_0 hHeld ⊢
        refine pj_ 0 12 (bm 13 1) (any_of HT_.out (by kernel_rfl)) ?_
        refine pj_ 1 13 (bm 13 3) (any_of HT_.out (by kernel_rfl)) ?_
        refine pj_ 2 14 (bm 13 7) (any_of HT_.out (by kernel_rfl)) ?_
        refine pj_ 3 15 (bm 13 15) (any_of HT_.out (by kernel_rfl)) ?_
        refine pj_ 4 16 (bm 13 31) (any_of HT_.out (by kernel_rfl)) ?_
        refine pj_ 7 19 (bm 13 159) (any_of HT_.out (by kernel_rfl)) ?_
        refine pj_ 8 20 (bm 13 415) (any_of HT_.out (by kernel_rfl)) ?_
        refine pj_ 9 21 (bm 13 927) (any_of HT_.out (by kernel_rfl)) ?_
        refine take_ (i:=5) (N:=some 17) (v:=?_) (a':=?_) (bm 13 959) rfl rfl (take_ofW HT_.out HW_.out (by kernel_rfl)) (fun _ _ _ h=>h) (Or.inl ⟨by rfl,?_⟩) hHeld ?_ ?_;rotate_left;(rintro w' ⟨s0,s1⟩;go_simp;with_reducible rfl);rotate_left;exact tP_
        refine take_ (i:=10) (N:=some 22) (v:=?_) (a':=?_) (bm 13 1983) rfl rfl (take_ofW HT_.out HW_.out (by kernel_rfl)) (fun _ _ _ h=>h) (Or.inl ⟨by rfl,?_⟩) hHeld ?_ ?_;rotate_left;(rintro w' ⟨s0,s1⟩;go_simp;with_reducible rfl);rotate_left;exact tP_
        refine one_ (i:=6) (N:=some 18) (bm 13 2047) rfl rfl (one_of HT_.out (by kernel_rfl)) (by decide) (fun K hK=>?_)
        refine goes_ Tryz.func51 (by kernel_rfl) rfl #[.slice A0 l0.length c0,.string (rdOf ByteArray.empty l1 (ji4))] (by rfl) rfl rfl (by (try simp only [List.map_toArray,List.map_cons,List.map_nil]);first|done|(simp only [hji4];rfl)|rfl|(simp only [List.length_drop,List.length_take];rfl)) ?_
        with_reducible refine (nr_Next.calls k1 _ _ l0 (rdOf ByteArray.empty l1 (ji4)) t286 _ ?side1 ?side2 A7.out).mono ?_
        (case side1=>repeat (first|exact (Kd.C_below HR0.out HB.out)|(with_reducible refine Kd.C_alloc ?_ _)|(with_reducible refine Kd.C_drewN ?_ _)|(with_reducible refine Kd.C_drew ?_)))
        (case side2=>exact HC0.out)
        rintro e w12 ⟨v287,rfl,ho0,hb⟩
        refine ⟨_,rfl,?_⟩
        have n0_:=Aside0.mk (Kd.R_lower ho0 (below_size (tB_ HB)))
        have n1_:=Aside0.mk (below_step (tB_ HB) hb)
        clear HB
        have HO288:=n0_
        have HB:=n1_
        clear n0_ n1_
        (try clear hb)
        (try clear hb2)
        (try clear hk)
        (try clear hi)
        (try clear ho0)
        obtain ⟨Ao13,co13,eo13⟩:=Kd.R_slice HO288.out
        (first|subst eo13|(injection eo13 with f1_ f2_ f3_;have f4_:=f1_.symm;have f5_:=f3_.symm;clear f1_ f2_ f3_;subst f4_;subst f5_))
        refine hK.out _ _ ⟨(cB_ HB hw285_0),(cB_ HB hw289_0)⟩ (fun hHeld=>?_)
        clear hK K
        refine norm_ (a':=?_) ?_ ?_;rotate_left;(show Act.put _ (some 18) _=_;exact tP_)
        refine one_ (i:=11) (N:=some 23) (bm 13 4095) rfl rfl (one_of HT_.out (by kernel_rfl)) (by decide) (fun K hK=>?_)
        refine goes_ Tryz.func81 (by kernel_rfl) rfl #[.slice Ao13 t286.length co13,.string (rdOf ByteArray.empty l1 x5_1)] (by rfl) rfl rfl tM_ ?_
        with_reducible refine (nr_has.calls k1 _ _ t286 (rdOf ByteArray.empty l1 x5_1) true _ ?side1 ?side2 A9.out).mono ?_
        (case side1=>repeat (first|exact (Kd.R_reads' HO288.out).2.2|(with_reducible refine Kd.C_alloc ?_ _)|(with_reducible refine Kd.C_drewN ?_ _)|(with_reducible refine Kd.C_drew ?_)))
        (case side2=>exact (Kd.R_reads' HO288.out).2.1)
        rintro e w' ⟨rfl,⟨nd,rfl⟩⟩
        refine ⟨_,rfl,?_⟩
        refine hK.out _ _ ⟨((HB.out.cell (World.block_lt_of_cell? w _ hw285_0)).trans hw285_0),((HB.out.cell (World.block_lt_of_cell? w _ hw289_0)).trans hw289_0)⟩ (fun hHeld=>?_)
        clear hK K
        refine norm_ (a':=?_) ?_ ?_;rotate_left;(show Act.put _ (some 23) _=_;exact tP_)
        refine pj_ 12 24 (bm 13 8191) (any_of HT_.out (by kernel_rfl)) ?_
        refine done_ (done_of HT_.out (by kernel_rfl)) ?_
        try go_wp2
        go_roundg k1
        case measure=>have:=HK1.out;omega
        case rel=>exact ⟨(wrap64 (x5_1+1)),tS_,H',⟨by have:=HK1.out;omega⟩,⟨tB_ HB⟩⟩
       ·replace c10:=Bool.eq_false_iff.mpr c10
        subst c10
        have H1:(some false)=some r:=by rw [if_neg (show ¬ (false=true) by decide)] at H;exact H
        clear H
        have H:=H1
        clear H1
        obtain rfl:=Option.some.inj H
        try go_wp2
        have n0_:=Aside0.mk (below_drew1 HB.out)
        clear HB
        have HB:=n0_
        clear n0_
        have p285:0≤((ji4):Int):=oT_
        have q285:(ji4) < (l1.length:Int):=oT_
        obtain ⟨ad285,e285,hx285_0⟩:=Kd.at_string HR1.out (ji4) p285 q285
        have hw285_0:=hx285_0
        cases e285
        replace hx285_0:=cB_ HB hx285_0
        replace p285:=eq_true p285
        replace q285:=eq_true q285
        have p289:0≤(x5_1:Int):=oT_
        have q289:x5_1 < (l1.length:Int):=oT_
        obtain ⟨ad289,e289,hx289_0⟩:=Kd.at_string HR1.out x5_1 p289 q289
        have hw289_0:=hx289_0
        obtain rfl:ad285=ad289:=(by injection e289)
        replace hx289_0:=cB_ HB hx289_0
        replace p289:=eq_true p289
        replace q289:=eq_true q289
        refine start_ (n:=13) (S:=fun w'=>w'.cell? (ad285.add ((ji4)).toNat)=some (.string (rdOf ByteArray.empty l1 (ji4)))∧w'.cell? (ad285.add (x5_1).toNat)=some (.string (rdOf ByteArray.empty l1 x5_1))) (ds:=[]) (bm 13 0) (by kernel_rfl) rfl rfl ⟨(cB_ HB hw285_0),(cB_ HB hw289_0)⟩ (fun hHeld=>?_);refine with_tabW nr_Loop.tab4 nr_Loop.bits4 (fun HT_ HW_=>?_)
        generalize wr.drew=w14 at HB hx285_0 hx289_0 hHeld ⊢
        refine pj_ 0 12 (bm 13 1) (any_of HT_.out (by kernel_rfl)) ?_
        refine pj_ 1 13 (bm 13 3) (any_of HT_.out (by kernel_rfl)) ?_
        refine pj_ 2 14 (bm 13 7) (any_of HT_.out (by kernel_rfl)) ?_
        refine pj_ 3 15 (bm 13 15) (any_of HT_.out (by kernel_rfl)) ?_
        refine pj_ 4 16 (bm 13 31) (any_of HT_.out (by kernel_rfl)) ?_
        refine pj_ 7 19 (bm 13 159) (any_of HT_.out (by kernel_rfl)) ?_
        refine pj_ 8 20 (bm 13 415) (any_of HT_.out (by kernel_rfl)) ?_
        refine pj_ 9 21 (bm 13 927) (any_of HT_.out (by kernel_rfl)) ?_
        refine take_ (i:=5) (N:=some 17) (v:=?_) (a':=?_) (bm 13 959) rfl rfl (take_ofW HT_.out HW_.out (by kernel_rfl)) (fun _ _ _ h=>h) (Or.inl ⟨by rfl,?_⟩) hHeld ?_ ?_;rotate_left;(rintro w' ⟨s0,s1⟩;go_simp;with_reducible rfl);rotate_left;exact tP_
        refine take_ (i:=10) (N:=some 22) (v:=?_) (a':=?_) (bm 13 1983) rfl rfl (take_ofW HT_.out HW_.out (by kernel_rfl)) (fun _ _ _ h=>h) (Or.inl ⟨by rfl,?_⟩) hHeld ?_ ?_;rotate_left;(rintro w' ⟨s0,s1⟩;go_simp;with_reducible rfl);rotate_left;exact tP_
        refine one_ (i:=6) (N:=some 18) (bm 13 2047) rfl rfl (one_of HT_.out (by kernel_rfl)) (by decide) (fun K hK=>?_)
        refine goes_ Tryz.func51 (by kernel_rfl) rfl #[.slice A0 l0.length c0,.string (rdOf ByteArray.empty l1 (ji4))] (by rfl) rfl rfl (by (try simp only [List.map_toArray,List.map_cons,List.map_nil]);first|done|(simp only [hji4];rfl)|rfl|(simp only [List.length_drop,List.length_take];rfl)) ?_
        with_reducible refine (nr_Next.calls k1 _ _ l0 (rdOf ByteArray.empty l1 (ji4)) t286 _ ?side1 ?side2 A7.out).mono ?_
        (case side1=>repeat (first|exact (Kd.C_below HR0.out HB.out)|(with_reducible refine Kd.C_alloc ?_ _)|(with_reducible refine Kd.C_drewN ?_ _)|(with_reducible refine Kd.C_drew ?_)))
        (case side2=>exact HC0.out)
        rintro e w15 ⟨v287,rfl,ho0,hb⟩
        refine ⟨_,rfl,?_⟩
        have n0_:=Aside0.mk (Kd.R_lower ho0 (below_size (tB_ HB)))
        have n1_:=Aside0.mk (below_step (tB_ HB) hb)
        clear HB
        have HO288:=n0_
        have HB:=n1_
        clear n0_ n1_
        (try clear hb)
        (try clear hb2)
        (try clear hk)
        (try clear hi)
        (try clear ho0)
        obtain ⟨Ao16,co16,eo16⟩:=Kd.R_slice HO288.out
        (first|subst eo16|(injection eo16 with f1_ f2_ f3_;have f4_:=f1_.symm;have f5_:=f3_.symm;clear f1_ f2_ f3_;subst f4_;subst f5_))
        refine hK.out _ _ ⟨(cB_ HB hw285_0),(cB_ HB hw289_0)⟩ (fun hHeld=>?_)
        clear hK K
        refine norm_ (a':=?_) ?_ ?_;rotate_left;(show Act.put _ (some 18) _=_;exact tP_)
        refine one_ (i:=11) (N:=some 23) (bm 13 4095) rfl rfl (one_of HT_.out (by kernel_rfl)) (by decide) (fun K hK=>?_)
        refine goes_ Tryz.func81 (by kernel_rfl) rfl #[.slice Ao16 t286.length co16,.string (rdOf ByteArray.empty l1 x5_1)] (by rfl) rfl rfl tM_ ?_
        with_reducible refine (nr_has.calls k1 _ _ t286 (rdOf ByteArray.empty l1 x5_1) false _ ?side1 ?side2 A9.out).mono ?_
        (case side1=>repeat (first|exact (Kd.R_reads' HO288.out).2.2|(with_reducible refine Kd.C_alloc ?_ _)|(with_reducible refine Kd.C_drewN ?_ _)|(with_reducible refine Kd.C_drew ?_)))
        (case side2=>exact (Kd.R_reads' HO288.out).2.1)
        rintro e w' ⟨rfl,⟨nd,rfl⟩⟩
        refine ⟨_,rfl,?_⟩
        refine hK.out _ _ ⟨((HB.out.cell (World.block_lt_of_cell? w _ hw285_0)).trans hw285_0),((HB.out.cell (World.block_lt_of_cell? w _ hw289_0)).trans hw289_0)⟩ (fun hHeld=>?_)
        clear hK K
        refine norm_ (a':=?_) ?_ ?_;rotate_left;(show Act.put _ (some 23) _=_;exact tP_)
        refine pj_ 12 24 (bm 13 8191) (any_of HT_.out (by kernel_rfl)) ?_
        refine done_ (done_of HT_.out (by kernel_rfl)) ?_
        try go_wp2
        go_ret
        exact ⟨by first|rfl|(simp [errW_none,errW_some]<;>rfl)|(simp only [←hji4];first|rfl|(simp [errW_none,errW_some]<;>rfl))|(simp [*,errW_none,errW_some]<;>rfl),tB_ HB⟩
      ·rw [if_neg c8] at H
       exact absurd H (by simp)
     ·rw [if_neg c6] at H
      exact absurd H (by simp)
    ·rw [if_neg c5] at H
     exact absurd H (by simp)
   ·rw [if_neg c3] at H
    have c3b0:decide (x5_1 < (l1.length:Int))=false:=decide_eq_false c3
    clear c3
    by_cases c17:(l1.length:Int)≥2
    ·rw [if_pos c17] at H
     have c17b0:decide (2≤(l1.length:Int))=true:=decide_eq_true c17
     have c17b1:decide (2≤l1.length)=true:=decide_eq_true (by omega)
     clear c17
     by_cases c18:0 < (l1.length:Int)
     ·rw [if_pos c18] at H
      have c18b0:decide (0 < (l1.length:Int))=true:=decide_eq_true c18
      have c18b1:decide (0 < l1.length)=true:=decide_eq_true (by omega)
      clear c18
      obtain ⟨ji19,hji19⟩:∃ j_:Int,(wrap64 ((l1.length:Int) - 1))=j_:=⟨_,rfl⟩
      replace H:(if 0≤(ji19) then (if (ji19) < (l1.length:Int) then ((nr_Returns.f k1 (rdOf ByteArray.empty l1 0) (rdOf ByteArray.empty l1 (ji19))).bind fun t284=>(some t284)) else (none)) else (none))=some r:=by first|(rw [hji19] at H;exact H)|(simp only [hji19] at H ⊢;exact H)
      have hji19w:(IntKind.i64.wrap ((l1.length:Int) - 1))=ji19:=(i64_w _).trans hji19
      by_cases c20:0≤(ji19)
      ·rw [if_pos c20] at H
       have c20b0:decide (0≤(ji19))=true:=decide_eq_true c20
       clear c20
       by_cases c21:(ji19) < (l1.length:Int)
       ·rw [if_pos c21] at H
        have c21b0:decide ((ji19) < (l1.length:Int))=true:=decide_eq_true c21
        clear c21
        replace H:=Option.bind_eq_some_iff.mp H
        obtain ⟨t284,A220,H⟩:=H
        replace H:(some t284)=some r:=H
        have A22:=Aside0.mk A220
        clear A220
        obtain rfl:=Option.some.inj H
        try go_wp2
        have n0_:=Aside0.mk (below_drew1 HB.out)
        clear HB
        have HB:=n0_
        clear n0_
        have p282:0≤(0:Int):=(by omega)
        have q282:0 < (l1.length:Int):=oT_
        obtain ⟨ad282,e282,hx282_0⟩:=Kd.at_string HR1.out 0 p282 q282
        have hw282_0:=hx282_0
        (try rw [show ((0:Int)).toNat=0 from rfl] at hw282_0)
        (try rw [show 0 * 1=0 from rfl] at hw282_0)
        (try rw [Addr.add_zero'] at hw282_0)
        cases e282
        have qi282:(0 < l1.length)=True:=eq_true (by omega)
        (try rw [show ((0:Int)).toNat=0 from rfl] at hx282_0)
        (try rw [Addr.add_zero'] at hx282_0)
        replace hx282_0:=cB_ HB hx282_0
        replace p282:=eq_true p282
        replace q282:=eq_true q282
        have p283:0≤((ji19):Int):=oT_
        have q283:(ji19) < (l1.length:Int):=oT_
        obtain ⟨ad283,e283,hx283_0⟩:=Kd.at_string HR1.out (ji19) p283 q283
        have hw283_0:=hx283_0
        obtain rfl:ad282=ad283:=(by injection e283)
        replace hx283_0:=cB_ HB hx283_0
        replace p283:=eq_true p283
        replace q283:=eq_true q283
        refine start_ (n:=16) (S:=fun w'=>w'.cell? ad282=some (.string (rdOf ByteArray.empty l1 0))∧w'.cell? (ad282.add ((ji19)).toNat)=some (.string (rdOf ByteArray.empty l1 (ji19)))) (ds:=[]) (bm 16 0) (by kernel_rfl) rfl rfl ⟨(cB_ HB hw282_0),(cB_ HB hw283_0)⟩ (fun hHeld=>?_);refine with_tabW nr_Loop.tab6 nr_Loop.bits6 (fun HT_ HW_=>?_)
        generalize wr.drew=w23 at HB hx282_0 hx283_0 hHeld ⊢
        refine pj_ 0 25 (bm 16 1) (any_of HT_.out (by kernel_rfl)) ?_
        refine pj_ 1 26 (bm 16 3) (any_of HT_.out (by kernel_rfl)) ?_
        refine pj_ 2 27 (bm 16 7) (any_of HT_.out (by kernel_rfl)) ?_
        refine pj_ 3 28 (bm 16 15) (any_of HT_.out (by kernel_rfl)) ?_
        refine pj_ 4 29 (bm 16 31) (any_of HT_.out (by kernel_rfl)) ?_
        refine pj_ 5 30 (bm 16 63) (any_of HT_.out (by kernel_rfl)) ?_
        refine pj_ 7 32 (bm 16 191) (any_of HT_.out (by kernel_rfl)) ?_
        refine pj_ 8 33 (bm 16 447) (any_of HT_.out (by kernel_rfl)) ?_
        refine pj_ 9 34 (bm 16 959) (any_of HT_.out (by kernel_rfl)) ?_
        refine pj_ 10 35 (bm 16 1983) (any_of HT_.out (by kernel_rfl)) ?_
        refine pj_ 11 36 (bm 16 4031) (any_of HT_.out (by kernel_rfl)) ?_
        refine take_ (i:=6) (N:=some 31) (v:=?_) (a':=?_) (bm 16 4095) rfl rfl (take_ofW HT_.out HW_.out (by kernel_rfl)) (fun _ _ _ h=>h) (Or.inl ⟨by rfl,?_⟩) hHeld ?_ ?_;rotate_left;(rintro w' ⟨s0,s1⟩;go_simp;with_reducible rfl);rotate_left;exact tP_
        refine take_ (i:=12) (N:=some 37) (v:=?_) (a':=?_) (bm 16 8191) rfl rfl (take_ofW HT_.out HW_.out (by kernel_rfl)) (fun _ _ _ h=>h) (Or.inl ⟨by rfl,?_⟩) hHeld ?_ ?_;rotate_left;(rintro w' ⟨s0,s1⟩;go_simp;with_reducible rfl);rotate_left;exact tP_
        refine one_ (i:=13) (N:=some 38) (bm 16 16383) rfl rfl (one_of HT_.out (by kernel_rfl)) (by decide) (fun K hK=>?_)
        refine goes_ Tryz.func82 (by kernel_rfl) rfl #[.string (rdOf ByteArray.empty l1 0),.string (rdOf ByteArray.empty l1 (ji19))] (by rfl) rfl rfl (by (try simp only [List.map_toArray,List.map_cons,List.map_nil]);first|done|(simp only [hji19];rfl)|rfl|(simp only [List.length_drop,List.length_take];rfl)) ?_
        with_reducible refine (nr_Returns.calls k1 (rdOf ByteArray.empty l1 0) (rdOf ByteArray.empty l1 (ji19)) t284 _ A22.out).mono ?_
        rintro e w24 ⟨rfl,hb⟩
        refine ⟨_,rfl,?_⟩
        have n0_:=Aside0.mk (below_step (tB_ HB) hb)
        clear HB
        have HB:=n0_
        clear n0_
        (try clear hb)
        (try clear hb2)
        (try clear hk)
        (try clear hi)
        refine hK.out _ _ ⟨(cB_ HB hw282_0),(cB_ HB hw283_0)⟩ (fun hHeld=>?_)
        clear hK K
        refine norm_ (a':=?_) ?_ ?_;rotate_left;(show Act.put _ (some 38) _=_;exact tP_)
        refine pj_ 14 39 (bm 16 32767) (any_of HT_.out (by kernel_rfl)) ?_
        refine pj_ 15 4 (bm 16 65535) (any_of HT_.out (by kernel_rfl)) ?_
        refine done_ (done_of HT_.out (by kernel_rfl)) ?_
        try go_wp2
        go_ret
        exact ⟨by first|rfl|(simp [errW_none,errW_some]<;>rfl)|(simp only [←hji19];first|rfl|(simp [errW_none,errW_some]<;>rfl))|(simp [*,errW_none,errW_some]<;>rfl),tB_ HB⟩
       ·rw [if_neg c21] at H
        exact absurd H (by simp)
      ·rw [if_neg c20] at H
       exact absurd H (by simp)
     ·rw [if_neg c18] at H
      exact absurd H (by simp)
    ·rw [if_neg c17] at H
     have c17b0:decide (2≤(l1.length:Int))=false:=decide_eq_false c17
     have c17b1:decide (2≤l1.length)=false:=decide_eq_false (by omega)
     clear c17
     obtain rfl:=Option.some.inj H
     try go_wp2
     have n0_:=Aside0.mk (below_drew1 HB.out)
     clear HB
     have HB:=n0_
     clear n0_
     refine start_ (n:=16) (S:=fun w'=>True) (ds:=[]) (bm 16 0) (by kernel_rfl) rfl rfl trivial (fun hHeld=>?_);refine with_tabW nr_Loop.tab6 nr_Loop.bits6 (fun HT_ HW_=>?_)
     generalize wr.drew=w25 at HB hHeld ⊢
     refine pj_ 0 25 (bm 16 1) (any_of HT_.out (by kernel_rfl)) ?_
     refine pj_ 1 26 (bm 16 3) (any_of HT_.out (by kernel_rfl)) ?_
     refine pj_ 2 27 (bm 16 7) (any_of HT_.out (by kernel_rfl)) ?_
     refine pj_ 3 28 (bm 16 15) (any_of HT_.out (by kernel_rfl)) ?_
     refine pure_ (i:=4) (N:=some 29) (v:=undef) (a':=?_) (bm 16 31) rfl rfl (any_of HT_.out (by kernel_rfl)) (fun _ _ _ h=>h) (Or.inr ⟨by rfl,rfl⟩) ?_ ?_;rotate_left;exact tP_
     refine pure_ (i:=5) (N:=some 30) (v:=undef) (a':=?_) (bm 16 63) rfl rfl (any_of HT_.out (by kernel_rfl)) (fun _ _ _ h=>h) (Or.inr ⟨by rfl,rfl⟩) ?_ ?_;rotate_left;exact tP_
     refine pure_ (i:=6) (N:=some 31) (v:=undef) (a':=?_) (bm 16 127) rfl rfl (any_of HT_.out (by kernel_rfl)) (fun _ _ _ h=>h) (Or.inr ⟨by rfl,rfl⟩) ?_ ?_;rotate_left;exact tP_
     refine pure_ (i:=7) (N:=some 32) (v:=undef) (a':=?_) (bm 16 255) rfl rfl (any_of HT_.out (by kernel_rfl)) (fun _ _ _ h=>h) (Or.inr ⟨by rfl,rfl⟩) ?_ ?_;rotate_left;exact tP_
     refine pure_ (i:=8) (N:=some 33) (v:=undef) (a':=?_) (bm 16 511) rfl rfl (any_of HT_.out (by kernel_rfl)) (fun _ _ _ h=>h) (Or.inr ⟨by rfl,rfl⟩) ?_ ?_;rotate_left;exact tP_
     refine pure_ (i:=9) (N:=some 34) (v:=undef) (a':=?_) (bm 16 1023) rfl rfl (any_of HT_.out (by kernel_rfl)) (fun _ _ _ h=>h) (Or.inr ⟨by rfl,rfl⟩) ?_ ?_;rotate_left;exact tP_
     refine pure_ (i:=10) (N:=some 35) (v:=undef) (a':=?_) (bm 16 2047) rfl rfl (any_of HT_.out (by kernel_rfl)) (fun _ _ _ h=>h) (Or.inr ⟨by rfl,rfl⟩) ?_ ?_;rotate_left;exact tP_
     refine pure_ (i:=11) (N:=some 36) (v:=undef) (a':=?_) (bm 16 4095) rfl rfl (any_of HT_.out (by kernel_rfl)) (fun _ _ _ h=>h) (Or.inr ⟨by rfl,rfl⟩) ?_ ?_;rotate_left;exact tP_
     refine pure_ (i:=12) (N:=some 37) (v:=undef) (a':=?_) (bm 16 8191) rfl rfl (any_of HT_.out (by kernel_rfl)) (fun _ _ _ h=>h) (Or.inr ⟨by rfl,rfl⟩) ?_ ?_;rotate_left;exact tP_
     refine pure_ (i:=13) (N:=some 38) (v:=undef) (a':=?_) (bm 16 16383) rfl rfl (any_of HT_.out (by kernel_rfl)) (fun _ _ _ h=>h) (Or.inr ⟨by rfl,rfl⟩) ?_ ?_;rotate_left;exact tP_
     refine pj_ 14 39 (bm 16 32767) (any_of HT_.out (by kernel_rfl)) ?_
     refine pj_ 15 4 (bm 16 65535) (any_of HT_.out (by kernel_rfl)) ?_
     refine done_ (done_of HT_.out (by kernel_rfl)) ?_
     try go_wp2
     go_ret
     exact ⟨tE_,tB_ HB⟩
end Go.Proofs.YtaafeallcaiooaaGreat.Pr
namespace Go.Proofs.YtaafeallcaiooaaGreat.Pr
open Go.RowKit Go.Proofs.Zw Go.Proofs.Zl Go.Proofs.Zm
set_option linter.unusedVariables false
set_option linter.unusedSimpArgs false
theorem good_mk {s:Int} {p us:List Tm} {v:Tm} (hs:97≤s∧s≤102) (hl:(p.length:Int)+1+us.length=nParts s) (hp:Tm.goods p) (hv:v.good) (hu:Tm.goods us):(Tm.app s (p++v :: us)).good:=by
  rw [Tm.good]
  refine ⟨hs,by rw [List.length_append,List.length_cons];omega,?_⟩
  rw [goods_app,Tm.goods]
  exact ⟨hp,hv,hu⟩
theorem nexL_head (ls:List (Tm × Tm)) (s:Int) {x:Tm}:∀ (l p:List Tm),x∈nexL ls s p l→∃ l',x=.app s l'
  | [],p,h=>by rw [nexL] at h;cases h
  | u :: us,p,h=>by
    rw [nexL,List.mem_append,List.mem_map] at h
    rcases h with ⟨v,_,rfl⟩|h
    · exact ⟨_,rfl⟩
    · exact nexL_head ls s us _ h
theorem root_any {ls:List (Tm × Tm)} (hls:LawsGood ls) {a b:Tm} (ha:a.good) (sa:a.size≤1000000) (hb:b.good):(rootT ls a).any (fun u=>sameB u b)=true↔b∈rootT ls a:=by
  rw [List.any_eq_true]
  constructor
  · rintro ⟨u,hu,h⟩
    rw [same_iff (rootT_good hls ha sa hu) hb] at h
    exact h ▸ hu
  · intro h
    exact ⟨b,h,same_refl b⟩
mutual
theorem leads_iff (ls:List (Tm × Tm)) (hls:LawsGood ls):∀ (a b:Tm),a.good→a.size≤1000000→b.good→(leadsT ls a b=true↔b∈nexA ls a)
  | .var c,b,ha,sa,hb=>by rw [leadsT,nexA];exact root_any hls ha sa hb
  | .app s l,b,ha,sa,hb=>by
    rw [leadsT_app,nexA,Bool.or_eq_true,List.mem_append,root_any hls ha sa hb]
    refine or_congr Iff.rfl ?_
    have hga:=ha
    rw [Tm.good] at hga
    rw [Tm.size] at sa
    cases b with
    | var c =>
      constructor
      · intro h;cases h
      · intro h
        obtain ⟨_,h⟩:=nexL_head ls s l [] h
        cases h
    | app s' l' =>
      rw [restB]
      by_cases hs:s'=s
      · subst hs
        rw [if_pos rfl]
        have hgb:=hb
        rw [Tm.good] at hgb
        exact leadsL_iff ls hls s' hga.1 l [] [] l' (by omega) rfl (by rw [Tm.goods];trivial) (by rw [Tm.goods];trivial) hga.2.2 hgb.2.2 (by omega) (by rw [List.length_nil];omega)
      · rw [if_neg hs]
        constructor
        · intro h;cases h
        · intro h
          obtain ⟨l2,h⟩:=nexL_head ls s l [] h
          injection h with h1 h2
          exact absurd h1 hs
theorem leadsL_iff (ls:List (Tm × Tm)) (hls:LawsGood ls) (s:Int) (hs:97≤s∧s≤102):∀ (us p q vs:List Tm),us.length=vs.length→p.length=q.length→Tm.goods p→Tm.goods q→Tm.goods us→Tm.goods vs→Tm.sizes us≤1000000→(p.length:Int)+us.length=nParts s→(leadsL ls s p us vs (.app s (q++vs))=true↔(Tm.app s (q++vs))∈nexL ls s p us)
  | [],p,q,vs,hl,hpq,hp,hq,hu,hv,hz,hn=>by
    rw [nexL,leadsL]
    constructor<;>intro h<;>cases h
  | u :: us,p,q,[],hl,hpq,hp,hq,hu,hv,hz,hn=>by simp at hl
  | u :: us,p,q,v :: vs,hl,hpq,hp,hq,hu,hv,hz,hn=>by
    rw [Tm.goods] at hu hv
    rw [Tm.sizes] at hz
    rw [List.length_cons] at hn
    rw [List.length_cons,List.length_cons] at hl
    have hsn:=Tm.sizes_nn us
    have hsp:=Tm.size_pos u
    rw [leadsL,nexL,Bool.or_eq_true,Bool.and_eq_true,List.mem_append,List.mem_map]
    have g1:(Tm.app s (p++v :: us)).good:=good_mk hs (by omega) hp hv.1 hu.2
    have g2:(Tm.app s (q++v :: vs)).good:=good_mk hs (by omega) hq hv.1 hv.2
    rw [same_iff g1 g2,leads_iff ls hls u v hu.1 (by omega) hv.1]
    refine or_congr ?_ ?_
    · constructor
      · rintro ⟨h1,h2⟩
        exact ⟨v,h2,h1⟩
      · rintro ⟨x,h1,h2⟩
        injection h2 with h3 h4
        have h5:=List.append_inj h4 hpq
        have h6:=h5.2
        injection h6 with h7 h8
        subst h7 h8
        rw [h5.1]
        exact ⟨rfl,h1⟩
    · have:=leadsL_iff ls hls s hs us (p++[u]) (q++[v]) vs (by omega) (by simp;omega) (by rw [goods_app,Tm.goods,Tm.goods];exact ⟨hp,hu.1,trivial⟩) (by rw [goods_app,Tm.goods,Tm.goods];exact ⟨hq,hv.1,trivial⟩) hu.2 hv.2 (by omega) (by simp;omega)
      rw [List.append_assoc] at this
      exact this
end
theorem rt_skip (F s:ByteArray) (hs:s.size≤1000000) (pre r:List UInt8) (c:UInt8) (hc:ltrB (c.toNat:Int)=false) (hd:s.data.toList=pre++c :: r) (b:Bool) (h:Evt (fun k=>nr_Returns.l0 k F s ((pre.length+1:Nat):Int)) b):Evt (fun k=>nr_Returns.l0 k F s (pre.length:Int)) b:=by
  have h0:s.data.toList.drop pre.length=c :: r:=by rw [hd,List.drop_left]
  obtain ⟨h1,h2,_⟩:=at_cons h0
  have hw:=wrN s (by omega) (i:=pre.length) (by omega)
  refine Evt.step (g':=fun k=>(nr_letter.f k (c.toNat:Int)).bind fun t275=>(if t275=true then ((nr_End.f k s (pre.length:Int)).bind fun t276=>(if (pre.length:Int)≤t276 then (if t276≤(s.size:Int) then ((nr_Match.f F (s.extract ((pre.length:Int)).toNat (t276:Int).toNat)).bind fun bt277=>(if bt277.2.2.2=true then (some true) else (nr_Returns.l0 k F s ((pre.length+1:Nat):Int)))) else (none)) else (none))) else (nr_Returns.l0 k F s ((pre.length+1:Nat):Int)))) (fun k=>by rw [nr_Returns.l0,if_pos (by omega),if_pos (by omega),h2,hw]) ?_
  refine Evt.bind (letterE _) ?_
  rw [hc]
  exact Evt.neg (by simp) h
theorem rt_head (P:Tm) (hP:P.good) (sP:P.size≤60) (s:ByteArray) (hs:s.size≤1000000) (pre r:List UInt8) (u:Tm) (b:Bool) (hd:s.data.toList=pre++u.tx++r) (hg:u.good) (hu:u.size≤60)
    (h:Evt (fun k=>nr_Returns.l0 k P.text s ((pre.length+1:Nat):Int)) b):Evt (fun k=>nr_Returns.l0 k P.text s (pre.length:Int)) (isInst P u || b):=by
  obtain ⟨d,l,e1,e2⟩:=tx_first u hg
  have h0:s.data.toList.drop pre.length=u.tx++r:=by rw [hd,List.append_assoc,List.drop_left]
  have h0':=h0
  rw [e1] at h0'
  obtain ⟨h1,h2,_⟩:=at_cons h0'
  have hw:=wrN s (by omega) (i:=pre.length) (by omega)
  have hlt:ltrB (d.toNat:Int)=true:=by
    rw [e2]
    cases u with
    | var c=>rw [Tm.good] at hg;show ltrB c=true;unfold ltrB;rw [prt_var hg];decide
    | app sy l=>rw [Tm.good] at hg;show ltrB sy=true;unfold ltrB;rw [prt_sym hg.1];exact decide_eq_true (by omega)
  have hE:=rEndE s (by omega) u hg pre.length r h0
  have hsz:=len_of hd
  rw [List.length_append,List.length_append] at hsz
  have hex:s.extract pre.length (pre.length+u.tx.length)=u.text:=extract_tx (r:=r) h0
  have hM:=refMatch_eval hP hg (by omega) (by omega)
  refine Evt.step (g':=fun k=>(nr_letter.f k (d.toNat:Int)).bind fun t275=>(if t275=true then ((nr_End.f k s (pre.length:Int)).bind fun t276=>(if (pre.length:Int)≤t276 then (if t276≤(s.size:Int) then ((nr_Match.f P.text (s.extract ((pre.length:Int)).toNat (t276:Int).toNat)).bind fun bt277=>(if bt277.2.2.2=true then (some true) else (nr_Returns.l0 k P.text s ((pre.length+1:Nat):Int)))) else (none)) else (none))) else (nr_Returns.l0 k P.text s ((pre.length+1:Nat):Int)))) (fun k=>by rw [nr_Returns.l0,if_pos (by omega),if_pos (by omega),h2,hw]) ?_
  refine Evt.bind (letterE _) (Evt.pos hlt (Evt.bind hE ?_))
  rw [show ((pre.length:Int)+(u.tx.length:Int))=((pre.length+u.tx.length:Nat):Int) by omega,Int.toNat_natCast,Int.toNat_natCast,hex,hM]
  refine Evt.pos (by omega) (Evt.pos (by omega) ?_)
  simp only [Option.bind_some]
  unfold isInst
  cases matchT P u noSub with
  | none=>exact Evt.neg (by simp) h
  | some σ=>exact Evt.pos rfl (Evt.all fun _=>rfl)
def RtAt (P:Tm) (s:ByteArray) (u:Tm):Prop:=∀ (pre r:List UInt8) (b:Bool),s.data.toList=pre++u.tx++r→u.good→u.size≤60 →
  Evt (fun k=>nr_Returns.l0 k P.text s ((pre.length+u.tx.length:Nat):Int)) b→Evt (fun k=>nr_Returns.l0 k P.text s (pre.length:Int)) (u.subs.any (isInst P) || b)
theorem rt_list (P:Tm) (s:ByteArray) (hs:s.size≤1000000):∀ (l:List Tm) (j:Nat) (pre r:List UInt8) (b:Bool),(∀ x,x∈l→RtAt P s x)→s.data.toList=pre++txM j l++r→Tm.goods l→Tm.sizes l≤60 →
    Evt (fun k=>nr_Returns.l0 k P.text s ((pre.length+(txM j l).length:Nat):Int)) b→Evt (fun k=>nr_Returns.l0 k P.text s (pre.length:Int)) ((Tm.subsL l).any (isInst P) || b)
  | [],j,pre,r,b,hx,hd,hg,hz,h=>by
    rw [Tm.subsL]
    rw [txM] at h
    exact h
  | u :: l,j,pre,r,b,hx,hd,hg,hz,h=>by
    rw [Tm.goods] at hg
    rw [Tm.sizes] at hz
    have sp:=Tm.size_pos u
    have spl:=Tm.sizes_nn l
    have hd1:s.data.toList=pre++UInt8.ofNat (mark j).toNat :: (u.tx++(txM (j+1) l++r)):=by
      rw [hd,txM];simp
    refine rt_skip _ s hs pre _ _ (mark_no _) hd1 _ ?_
    have hd2:s.data.toList=(pre++[UInt8.ofNat (mark j).toNat])++u.tx++(txM (j+1) l++r):=by
      rw [hd1];simp
    have hpl:(pre++[UInt8.ofNat (mark j).toNat]).length=pre.length+1:=by simp
    rw [←hpl,Tm.subsL,List.any_append,Bool.or_assoc]
    refine hx u (by simp) (pre++[UInt8.ofNat (mark j).toNat]) (txM (j+1) l++r) _ hd2 hg.1 (by omega) ?_
    have hpl2:(pre++[UInt8.ofNat (mark j).toNat]).length+u.tx.length=(pre++[UInt8.ofNat (mark j).toNat]++u.tx).length:=by simp;omega
    rw [hpl2]
    refine rt_list P s hs l (j+1) (pre++[UInt8.ofNat (mark j).toNat]++u.tx) r b (fun x hx'=>hx x (by simp [hx'])) (by rw [hd2];simp) hg.2 (by omega) ?_
    have hlen:pre.length+(txM j (u :: l)).length=(pre++[UInt8.ofNat (mark j).toNat]++u.tx).length+(txM (j+1) l).length:=by
      rw [txM];simp;omega
    rw [hlen] at h
    exact h
theorem rt_all (P:Tm) (hP:P.good) (sP:P.size≤60) (s:ByteArray) (hs:s.size≤1000000):∀ u,RtAt P s u:=by
  refine Tm.ind (fun c pre r b hd hg hu h=>?_) (fun sy l ih pre r b hd hg hu h=>?_)
  · rw [Tm.tx] at h
    have:=rt_head P hP sP s hs pre r (.var c) b hd hg hu h
    rw [Tm.subs,List.any_cons,List.any_nil,Bool.or_false]
    exact this
  · have hl2:=good_len hg
    have hgg:=hg
    rw [Tm.good] at hgg
    have hss:=hu
    rw [Tm.size] at hss
    have htx:=tx_app2 sy l hl2
    rw [Tm.subs,List.any_cons,Bool.or_assoc]
    refine rt_head P hP sP s hs pre r (.app sy l) _ hd hg hu ?_
    by_cases h0:l.length=0
    · obtain rfl:=List.length_eq_zero_iff.1 h0
      rw [htx,if_pos h0] at h
      rw [Tm.subsL]
      exact h
    · rw [if_neg h0] at htx
      have hd1:s.data.toList=(pre++[ch sy])++txM 0 l++(41 :: r):=by
        rw [hd,htx];simp
      have hle:pre.length+1=(pre++[ch sy]).length:=by simp
      rw [hle]
      refine rt_list P s hs l 0 (pre++[ch sy]) (41 :: r) b ih hd1 hgg.2.2 (by omega) ?_
      have hd2:s.data.toList=(pre++[ch sy]++txM 0 l)++41 :: r:=by rw [hd1]
      have hle2:(pre++[ch sy]).length+(txM 0 l).length=(pre++[ch sy]++txM 0 l).length:=by simp;omega
      rw [hle2]
      refine rt_skip _ s hs (pre++[ch sy]++txM 0 l) r 41 (by decide) hd2 b ?_
      have hle3:pre.length+(Tm.app sy l).tx.length=(pre++[ch sy]++txM 0 l).length+1:=by rw [htx];simp;omega
      rw [hle3] at h
      exact h
theorem returnsRE (P t:Tm) (hP:P.good) (sP:P.size≤60) (hg:t.good) (hs:t.size≤60):Evt (fun k=>nr_Returns.f k P.text t.text) (comesT P t):=by
  have hz:=text_le (t:=t) (by omega)
  have hzz:(t.text.size:Int)=t.tx.length:=by rw [text_size]
  have h:=rt_all P hP sP t.text (by omega) t [] [] false (by rw [text_data];simp) hg hs (Evt.now fun k=>by rw [nr_Returns.l0,if_neg (by rw [List.length_nil];omega)])
  rw [Bool.or_false] at h
  exact h
theorem readsT_at:∀ {l:List ByteArray} {ts:List Tm},readsT l=some ts→∀ k (h:k < l.length) (h':k < ts.length),readT l[k]=some ts[k]
  | [],ts,e,k,h,_=>by simp at h
  | x :: l,ts,e,k,h,h'=>by
    rw [readsT] at e
    cases hx:readT x with
    | none=>rw [hx] at e;cases e
    | some t =>
      cases hr:readsT l with
      | none=>rw [hx,hr] at e;cases e
      | some r =>
        rw [hx,hr] at e
        simp only [Option.bind_some,Option.map_some] at e
        injection e with e
        subst e
        cases k with
        | zero=>exact hx
        | succ k=>exact readsT_at hr k (by simpa using h) (by simpa using h')
theorem nxS_len (ls:List (Tm × Tm)) (t:Tm):(nxS ls t).length≤(nexA ls t).length:=by
  have:=putA_len [] [] (nexA ls t) []
  rw [List.length_nil] at this
  show (putA [] [] (nexA ls t) []).length≤_
  omega
def finL (ts:List Tm):Bool:=decide (2≤ts.length) && comesT (ts.headD (.var 0)) (ts.getLastD (.var 0))
theorem nexA_le (ls:List (Tm × Tm)) (hl:ls.length≤1000) (t:Tm) (ht:t.size≤60):(nexA ls t).length≤60000:=by
  have h1:=nexA_len ls t
  have hb:ls.length * t.size≤1000 * 60:=Int.mul_le_mul (by omega) ht (by have:=Tm.size_pos t;omega) (by omega)
  omega
theorem hasN {ls:List (Tm × Tm)} (hls:LawsGood ls) {a b:Tm} (ha:a.good) (sa:a.size≤60) (hb:b.good) (hgn:∀ v,v∈nexA ls a→v.good):hasS (nxS ls a) b.text=leadsT ls a b:=by
  rw [Bool.eq_iff_iff,hasS_iff,mem_nxS,leads_iff ls hls a b ha (by omega) hb]
  constructor
  · rintro ⟨v,h1,h2⟩
    rw [text_inj hb (hgn v h1) h2]
    exact h1
  · intro h
    exact ⟨b,h,rfl⟩
mutual
theorem nexA_good (ls:List (Tm × Tm)) (hls:LawsGood ls):∀ (t:Tm),t.good→t.size≤1000000→∀ v,v∈nexA ls t→v.good
  | .var c,hg,hs,v,hv=>by rw [nexA] at hv;exact rootT_good hls hg hs hv
  | .app s l,hg,hs,v,hv=>by
    rw [nexA,List.mem_append] at hv
    rcases hv with hv|hv
    · exact rootT_good hls hg hs hv
    · rw [Tm.good] at hg
      rw [Tm.size] at hs
      exact nexL_good ls hls s hg.1 l [] (by rw [Tm.goods];trivial) hg.2.2 (by omega) (by simp;omega) v hv
theorem nexL_good (ls:List (Tm × Tm)) (hls:LawsGood ls) (s:Int) (hs:97≤s∧s≤102):∀ (us p:List Tm),Tm.goods p→Tm.goods us→Tm.sizes us≤1000000→(p.length:Int)+us.length=nParts s→∀ v,v∈nexL ls s p us→v.good
  | [],p,hp,hu,hz,hn,v,hv=>by rw [nexL] at hv;cases hv
  | u :: us,p,hp,hu,hz,hn,v,hv=>by
    rw [Tm.goods] at hu
    rw [Tm.sizes] at hz
    rw [List.length_cons] at hn
    have hsn:=Tm.sizes_nn us
    have hsp:=Tm.size_pos u
    rw [nexL,List.mem_append,List.mem_map] at hv
    rcases hv with ⟨x,hx,rfl⟩|hv
    · exact good_mk hs (by omega) hp (nexA_good ls hls u hu.1 (by omega) x hx) hu.2
    · exact nexL_good ls hls s hs us (p++[u]) (by rw [goods_app,Tm.goods,Tm.goods];exact ⟨hp,hu.1,trivial⟩) hu.2 (by omega) (by simp;omega) v hv
end
theorem loopL (rs:List S94) (ls:List (Tm × Tm)) (hls:lawsT rs=some ls) (hn:rs.length≤1000) (l:List ByteArray) (ts:List Tm) (hts:readsT l=some ts) (hl:l.length≤1000):∀ (n i:Nat),i+1+n=l.length→Evt (fun k=>nr_Loop.l0 k rs l ((i+1:Nat):Int)) (chainT ls (ts.drop i) && finL ts)
  | 0,i,hi=>by
    have hlen:=readsT_len hts
    have hdr:ts.drop i=[ts[i]]:=by
      rw [List.drop_eq_getElem_cons (by omega),List.drop_of_length_le (by omega)]
    rw [hdr,chainT.eq_2,Bool.true_and]
    · unfold finL
      by_cases h2:2≤ts.length
      · have hw:wrap64 ((l.length:Int) - 1)=((l.length - 1:Nat):Int):=(wr (by omega) (by omega)).trans (by omega)
        have r0:=readT_iff.1 (readsT_at hts 0 (by omega) (by omega))
        have r1:=readT_iff.1 (readsT_at hts (l.length - 1) (by omega) (by omega))
        have hR:=returnsRE ts[0] ts[l.length - 1] r0.1 r0.2.1 r1.1 r1.2.1
        rw [←r0.2.2,←r1.2.2] at hR
        have e0:ts.headD (.var 0)=ts[0]:=by rw [List.headD_eq_head?_getD,List.head?_eq_getElem?,List.getElem?_eq_getElem (by omega)];rfl
        have e1:ts.getLastD (.var 0)=ts[l.length - 1]:=by
          rw [List.getLastD_eq_getLast?,List.getLast?_eq_getElem?,List.getElem?_eq_getElem (by omega)]
          simp only [hlen]
          rfl
        rw [decide_eq_true h2,Bool.true_and,e0,e1]
        refine Evt.step (g':=fun k=>(nr_Returns.f k l[0] l[l.length - 1]).bind fun t=>some t) (fun k=>?_) (Evt.bind hR (Evt.all fun _=>rfl))
        rw [nr_Loop.l0,if_neg (by omega),if_pos (by omega),if_pos (by omega),hw,if_pos (by omega),if_pos (by omega),rdOf_at l (l.length - 1) (by omega),show (0:Int)=((0:Nat):Int) from rfl,rdOf_at l 0 (by omega)]
      · rw [decide_eq_false h2,Bool.false_and]
        refine Evt.now fun k=>?_
        rw [nr_Loop.l0,if_neg (by omega),if_neg (by omega)]
    · intro a b r h;cases h
  | n+1,i,hi=>by
    have hlen:=readsT_len hts
    have hw:wrap64 (((i+1:Nat):Int) - 1)=(i:Int):=(wr (by omega) (by omega)).trans (by omega)
    have hw2:wrap64 (((i+1:Nat):Int)+1)=((i+1+1:Nat):Int):=(wr (by omega) (by omega)).trans (by omega)
    have r0:=readT_iff.1 (readsT_at hts i (by omega) (by omega))
    have r1:=readT_iff.1 (readsT_at hts (i+1) (by omega) (by omega))
    have hN:=nextRE rs ls hls hn ts[i] r0.1 r0.2.1
    rw [←r0.2.2] at hN
    have hlg:=lawsT_good hls
    have hnl:=nexA_le ls (by omega) ts[i] r0.2.1
    have hnl2:=nxS_len ls ts[i]
    have hH:=hasE (nxS ls ts[i]) l[i+1] (by omega)
    have ih:=loopL rs ls hls hn l ts hts hl n (i+1) (by omega)
    have hdr:ts.drop i=ts[i] :: ts[i+1] :: ts.drop (i+1+1):=by
      rw [List.drop_eq_getElem_cons (by omega),List.drop_eq_getElem_cons (by omega)]
    have hdr1:ts.drop (i+1)=ts[i+1] :: ts.drop (i+1+1):=List.drop_eq_getElem_cons (by omega)
    rw [hdr1] at ih
    rw [hdr,chainT]
    have hhas:hasS (nxS ls ts[i]) l[i+1]=leadsT ls ts[i] ts[i+1]:=by
      rw [r1.2.2]
      exact hasN hlg.1 r0.1 r0.2.1 r1.1 (nexA_good ls hlg.1 ts[i] r0.1 (by omega))
    rw [hhas] at hH
    refine Evt.step (g':=fun k=>(nr_Next.f k rs l[i]).bind fun t286=>(if 0≤((i+1:Nat):Int) then ((nr_has.f k t286 l[i+1]).bind fun t290=>(if t290=true then (nr_Loop.l0 k rs l ((i+1+1:Nat):Int)) else (some false))) else (none))) (fun k=>?_) ?_
    · rw [nr_Loop.l0,if_pos (by omega),hw,if_pos (by omega),if_pos (by omega),rdOf_at l i (by omega),rdOf_at l (i+1) (by omega),hw2]
    · refine Evt.bind hN (Evt.pos (by omega) (Evt.bind hH ?_))
      rw [Bool.and_assoc]
      cases leadsT ls ts[i] ts[i+1] with
      | true=>exact Evt.pos rfl ih
      | false=>exact Evt.neg (by simp) (Evt.all fun _=>rfl)
theorem loopRE (rs:List S94) (ls:List (Tm × Tm)) (hls:lawsT rs=some ls) (hn:rs.length≤1000) (l:List ByteArray) (ts:List Tm) (hts:readsT l=some ts) (hl:l.length≤1000):Evt (fun k=>nr_Loop.f k rs l) (chainT ls ts && finL ts):=by
  by_cases h:l.length=0
  · have hlen:=readsT_len hts
    have hl0:=List.length_eq_zero_iff.1 (show ts.length=0 by omega)
    have:(chainT ls ts && finL ts)=false:=by rw [hl0];rfl
    rw [this]
    refine Evt.now (g:=fun k=>nr_Loop.l0 k rs l 1) fun k=>?_
    rw [nr_Loop.l0,if_neg (by omega),if_neg (by omega)]
  · exact loopL rs ls hls hn l ts hts hl (l.length - 1) 0 (by omega)
theorem chk_none {l:List Tm} (h:chk l=none):∃ t,t∈l∧¬ t.size≤60:=by
  unfold chk at h
  split at h
  · cases h
  · rename_i h1
    refine Classical.byContradiction fun hn=>h1 (List.all_eq_true.2 fun t ht=>?_)
    exact decide_eq_true (Classical.byContradiction fun h2=>hn ⟨t,ht,h2⟩)
theorem mk_big (s:Int) (p us:List Tm) (v:Tm):v.size≤(Tm.app s (p++v :: us)).size:=by
  rw [Tm.size,sizes_app,Tm.sizes]
  have h1:=Tm.sizes_nn p
  have h2:=Tm.sizes_nn us
  omega
mutual
theorem nextT_nexA (ls:List (Tm × Tm)):∀ t:Tm,nextT ls t=chk (nexA ls t)
  | .var c=>by rw [nextT,nexA]
  | .app s l=>by
    rw [nextT,nexA]
    rcases nextL_nexL ls s [] l with h|⟨h,x,hx,hb⟩
    · rw [h,Option.bind_some]
    · rw [h,Option.bind_none]
      exact (chk_no (List.mem_append_right _ hx) hb).symm
theorem nextL_nexL (ls:List (Tm × Tm)) (s:Int):∀ (pre l:List Tm),nextL ls s pre l=some (nexL ls s pre l)∨(nextL ls s pre l=none∧∃ x,x∈nexL ls s pre l∧¬ x.size≤60)
  | pre,[]=>.inl (by rw [nextL,nexL])
  | pre,u :: us=>by
    rw [nextL,nexL,nextT_nexA ls u]
    cases hc:chk (nexA ls u) with
    | none =>
      obtain ⟨v,hv,hb⟩:=chk_none hc
      refine .inr ⟨rfl,.app s (pre++v :: us),List.mem_append_left _ (List.mem_map.2 ⟨v,hv,rfl⟩),?_⟩
      have:=mk_big s pre us v
      omega
    | some r =>
      obtain ⟨rfl,_⟩:=chk_some hc
      rw [Option.bind_some]
      rcases nextL_nexL ls s (pre++[u]) us with h|⟨h,x,hx,hb⟩
      · rw [h]
        exact .inl rfl
      · rw [h]
        exact .inr ⟨rfl,x,List.mem_append_right _ hx,hb⟩
end
theorem ltS_irrefl (x:ByteArray):¬ ltS x x:=fun h=>((ltS_iff x x).1 h).2 rfl
theorem sorted_ext:∀ l m:List ByteArray,l.Pairwise ltS→m.Pairwise ltS→(∀ x,x∈l↔x∈m)→l=m
  | [],[],_,_,_=>rfl
  | [],b :: m,_,_,h=>absurd ((h b).2 (by simp)) (by simp)
  | a :: l,[],_,_,h=>absurd ((h a).1 (by simp)) (by simp)
  | a :: l,b :: m,h1,h2,h=>by
    have ha:=List.pairwise_cons.1 h1
    have hb:=List.pairwise_cons.1 h2
    have e:a=b:=by
      rcases List.mem_cons.1 ((h a).1 (by simp)) with e|e
      · exact e
      · rcases List.mem_cons.1 ((h b).2 (by simp)) with e2|e2
        · exact e2.symm
        · exact absurd (ltS_trans (ha.1 b e2) (hb.1 a e)) (ltS_irrefl a)
    subst e
    rw [sorted_ext l m ha.2 hb.2 (fun x=>⟨fun hx=>?_,fun hx=>?_⟩)]
    · rcases List.mem_cons.1 ((h x).1 (List.mem_cons_of_mem _ hx)) with e|e
      · exact absurd (e ▸ ha.1 x hx) (ltS_irrefl _)
      · exact e
    · rcases List.mem_cons.1 ((h x).2 (List.mem_cons_of_mem _ hx)) with e|e
      · exact absurd (e ▸ hb.1 x hx) (ltS_irrefl _)
      · exact e
theorem mem_txs {x:ByteArray}:∀ {l:List Tm},x∈textsT l↔∃ v∈l,x=v.text
  | []=>by simp [textsT]
  | t :: l=>by
    rw [textsT,mem_insD,mem_txs]
    simp
theorem nxS_eq (ls:List (Tm × Tm)) (t:Tm):nxS ls t=textsT (nexA ls t):=sorted_ext _ _ (nxS_sorted ls t) (textsT_sorted _) (fun x=>by rw [mem_nxS,mem_txs])
mutual
theorem nexA_sz (ls:List (Tm × Tm)) (hls:LawsGood ls):∀ t:Tm,t.size≤60→∀ v,v∈nexA ls t→v.size≤720+t.size
  | .var c,hs,v,hv=>by
    rw [nexA] at hv
    have:=rootT_size hls hs hv
    have:=Tm.size_pos (.var c)
    omega
  | .app s l,hs,v,hv=>by
    rw [nexA,List.mem_append] at hv
    rcases hv with hv|hv
    · have:=rootT_size hls hs hv
      have:=Tm.size_pos (.app s l)
      omega
    · rw [Tm.size] at hs ⊢
      have:=nexL_sz ls hls s l [] (by omega) v hv
      rw [Tm.sizes] at this
      omega
theorem nexL_sz (ls:List (Tm × Tm)) (hls:LawsGood ls) (s:Int):∀ (l p:List Tm),Tm.sizes l≤60→∀ v,v∈nexL ls s p l→v.size≤720+(1+Tm.sizes p+Tm.sizes l)
  | [],p,hz,v,hv=>by rw [nexL] at hv;cases hv
  | u :: us,p,hz,v,hv=>by
    rw [Tm.sizes] at hz ⊢
    have h1:=Tm.sizes_nn us
    have h2:=Tm.size_pos u
    rw [nexL,List.mem_append,List.mem_map] at hv
    rcases hv with ⟨x,hx,rfl⟩|hv
    · have:=nexA_sz ls hls u (by omega) x hx
      rw [Tm.size,sizes_app,Tm.sizes]
      omega
    · have:=nexL_sz ls hls s us (p++[u]) (by omega) v hv
      rw [sizes_app,Tm.sizes,Tm.sizes] at this
      omega
end
def bigS (x:ByteArray):Bool:=decide ((cnt x.data.toList:Int) > 60)
theorem largeL (l:List ByteArray) (hl:l.length≤1000000) (hz:∀ x,x∈l→x.size≤1000000):∀ (n i:Nat),i+n=l.length→Evt (fun k=>nr_Large.l0 k l (i:Int)) ((l.drop i).any bigS)
  | 0,i,hi=>by
    rw [List.drop_of_length_le (by omega)]
    refine Evt.now fun k=>?_
    rw [nr_Large.l0,if_neg (by omega)]
    rfl
  | n+1,i,hi=>by
    have hil:i < l.length:=by omega
    have hw:wrap64 ((i:Int)+1)=((i+1:Nat):Int):=(wr (by omega) (by omega)).trans (by omega)
    have hzz:=hz l[i] (List.getElem_mem hil)
    have ih:=largeL l hl hz n (i+1) (by omega)
    rw [List.drop_eq_getElem_cons hil,List.any_cons]
    refine Evt.step (g':=fun k=>(nr_Size.f k l[i]).bind fun t=>(if t > 60 then (some true) else (nr_Large.l0 k l ((i+1:Nat):Int)))) (fun k=>?_) ?_
    · rw [nr_Large.l0,if_pos (by omega),if_pos (by omega),rdOf_at l i hil,hw]
    · refine Evt.bind (sizeE' l[i] (by omega)) ?_
      unfold bigS
      by_cases h:(cnt l[i].data.toList:Int) > 60
      · rw [decide_eq_true h]
        exact Evt.pos h (Evt.all fun _=>rfl)
      · rw [decide_eq_false h]
        exact Evt.neg h ih
theorem largeRE (l:List ByteArray) (hl:l.length≤1000000) (hz:∀ x,x∈l→x.size≤1000000):Evt (fun k=>nr_Large.f k l) (l.any bigS):=largeL l hl hz l.length 0 (by omega)
theorem big_text {v:Tm} (hg:v.good):bigS v.text=decide (¬ v.size≤60):=by
  unfold bigS
  rw [text_data,cnt_tx v hg]
  by_cases h:v.size≤60
  · rw [decide_eq_false (by omega),decide_eq_false (by simpa using h)]
  · rw [decide_eq_true (by omega),decide_eq_true h]
theorem next_ref {ls:List (Tm × Tm)} (hls:LawsGood ls) {t:Tm} (hg:t.good) (hs:t.size≤60):((nxS ls t).any bigS=false∧nextT ls t=some (nexA ls t))∨((nxS ls t).any bigS=true∧nextT ls t=none):=by
  rw [nextT_nexA]
  have hgd:=nexA_good ls hls t hg (by omega)
  cases hb:(nxS ls t).any bigS with
  | false =>
    refine .inl ⟨rfl,chk_ok fun v hv=>Classical.byContradiction fun hn=>?_⟩
    have:(nxS ls t).any bigS=true:=List.any_eq_true.2 ⟨v.text,mem_nxS.2 ⟨v,hv,rfl⟩,by rw [big_text (hgd v hv)];exact decide_eq_true hn⟩
    rw [hb] at this
    cases this
  | true =>
    obtain ⟨x,hx,hbx⟩:=List.any_eq_true.1 hb
    obtain ⟨v,hv,rfl⟩:=mem_nxS.1 hx
    rw [big_text (hgd v hv),decide_eq_true_eq] at hbx
    exact .inr ⟨rfl,chk_no hv hbx⟩
theorem nxS_small {ls:List (Tm × Tm)} (hls:LawsGood ls) {t:Tm} (hs:t.size≤60):∀ x,x∈nxS ls t→x.size≤1000000:=fun x hx=>by
  obtain ⟨v,hv,rfl⟩:=mem_nxS.1 hx
  have:=nexA_sz ls hls t hs v hv
  have:=text_le (t:=v) (by omega)
  omega
end Go.Proofs.YtaafeallcaiooaaGreat.Pr
namespace Go.Proofs.YtaafeallcaiooaaGreat.Pr
set_option linter.unusedVariables false
instance decMem (x:ByteArray) (l:List ByteArray):Decidable (x∈l):=decidable_of_iff (l.any (fun y=>decide (y=x))=true) (by simp)
theorem nodup_le:∀ (L M:List ByteArray),L.Nodup→(∀ x,x∈L→x∈M)→L.length≤M.length
  | [],M,_,_=>Nat.zero_le _
  | a :: L,M,hn,h=>by
    have hn2:=List.nodup_cons.1 hn
    have ha:a∈M:=h a (by simp)
    obtain ⟨s,t,rfl⟩:=List.append_of_mem ha
    have ih:=nodup_le L (s++t) hn2.2 fun x hx=>by
      have h1:=h x (by simp [hx])
      have h2:x≠a:=fun e=>hn2.1 (e ▸ hx)
      simp only [List.mem_append,List.mem_cons] at h1 ⊢
      rcases h1 with h1|h1|h1
      · exact .inl h1
      · exact absurd h1 h2
      · exact .inr h1
    simp only [List.length_append,List.length_cons] at ih ⊢
    omega
theorem nodup_perm:∀ {L M:List ByteArray},L.Nodup→M.Nodup→(∀ x,x∈L↔x∈M)→L.Perm M
  | [],M,_,_,h=>by
    cases M with
    | nil=>exact List.Perm.nil
    | cons a M=>exact absurd ((h a).2 (by simp)) (by simp)
  | a :: L,M,hn,hm,h=>by
    have hn2:=List.nodup_cons.1 hn
    obtain ⟨s,t,rfl⟩:=List.append_of_mem ((h a).1 (by simp))
    have hp:(s++a :: t).Perm (a :: (s++t)):=List.perm_middle
    have hm2:=List.nodup_cons.1 (hp.nodup_iff.1 hm)
    refine (List.Perm.cons a (nodup_perm hn2.2 hm2.2 fun x=>?_)).trans hp.symm
    have h1:=h x
    simp only [List.mem_append,List.mem_cons] at h1 ⊢
    constructor
    · intro hx
      have hne:x≠a:=fun e=>hn2.1 (e ▸ hx)
      rcases h1.1 (.inr hx) with h2|h2|h2
      · exact .inl h2
      · exact absurd h2 hne
      · exact .inr h2
    · intro hx
      have hne:x≠a:=fun e=>hm2.1 (e ▸ List.mem_append.2 hx)
      have h3:x∈s∨x=a∨x∈t:=by
        rcases hx with hx|hx
        · exact .inl hx
        · exact .inr (.inr hx)
      exact (h1.2 h3).resolve_left hne
open Go.RowKit Go.Proofs.Zw Go.Proofs.Zl Go.Proofs.Zm
def nextS (ls:List (Tm × Tm)) (s:ByteArray):Option (List ByteArray):=(readT s).bind fun t=>(nextT ls t).map textsT
def freshS (out:List ByteArray):List ByteArray→List ByteArray→List ByteArray
 | fr,[]=>fr
 | fr,u :: us=>freshS out (if u∈out++fr then fr else fr++[u]) us
def levelS (ls:List (Tm × Tm)) (out:List ByteArray):List ByteArray→List ByteArray→Option (List ByteArray)
 | fr,[]=>some fr
 | fr,s :: ss=>(nextS ls s).bind fun us=>levelS ls out (freshS out fr us) ss
def sortS (l:List ByteArray):List ByteArray:=l.foldr insD []
def reachS (ls:List (Tm × Tm)):Nat→List ByteArray→List ByteArray→Option (List ByteArray)
 | 0,done,last=>some (done++last)
 | k+1,done,last=>(levelS ls (done++last) [] last).bind fun fr=>if (done++last++sortS fr).length≤300 then reachS ls k (done++last) (sortS fr) else none
def comesS (t:Tm) (u:ByteArray):Bool:=match readT u with
 | some v=>comesT t v
 | none=>false
def stepW (t:Tm) (w:List ByteArray):List ByteArray→List (List ByteArray)→List ByteArray→List ByteArray ⊕ (List ByteArray × List (List ByteArray))
 | known,more,[]=>.inr (known,more)
 | known,more,u :: us=>if comesS t u then .inl (w++[u]) else if u∈known then stepW t w known more us else stepW t w (known++[u]) (more++[w++[u]]) us
def levelW (ls:List (Tm × Tm)) (t:Tm):List ByteArray→List (List ByteArray)→List (List ByteArray)→Option (List ByteArray ⊕ (List ByteArray × List (List ByteArray)))
 | known,more,[]=>some (.inr (known,more))
 | known,more,w :: ws=>(nextS ls (w.getLastD ⟨#[]⟩)).bind fun us=>match stepW t w known more us with
  | .inl r=>some (.inl r)
  | .inr p=>levelW ls t p.1 p.2 ws
def loopW (ls:List (Tm × Tm)) (t:Tm):Nat→List ByteArray→List (List ByteArray)→Int × List ByteArray
 | 0,known,ways=>(6,[])
 | k+1,known,ways=>match levelW ls t known [] ways with
  | none=>(5,[])
  | some (.inl r)=>(0,r)
  | some (.inr p)=>loopW ls t k p.1 p.2
def isTx (s:ByteArray):Prop:=∃ t:Tm,t.good∧t.size≤60∧s=t.text
theorem isTx_read {s:ByteArray} (h:isTx s):∃ t,readT s=some t∧t.good∧t.size≤60∧s=t.text:=by
 obtain ⟨t,h1,h2,h3⟩:=h
 exact ⟨t,readT_iff.2 ⟨h1,h2,h3⟩,h1,h2,h3⟩
theorem nextS_text {ls:List (Tm × Tm)} {t:Tm} (hg:t.good) (hs:t.size≤60):nextS ls t.text=(nextT ls t).map textsT:=by
 unfold nextS
 rw [readT_back hg hs,Option.bind_some]
theorem nextS_mem {ls:List (Tm × Tm)} (hls:LawsGood ls) {s:ByteArray} {us:List ByteArray} (h:nextS ls s=some us):∃ t,readT s=some t∧nextT ls t=some (nexA ls t)∧us=textsT (nexA ls t)∧(∀ u,u∈us↔∃ v∈nexA ls t,u=v.text)∧∀ v∈nexA ls t,v.good∧v.size≤60:=by
 unfold nextS at h
 cases hr:readT s with
 | none=>rw [hr] at h;cases h
 | some t =>
  have hg:=readT_good hr
  rw [hr,Option.bind_some] at h
  cases hn:nextT ls t with
  | none=>rw [hn] at h;cases h
  | some r =>
   rw [hn] at h
   injection h with h
   have hn2:=hn
   rw [nextT_nexA] at hn2
   obtain ⟨rfl,hz⟩:=chk_some hn2
   refine ⟨t,rfl,hn,h.symm,fun u=>?_,fun v hv=>⟨nexA_good ls hls t hg.1 (by omega) v hv,hz v hv⟩⟩
   rw [←h]
   exact mem_txs
theorem nextS_isTx {ls:List (Tm × Tm)} (hls:LawsGood ls) {s:ByteArray} {us:List ByteArray} (h:nextS ls s=some us):∀ u,u∈us→isTx u:=fun u hu=>by
 obtain ⟨t,_,_,_,h1,h2⟩:=nextS_mem hls h
 obtain ⟨v,hv,rfl⟩:=(h1 u).1 hu
 exact ⟨v,(h2 v hv).1,(h2 v hv).2,rfl⟩
theorem mem_fresh (out:List ByteArray) (x:ByteArray):∀ (us fr:List ByteArray),x∈freshS out fr us↔x∈fr∨(x∈us∧x∉out)
 | [],fr=>by rw [freshS];simp
 | u :: us,fr=>by
  rw [freshS,mem_fresh out x us]
  by_cases h:u∈out++fr
  ·rw [if_pos h]
   constructor
   ·rintro (h1|⟨h1,h2⟩)
    ·exact .inl h1
    ·exact .inr ⟨List.mem_cons_of_mem _ h1,h2⟩
   ·rintro (h1|⟨h1,h2⟩)
    ·exact .inl h1
    ·rcases List.mem_cons.1 h1 with rfl|h1
     ·exact .inl ((List.mem_append.1 h).resolve_left h2)
     ·exact .inr ⟨h1,h2⟩
  ·rw [if_neg h]
   constructor
   ·rintro (h1|⟨h1,h2⟩)
    ·rcases List.mem_append.1 h1 with h1|h1
     ·exact .inl h1
     ·obtain rfl:=List.mem_singleton.1 h1
      exact .inr ⟨List.mem_cons_self ..,fun h2=>h (List.mem_append_left _ h2)⟩
    ·exact .inr ⟨List.mem_cons_of_mem _ h1,h2⟩
   ·rintro (h1|⟨h1,h2⟩)
    ·exact .inl (List.mem_append_left _ h1)
    ·rcases List.mem_cons.1 h1 with rfl|h1
     ·exact .inl (by simp)
     ·exact .inr ⟨h1,h2⟩
theorem fresh_nodup (out:List ByteArray):∀ (us fr:List ByteArray),fr.Nodup→(freshS out fr us).Nodup
 | [],fr,h=>by rw [freshS];exact h
 | u :: us,fr,h=>by
  rw [freshS]
  refine fresh_nodup out us _ ?_
  by_cases hu:u∈out++fr
  ·rw [if_pos hu];exact h
  ·rw [if_neg hu]
   refine List.nodup_append.2 ⟨h,by simp,fun a ha b hb e=>?_⟩
   obtain rfl:=List.mem_singleton.1 hb
   subst e
   exact hu (List.mem_append_right _ ha)
theorem mem_level (ls:List (Tm × Tm)) (out:List ByteArray) (x:ByteArray):∀ (ss fr r:List ByteArray),levelS ls out fr ss=some r→(x∈r↔x∈fr∨(x∉out∧∃ s∈ss,∃ us,nextS ls s=some us∧x∈us))
 | [],fr,r,h=>by
  rw [levelS] at h
  injection h with h
  subst h
  simp
 | s :: ss,fr,r,h=>by
  rw [levelS] at h
  cases hn:nextS ls s with
  | none=>rw [hn] at h;cases h
  | some us =>
   rw [hn,Option.bind_some] at h
   rw [mem_level ls out x ss _ r h,mem_fresh]
   constructor
   ·rintro ((h1|⟨h1,h2⟩)|⟨h1,s',h2,us',h3,h4⟩)
    ·exact .inl h1
    ·exact .inr ⟨h2,s,by simp,us,hn,h1⟩
    ·exact .inr ⟨h1,s',List.mem_cons_of_mem _ h2,us',h3,h4⟩
   ·rintro (h1|⟨h1,s',h2,us',h3,h4⟩)
    ·exact .inl (.inl h1)
    ·rcases List.mem_cons.1 h2 with rfl|h2
     ·rw [hn] at h3
      injection h3 with h3
      subst h3
      exact .inl (.inr ⟨h4,h1⟩)
     ·exact .inr ⟨h1,s',h2,us',h3,h4⟩
theorem level_next (ls:List (Tm × Tm)) (out:List ByteArray):∀ (ss fr r:List ByteArray),levelS ls out fr ss=some r→∀ s,s∈ss→∃ us,nextS ls s=some us
 | [],fr,r,h,s,hs=>by cases hs
 | s :: ss,fr,r,h,s',hs=>by
  rw [levelS] at h
  cases hn:nextS ls s with
  | none=>rw [hn] at h;cases h
  | some us =>
   rw [hn,Option.bind_some] at h
   rcases List.mem_cons.1 hs with rfl|hs
   ·exact ⟨us,hn⟩
   ·exact level_next ls out ss _ r h s' hs
theorem level_nodup (ls:List (Tm × Tm)) (out:List ByteArray):∀ (ss fr r:List ByteArray),levelS ls out fr ss=some r→fr.Nodup→r.Nodup
 | [],fr,r,h,hd=>by
  rw [levelS] at h
  injection h with h
  subst h
  exact hd
 | s :: ss,fr,r,h,hd=>by
  rw [levelS] at h
  cases hn:nextS ls s with
  | none=>rw [hn] at h;cases h
  | some us =>
   rw [hn,Option.bind_some] at h
   exact level_nodup ls out ss _ r h (fresh_nodup out us fr hd)
theorem mem_sortS {x:ByteArray}:∀ {l:List ByteArray},x∈sortS l↔x∈l
 | []=>Iff.rfl
 | y :: l=>by
  show x∈insD y (sortS l)↔_
  rw [mem_insD,mem_sortS,List.mem_cons]
theorem sortS_sorted:∀ l,(sortS l).Pairwise ltS
 | []=>List.Pairwise.nil
 | y :: l=>insD_sorted y (sortS_sorted l)
theorem sorted_nodup {l:List ByteArray} (h:l.Pairwise ltS):l.Nodup:=h.imp fun {a b} h e=>by subst e;exact ltS_irrefl a h
theorem sortS_nodup (l:List ByteArray):(sortS l).Nodup:=sorted_nodup (sortS_sorted l)
theorem sortS_perm {l:List ByteArray} (h:l.Nodup):(sortS l).Perm l:=nodup_perm (sortS_nodup l) h fun x=>mem_sortS
theorem sortS_len {l:List ByteArray} (h:l.Nodup):(sortS l).length=l.length:=(sortS_perm h).length_eq
end Go.Proofs.YtaafeallcaiooaaGreat.Pr
