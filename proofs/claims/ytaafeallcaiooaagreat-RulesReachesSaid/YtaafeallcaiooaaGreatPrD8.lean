import Derived.Test.YtaafeallcaiooaaGreatPr0
import Derived.Test.YtaafeallcaiooaaGreatPrA5
import Derived.Test.YtaafeallcaiooaaGreatPrD1
import Derived.Test.YtaafeallcaiooaaGreatPrD2
namespace Go.Proofs.YtaafeallcaiooaaGreat.Pr
open Go.RowKit Go.Proofs.Zw Go.Proofs.Zl Go.Proofs.Zm
attribute [local go_sem] max2_int min2_int max_two min_two max_three min_three max_four min_four
set_option linter.unusedVariables false
set_option linter.unusedSimpArgs false
mutual
noncomputable def nr_Shortest.l0:Nat→List (S94)→ByteArray→Int→List ByteArray→Int→Option (Int)
 | 0,_,_,_,_,_=>none
 | k+1,x0,x1,x2,x7,x8=>if x8≤x2 then (nr_Shortest.l1 k x0 x1 x2 x7 x8 ([]:List ByteArray) 0) else (some 0)
noncomputable def nr_Shortest.l1:Nat→List (S94)→ByteArray→Int→List ByteArray→Int→List ByteArray→Int→Option (Int)
 | 0,_,_,_,_,_,_,_=>none
 | k+1,x0,x1,x2,x7,x8,x9,x10=>if x10 < (x7.length:Int) then (if 0≤x10 then ((nr_Next.f k x0 (rdOf ByteArray.empty x7 x10)).bind fun t672=>(nr_Shortest.l2 k x0 x1 x2 x7 x8 x9 x10 t672 0)) else (none)) else (nr_Shortest.l0 k x0 x1 x2 x9 (wrap64 (x8+1)))
noncomputable def nr_Shortest.l2:Nat→List (S94)→ByteArray→Int→List ByteArray→Int→List ByteArray→Int→List ByteArray→Int→Option (Int)
 | 0,_,_,_,_,_,_,_,_,_=>none
 | k+1,x0,x1,x2,x7,x8,x9,x10,x11,x12=>if x12 < (x11.length:Int) then (if 0≤x12 then ((nr_insert.f k x9 (rdOf ByteArray.empty x11 x12)).bind fun t676=>((nr_Returns.f k x1 (rdOf ByteArray.empty x11 x12)).bind fun t680=>(if t680=true then (some x8) else (nr_Shortest.l2 k x0 x1 x2 x7 x8 t676 x10 x11 (wrap64 (x12+1)))))) else (none)) else (nr_Shortest.l1 k x0 x1 x2 x7 x8 x9 (wrap64 (x10+1)))
end
noncomputable def nr_Shortest.f (k:Nat) (l0:List (S94)) (a1:ByteArray) (a2:Int):Option (Int):=nr_Shortest.l0 k l0 a1 a2 (([a1]:List ByteArray)) 1
set_option maxHeartbeats 8000000 in
set_option maxRecDepth 100000 in
theorem nr_Shortest.calls (k:Nat) (A0:Option Addr) (c0:Nat) (l0:List (S94)) (a1:ByteArray) (a2:Int) (r:Int) (w:World) (hr0:Kd.C k94 w A0 l0.length l0) (hc0:l0.length≤c0) (h:nr_Shortest.f k l0 a1 a2=some r) :
  Calls Tryz.prog 59 #[.slice A0 l0.length c0,.string a1,.int .i64 a2] w fun e w'=>e=.returned (.int .i64 r)∧Below w.heap.size w w':=by
 have HR0:=Aside0.mk hr0
 have HC0:=Aside0.mk hc0
 clear hr0 hc0
 have HB:=Aside0.mk (Below.refl w.heap.size w)
 have H:(nr_Shortest.l0 k l0 a1 a2 (([a1]:List ByteArray)) 1)=some r:=h
 clear h
 obtain ⟨y668,hy668⟩:∃ y_:List ByteArray,y_=(([a1]:List ByteArray)):=⟨_,rfl⟩
 replace H:(nr_Shortest.l0 k l0 a1 a2 y668 1)=some r:=by first|(rw [hy668];with_reducible exact H)|(have H2_:=(Option.bind_some _ _).symm.trans H;rw [hy668];with_reducible exact H2_)|(have H2_:=(Option.bind_some _ _).symm.trans H;with_reducible exact H2_)|with_reducible exact H|(rw [hy668];exact H)|exact H
 have Ny668:=Aside0.mk hy668
 clear hy668
 have H':=Aside0.mk H
 clear H
 go_enter Tryz.func59,Tryz.ntmps59
 go_wp2_with (first|((with_reducible refine gate_dst (N:=14) rfl ?_);refine Kd.R_lit Kd.string _ 9 ?hg (N:=14) ?hd (xs:=([a1]:List ByteArray)) (inner:=[.string a1]) (ok:=fun _=>True) (okp:=fun _=>True) ?hr ?hp (fun _ hk=>hk) trivial (Below.refl _ _) (Nat.le_refl _) (by simp) ?_;(case hd=>rfl);(case hg=>rfl);(case hr=>first|(go_simp;done)|(go_simp;rfl));(case hp=>exact (Reps.one (show Kd.M Kd.string _ _ _ a1 [.string a1] from rfl) (Reps.none _ _)));intro v669 w4 ho5 hb hg_ hnew_;clear hg_ hnew_;(first|rw [←Ny668.out] at ho5|(simp only [Int.reduceToNat] at ho5;rw [←Ny668.out] at ho5));have n0_:=Aside0.mk (Kd.R_lower ho5 (below_size (tB_ HB)));have n1_:=Aside0.mk (below_step (tB_ HB) hb);clear HB;have HO670:=n0_;have HB:=n1_;clear n0_ n1_;clear hb ho5))
 go_loopg [7,8] k (fun kq v7 v8 w'=>∃ (x7_1:List ByteArray) (x8_1:Int),v8=.int .i64 x8_1∧Aside0 (nr_Shortest.l0 kq l0 a1 a2 x7_1 x8_1=some r)∧Aside0 (kq≤k)∧Aside0 (Kd.R Kd.string 9 w' w.heap.size (fun _=>True) v7 x7_1)∧Aside0 (Below w.heap.size w w'))
 case atStart=>exact ⟨(y668),(1),tS_,H',⟨Nat.le_refl _⟩,⟨tR_ HO670⟩,⟨tB_ HB⟩⟩
 case round =>
  clear H'
  try clear p2
  try clear c5
  obtain ⟨x7_1,x8_1,rfl,HA,HK1,HO_7,HB⟩:=hrel
  cases gk with
  | zero=>exact absurd HA.out (by simp [nr_Shortest.l0])
  | succ k1 =>
   have H:=HA.out
   clear HA
   simp only [nr_Shortest.l0] at H
   by_cases c6:x8_1≤a2
   ·rw [if_pos c6] at H
    have c6b0:decide (x8_1≤a2)=true:=decide_eq_true c6
    clear c6
    have H':=Aside0.mk H
    clear H
    go_wp2
    go_loopg [9,10] k1 (fun kq v9 v10 w'=>∃ (x9_2:List ByteArray) (x10_2:Int),v10=.int .i64 x10_2∧Aside0 (nr_Shortest.l1 kq l0 a1 a2 x7_1 x8_1 x9_2 x10_2=some r)∧Aside0 (kq≤k1)∧Aside0 (Kd.R Kd.string 9 w' w.heap.size (fun k_=>some k_≠(v9:Value).ownBlock) u7 x7_1)∧Aside0 (Kd.R Kd.string 9 w' w.heap.size (fun k_=>some k_≠(u7:Value).ownBlock) v9 x9_2)∧Aside0 (Below w.heap.size w w'))
    case atStart=>exact ⟨(([]:List ByteArray)),(0),tS_,H',⟨Nat.le_refl _⟩,⟨by (with_reducible repeat (first|apply Kd.R_alloc|apply Kd.R_drewN|apply Kd.R_drew));exact Kd.R_mono HO_7.out (fun _ hk=>(by simp [Value.ownBlock]))⟩,⟨by first|exact Kd.R_nil _ _ _ _ _|exact Kd.N_nil _ _ _ _ _|exact Kd.V_nil _ _ _ _ _|exact Kd.Q_nil _ _ _ _ _|exact Kd.S_nil _ _ _ _ _⟩,⟨tB_ HB⟩⟩
    case round =>
     clear H'
     try clear p2
     try clear c5
     try clear c6
     try clear c6b0
     try clear p2
     obtain ⟨x9_2,x10_2,rfl,HA,HK2,HO_7,HO_9,HB⟩:=hrel
     cases gk with
     | zero=>exact absurd HA.out (by simp [nr_Shortest.l1])
     | succ k2 =>
      have H:=HA.out
      clear HA
      simp only [nr_Shortest.l1] at H
      by_cases c7:x10_2 < (x7_1.length:Int)
      ·rw [if_pos c7] at H
       have c7b0:decide (x10_2 < (x7_1.length:Int))=true:=decide_eq_true c7
       clear c7
       by_cases c8:0≤x10_2
       ·rw [if_pos c8] at H
        have c8b0:decide (0≤x10_2)=true:=decide_eq_true c8
        clear c8
        replace H:=Option.bind_eq_some_iff.mp H
        obtain ⟨t672,A90,H⟩:=H
        replace H:(nr_Shortest.l2 k2 l0 a1 a2 x7_1 x8_1 x9_2 x10_2 t672 0)=some r:=H
        have A9:=Aside0.mk A90
        clear A90
        have H':=Aside0.mk H
        clear H
        obtain ⟨Ao10,co10,eo10⟩:=Kd.R_slice HO_7.out
        subst eo10
        have p671:0≤(x10_2:Int):=oT_
        have q671:x10_2 < (x7_1.length:Int):=oT_
        obtain ⟨ad671,e671,hx671_0⟩:=Kd.at_string (Kd.R_reads' HO_7.out).2.2 x10_2 p671 q671
        cases e671
        replace p671:=eq_true p671
        replace q671:=eq_true q671
        go_wp2_with (first|((with_reducible refine gate_callee (f:=51) rfl ?_);refine goesL_ (some 31) rfl rfl Tryz.func51 (by kernel_rfl) rfl #[.slice A0 l0.length c0,.string (rdOf ByteArray.empty x7_1 x10_2)] rfl tM_ ?_;(with_reducible refine (nr_Next.calls k2 _ _ l0 (rdOf ByteArray.empty x7_1 x10_2) t672 _ ?side1 ?side2 A9.out).mono ?_);(case side1=>repeat (first|exact (Kd.C_below HR0.out HB.out)|(with_reducible refine Kd.C_alloc ?_ _)|(with_reducible refine Kd.C_drewN ?_ _)|(with_reducible refine Kd.C_drew ?_)));(case side2=>exact HC0.out);rintro e w11 ⟨v673,rfl,ho0,hb⟩;refine ⟨_,rfl,?_⟩;have n0_:=Aside0.mk (Kd.R_elder' (tR_ HO_7) (Kd.R_base ho0) hb);have n1_:=Aside0.mk (Kd.R_elder' (tR_ HO_9) (Kd.R_base ho0) hb);have n2_:=Aside0.mk (Kd.R_lower (Kd.R_new' (Kd.R_new' ho0 (Kd.R_lt (tR_ HO_7))) (Kd.R_lt (tR_ HO_9))) (below_size (tB_ HB)));have n3_:=Aside0.mk (below_step (tB_ HB) hb);clear HO_7;clear HO_9;clear HB;have HO_7:=n0_;have HO_9:=n1_;have HO674:=n2_;have HB:=n3_;clear n0_ n1_ n2_ n3_;(try clear hb);(try clear hb2);(try clear hk);(try clear hi);(try clear ho0)))
        go_loopg [9,12] k2 (fun kq v9 v12 w'=>∃ (x9_3:List ByteArray) (x12_3:Int),v12=.int .i64 x12_3∧Aside0 (nr_Shortest.l2 kq l0 a1 a2 x7_1 x8_1 x9_3 x10_2 t672 x12_3=some r)∧Aside0 (kq≤k2)∧Aside0 (Kd.R Kd.string 9 w' w.heap.size (fun k_=>some k_≠(v9:Value).ownBlock∧some k_≠(v673:Value).ownBlock) (.slice (some ad671) x7_1.length co10) x7_1)∧Aside0 (Kd.R Kd.string 9 w' w.heap.size (fun k_=>some k_≠((.slice (some ad671) x7_1.length co10):Value).ownBlock∧some k_≠(v673:Value).ownBlock) v9 x9_3)∧Aside0 (Kd.R Kd.string 9 w' w.heap.size (fun k_=>some k_≠((.slice (some ad671) x7_1.length co10):Value).ownBlock∧some k_≠(v9:Value).ownBlock) v673 t672)∧Aside0 (Below w.heap.size w w'))
        case atStart=>exact ⟨(x9_2),(0),tS_,H',⟨Nat.le_refl _⟩,⟨tR_ HO_7⟩,⟨tR_ HO_9⟩,⟨by (with_reducible repeat (first|apply Kd.R_alloc|apply Kd.R_drewN|apply Kd.R_drew));exact Kd.R_mono HO674.out (fun _ hk=>⟨hk.1.2,hk.2⟩)⟩,⟨tB_ HB⟩⟩
        case round =>
         clear H'
         try clear p2
         try clear c5
         try clear c6
         try clear c6b0
         try clear p6
         try clear q6
         try clear hx6
         try clear c7
         try clear c7b0
         try clear c8
         try clear c8b0
         try clear hx671_0
         try clear p2
         try clear p671
         try clear q671
         obtain ⟨x9_3,x12_3,rfl,HA,HK3,HO_7,HO_9,HO_11,HB⟩:=hrel
         cases gk with
         | zero=>exact absurd HA.out (by simp [nr_Shortest.l2])
         | succ k3 =>
          have H:=HA.out
          clear HA
          simp only [nr_Shortest.l2] at H
          by_cases c12:x12_3 < (t672.length:Int)
          ·rw [if_pos c12] at H
           have c12b0:decide (x12_3 < (t672.length:Int))=true:=decide_eq_true c12
           clear c12
           by_cases c13:0≤x12_3
           ·rw [if_pos c13] at H
            have c13b0:decide (0≤x12_3)=true:=decide_eq_true c13
            clear c13
            replace H:=Option.bind_eq_some_iff.mp H
            obtain ⟨t676,A140,H⟩:=H
            replace H:((nr_Returns.f k3 a1 (rdOf ByteArray.empty t672 x12_3)).bind fun t680=>(if t680=true then (some x8_1) else (nr_Shortest.l2 k3 l0 a1 a2 x7_1 x8_1 t676 x10_2 t672 (wrap64 (x12_3+1)))))=some r:=H
            have A14:=Aside0.mk A140
            clear A140
            replace H:=Option.bind_eq_some_iff.mp H
            obtain ⟨t680,A150,H⟩:=H
            replace H:(if t680=true then (some x8_1) else (nr_Shortest.l2 k3 l0 a1 a2 x7_1 x8_1 t676 x10_2 t672 (wrap64 (x12_3+1))))=some r:=H
            have A15:=Aside0.mk A150
            clear A150
            by_cases c16:t680=true
            ·subst c16
             have H1:(some x8_1)=some r:=by rw [if_pos rfl] at H;exact H
             clear H
             have H:=H1
             clear H1
             obtain rfl:=Option.some.inj H
             obtain ⟨Ao17,co17,eo17⟩:=Kd.R_slice HO_11.out
             subst eo17
             have p675:0≤(x12_3:Int):=oT_
             have q675:x12_3 < (t672.length:Int):=oT_
             obtain ⟨ad675,e675,hx675_0⟩:=Kd.at_string (Kd.R_reads' HO_11.out).2.2 x12_3 p675 q675
             cases e675
             replace p675:=eq_true p675
             replace q675:=eq_true q675
             obtain ⟨Ao18,co18,eo18⟩:=Kd.R_slice HO_9.out
             subst eo18
             go_wp2_with (first|((with_reducible refine gate_callee (f:=103) rfl ?_);refine goesL_ (some 43) rfl rfl Tryz.func103 (by kernel_rfl) rfl #[.slice Ao18 x9_3.length co18,.string (rdOf ByteArray.empty t672 x12_3)] rfl tM_ ?_;(with_reducible refine (nr_insert.calls k3 (fun k_=>some k_=(.slice Ao18 x9_3.length co18:Value).ownBlock) (.slice Ao18 x9_3.length co18) x9_3 (rdOf ByteArray.empty t672 x12_3) t676 w _ ?side1 ?side2 A14.out).mono ?_);(case side1=>repeat (first|(with_reducible first|exact HB.out|apply below_alloc|apply pw_below_drewN|apply below_drew1)|exact HB.out));(case side2=>exact Kd.R_tight rfl HO_9.out);rintro e w19 ⟨v677,rfl,ho0,hb,hkp⟩;refine ⟨_,rfl,?_⟩;have n0_:=Aside0.mk (Kd.R_mono (ok':=fun k_=>some k_≠(.slice (some ad675) t672.length co17:Value).ownBlock∧some k_≠(v677:Value).ownBlock) (Kd.R_keptB (HO_7.out) hkp (fun k_ hk_ hs_=>(hk_.1) hs_)) (fun k_ hk_=>⟨hk_.1.2,fun e_=>Or.elim (ho0.1 k_ e_.symm) (fun hs_=>hk_.2.1 hs_) (fun hn_=>Nat.not_le.2 hk_.2.2 hn_)⟩));have n1_:=Aside0.mk (Kd.R_mono (ok':=fun k_=>some k_≠(.slice (some ad671) x7_1.length co10:Value).ownBlock∧some k_≠(v677:Value).ownBlock) (Kd.R_keptB (HO_11.out) hkp (fun k_ hk_ hs_=>(hk_.2) hs_)) (fun k_ hk_=>⟨hk_.1.1,fun e_=>Or.elim (ho0.1 k_ e_.symm) (fun hs_=>hk_.2.1 hs_) (fun hn_=>Nat.not_le.2 hk_.2.2 hn_)⟩));have n2_:=Aside0.mk (Kd.R_mono (ok':=fun k_=>some k_≠(.slice (some ad671) x7_1.length co10:Value).ownBlock∧some k_≠(.slice (some ad675) t672.length co17:Value).ownBlock) ho0 (fun k_ hk_=>⟨Or.elim hk_ (fun hs_=>fun e_=>(((HO_7.out).1 k_ e_.symm).1) hs_) (fun hn_=>(Kd.fresh' (Kd.R_lt (tR_ HO_7)) k_ hn_)),Or.elim hk_ (fun hs_=>fun e_=>(((HO_11.out).1 k_ e_.symm).2) hs_) (fun hn_=>(Kd.fresh' (Kd.R_lt (tR_ HO_11)) k_ hn_))⟩));have n3_:=Aside0.mk (hb);clear HO_7;clear HO_11;clear HB;clear HO_9;have HO_7:=n0_;have HO_11:=n1_;have HO678:=n2_;have HB:=n3_;clear n0_ n1_ n2_ n3_;(try clear hb);(try clear hkp);(try clear ho0);have p679:0≤(x12_3:Int):=oT_;have q679:x12_3 < (t672.length:Int):=oT_;obtain ⟨ad679,e679,hx679_0⟩:=Kd.at_string (Kd.R_reads' HO_11.out).2.2 x12_3 p679 q679;obtain rfl:ad675=ad679:=(by injection e679);replace p679:=eq_true p679;replace q679:=eq_true q679)|((with_reducible refine gate_callee (f:=82) rfl ?_);refine goesL_ (some 49) rfl rfl Tryz.func82 (by kernel_rfl) rfl #[.string a1,.string (rdOf ByteArray.empty t672 x12_3)] rfl tM_ ?_;(with_reducible refine (nr_Returns.calls k3 a1 (rdOf ByteArray.empty t672 x12_3) true _ A15.out).mono ?_);rintro e w20 ⟨rfl,hb⟩;refine ⟨_,rfl,?_⟩;have n0_:=Aside0.mk (Kd.R_below (tR_ HO_7) hb);have n1_:=Aside0.mk (Kd.R_below (tR_ HO_11) hb);have n2_:=Aside0.mk (Kd.R_below (tR_ HO678) hb);have n3_:=Aside0.mk (below_step (tB_ HB) hb);clear HO_7;clear HO_11;clear HO678;clear HB;have HO_7:=n0_;have HO_11:=n1_;have HO678:=n2_;have HB:=n3_;clear n0_ n1_ n2_ n3_;(try clear hb);(try clear hb2);(try clear hk);(try clear hi)))
             go_ret
             exact ⟨tE_,tB_ HB⟩
            ·replace c16:=Bool.eq_false_iff.mpr c16
             subst c16
             have H1:(nr_Shortest.l2 k3 l0 a1 a2 x7_1 x8_1 t676 x10_2 t672 (wrap64 (x12_3+1)))=some r:=by rw [if_neg (show ¬ (false=true) by decide)] at H;exact H
             clear H
             have H:=H1
             clear H1
             have H':=Aside0.mk H
             clear H
             obtain ⟨Ao21,co21,eo21⟩:=Kd.R_slice HO_11.out
             subst eo21
             have p675:0≤(x12_3:Int):=oT_
             have q675:x12_3 < (t672.length:Int):=oT_
             obtain ⟨ad675,e675,hx675_0⟩:=Kd.at_string (Kd.R_reads' HO_11.out).2.2 x12_3 p675 q675
             cases e675
             replace p675:=eq_true p675
             replace q675:=eq_true q675
             obtain ⟨Ao22,co22,eo22⟩:=Kd.R_slice HO_9.out
             subst eo22
             go_wp2_with (first|((with_reducible refine gate_callee (f:=103) rfl ?_);refine goesL_ (some 43) rfl rfl Tryz.func103 (by kernel_rfl) rfl #[.slice Ao22 x9_3.length co22,.string (rdOf ByteArray.empty t672 x12_3)] rfl tM_ ?_;(with_reducible refine (nr_insert.calls k3 (fun k_=>some k_=(.slice Ao22 x9_3.length co22:Value).ownBlock) (.slice Ao22 x9_3.length co22) x9_3 (rdOf ByteArray.empty t672 x12_3) t676 w _ ?side1 ?side2 A14.out).mono ?_);(case side1=>repeat (first|(with_reducible first|exact HB.out|apply below_alloc|apply pw_below_drewN|apply below_drew1)|exact HB.out));(case side2=>exact Kd.R_tight rfl HO_9.out);rintro e w23 ⟨v677,rfl,ho0,hb,hkp⟩;refine ⟨_,rfl,?_⟩;have n0_:=Aside0.mk (Kd.R_mono (ok':=fun k_=>some k_≠(.slice (some ad675) t672.length co21:Value).ownBlock∧some k_≠(v677:Value).ownBlock) (Kd.R_keptB (HO_7.out) hkp (fun k_ hk_ hs_=>(hk_.1) hs_)) (fun k_ hk_=>⟨hk_.1.2,fun e_=>Or.elim (ho0.1 k_ e_.symm) (fun hs_=>hk_.2.1 hs_) (fun hn_=>Nat.not_le.2 hk_.2.2 hn_)⟩));have n1_:=Aside0.mk (Kd.R_mono (ok':=fun k_=>some k_≠(.slice (some ad671) x7_1.length co10:Value).ownBlock∧some k_≠(v677:Value).ownBlock) (Kd.R_keptB (HO_11.out) hkp (fun k_ hk_ hs_=>(hk_.2) hs_)) (fun k_ hk_=>⟨hk_.1.1,fun e_=>Or.elim (ho0.1 k_ e_.symm) (fun hs_=>hk_.2.1 hs_) (fun hn_=>Nat.not_le.2 hk_.2.2 hn_)⟩));have n2_:=Aside0.mk (Kd.R_mono (ok':=fun k_=>some k_≠(.slice (some ad671) x7_1.length co10:Value).ownBlock∧some k_≠(.slice (some ad675) t672.length co21:Value).ownBlock) ho0 (fun k_ hk_=>⟨Or.elim hk_ (fun hs_=>fun e_=>(((HO_7.out).1 k_ e_.symm).1) hs_) (fun hn_=>(Kd.fresh' (Kd.R_lt (tR_ HO_7)) k_ hn_)),Or.elim hk_ (fun hs_=>fun e_=>(((HO_11.out).1 k_ e_.symm).2) hs_) (fun hn_=>(Kd.fresh' (Kd.R_lt (tR_ HO_11)) k_ hn_))⟩));have n3_:=Aside0.mk (hb);clear HO_7;clear HO_11;clear HB;clear HO_9;have HO_7:=n0_;have HO_11:=n1_;have HO678:=n2_;have HB:=n3_;clear n0_ n1_ n2_ n3_;(try clear hb);(try clear hkp);(try clear ho0);have p679:0≤(x12_3:Int):=oT_;have q679:x12_3 < (t672.length:Int):=oT_;obtain ⟨ad679,e679,hx679_0⟩:=Kd.at_string (Kd.R_reads' HO_11.out).2.2 x12_3 p679 q679;obtain rfl:ad675=ad679:=(by injection e679);replace p679:=eq_true p679;replace q679:=eq_true q679)|((with_reducible refine gate_callee (f:=82) rfl ?_);refine goesL_ (some 49) rfl rfl Tryz.func82 (by kernel_rfl) rfl #[.string a1,.string (rdOf ByteArray.empty t672 x12_3)] rfl tM_ ?_;(with_reducible refine (nr_Returns.calls k3 a1 (rdOf ByteArray.empty t672 x12_3) false _ A15.out).mono ?_);rintro e w24 ⟨rfl,hb⟩;refine ⟨_,rfl,?_⟩;have n0_:=Aside0.mk (Kd.R_below (tR_ HO_7) hb);have n1_:=Aside0.mk (Kd.R_below (tR_ HO_11) hb);have n2_:=Aside0.mk (Kd.R_below (tR_ HO678) hb);have n3_:=Aside0.mk (below_step (tB_ HB) hb);clear HO_7;clear HO_11;clear HO678;clear HB;have HO_7:=n0_;have HO_11:=n1_;have HO678:=n2_;have HB:=n3_;clear n0_ n1_ n2_ n3_;(try clear hb);(try clear hb2);(try clear hk);(try clear hi)))
             go_roundg k3
             case measure=>have:=HK1.out;have:=HK2.out;have:=HK3.out;omega
             case rel=>exact ⟨(t676),(wrap64 (x12_3+1)),tS_,H',⟨by have:=HK1.out;have:=HK2.out;have:=HK3.out;omega⟩,⟨by (with_reducible repeat (first|apply Kd.R_alloc|apply Kd.R_drewN|apply Kd.R_drew));exact Kd.R_mono HO_7.out (fun _ hk=>⟨hk.2,hk.1⟩)⟩,⟨tR_ HO678⟩,⟨tR_ HO_11⟩,⟨tB_ HB⟩⟩
           ·rw [if_neg c13] at H
            exact absurd H (by simp)
          ·rw [if_neg c12] at H
           have c12b0:decide (x12_3 < (t672.length:Int))=false:=decide_eq_false c12
           clear c12
           have H':=Aside0.mk H
           clear H
           obtain ⟨Ao25,co25,eo25⟩:=Kd.R_slice HO_11.out
           subst eo25
           go_wp2
           go_roundg k3
           case measure=>have:=HK1.out;have:=HK2.out;have:=HK3.out;omega
           case rel=>exact ⟨(x9_3),(wrap64 (x10_2+1)),tS_,H',⟨by have:=HK1.out;have:=HK2.out;have:=HK3.out;omega⟩,⟨by (with_reducible repeat (first|apply Kd.R_alloc|apply Kd.R_drewN|apply Kd.R_drew));exact Kd.R_mono HO_7.out (fun _ hk=>hk.1)⟩,⟨by (with_reducible repeat (first|apply Kd.R_alloc|apply Kd.R_drewN|apply Kd.R_drew));exact Kd.R_mono HO_9.out (fun _ hk=>hk.1)⟩,⟨tB_ HB⟩⟩
       ·rw [if_neg c8] at H
        exact absurd H (by simp)
      ·rw [if_neg c7] at H
       have c7b0:decide (x10_2 < (x7_1.length:Int))=false:=decide_eq_false c7
       clear c7
       have H':=Aside0.mk H
       clear H
       obtain ⟨Ao26,co26,eo26⟩:=Kd.R_slice HO_7.out
       subst eo26
       go_wp2
       go_roundg k2
       case measure=>have:=HK1.out;have:=HK2.out;omega
       case rel=>exact ⟨(x9_2),(wrap64 (x8_1+1)),tS_,H',⟨by have:=HK1.out;have:=HK2.out;omega⟩,⟨by (with_reducible repeat (first|apply Kd.R_alloc|apply Kd.R_drewN|apply Kd.R_drew));exact Kd.R_mono HO_9.out (fun _ hk=>trivial)⟩,⟨tB_ HB⟩⟩
   ·rw [if_neg c6] at H
    have c6b0:decide (x8_1≤a2)=false:=decide_eq_false c6
    clear c6
    obtain rfl:=Option.some.inj H
    go_wp2
    go_ret
    exact ⟨tE_,tB_ HB⟩
end Go.Proofs.YtaafeallcaiooaaGreat.Pr
