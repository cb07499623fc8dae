import Derived.Test.YtaafeallcaiooaaGreatPr0
import Derived.Test.YtaafeallcaiooaaGreatPrA1
namespace Go.Proofs.YtaafeallcaiooaaGreat.Pr
open Go.RowKit Go.Proofs.Zw Go.Proofs.Zl Go.Proofs.Zm
attribute [local go_sem] max2_int min2_int max_two min_two max_three min_three max_four min_four
set_option linter.unusedVariables false
set_option linter.unusedSimpArgs false
def nl_laws.l0:Nat→List (S94)→List (S94)→Int→Option ((List (S94)))
 | 0,_,_,_=>none
 | k+1,x0,x3,x4=>if x4 < (x0.length:Int) then (if x4≤6 then (if 0≤x4 then (if 0≤(mn (((rd_T94 x0 x4).f0).size:Int) 80) then (if (mn (((rd_T94 x0 x4).f0).size:Int) 80)≤(((rd_T94 x0 x4).f0).size:Int) then (if 0≤(mn (((rd_T94 x0 x4).f1).size:Int) 80) then (if (mn (((rd_T94 x0 x4).f1).size:Int) 80)≤(((rd_T94 x0 x4).f1).size:Int) then (if x3.length < 4398046511104 then (nl_laws.l0 k x0 (x3++[(⟨((rd_T94 x0 x4).f0).extract 0 ((mn (((rd_T94 x0 x4).f0).size:Int) 80):Int).toNat,((rd_T94 x0 x4).f1).extract 0 ((mn (((rd_T94 x0 x4).f1).size:Int) 80):Int).toNat⟩:S94)]) (wrap64 (x4+1))) else (none)) else (none)) else (none)) else (none)) else (none)) else (none)) else (some x3)) else (some x3)
def nl_laws.f (k:Nat) (l0:List (S94)):Option ((List (S94))):=nl_laws.l0 k l0 ([]:List (S94)) 0
def nl_laws.T5:Bool × List (List Nat × List Nat):=(true,[([],[]),([],[]),([],[]),([1,2],[1,2]),([3],[3]),([4],[4]),([],[]),([],[]),([6,7],[6,7]),([8],[8]),([9],[9]),([10],[10]),([11],[11]),([5,12],[5,12]),([],[]),([],[]),([14,15],[14,15]),([16],[16]),([17],[17]),([],[]),([],[]),([19,20],[19,20]),([21],[21]),([22],[22]),([23],[23]),([24],[24]),([18,25],[18,25]),([13,26],[13,26]),([27],[27]),([0,28],[0,28]),([29,29,0,1,2,3,4,5,6,7,8,9,10,11,12,13,14,15,16,17,18,19,20,21,22,23,24,25,26,27,28,29],[0,29])])
def nl_laws.B5:List Nat:=[0,0,0,6,14,30,0,0,192,448,960,1984,4032,8190,0,0,49152,114688,245760,0,0,1572864,3670016,7864320,16252928,33030144,67092480,134217726,268435454,536870911,1073741823]
theorem nl_laws.tab5:rtab .any (opsOf Tryz.f28 5)=nl_laws.T5:=by kernel_rfl
theorem nl_laws.bits5:waitsOk nl_laws.T5.2 nl_laws.B5=true:=by kernel_rfl
set_option maxHeartbeats 8000000 in
set_option maxRecDepth 100000 in
theorem nl_laws.calls (k:Nat) (A0:Option Addr) (c0:Nat) (l0:List (S94)) (r:List (S94)) (w:World) (hr0:Kd.C k94 w A0 l0.length l0) (hc0:l0.length≤c0) (h:nl_laws.f k l0=some r) :
  Calls Tryz.prog 28 #[.slice A0 l0.length c0] w fun e w'=>∃ v0_:Value,e=.returned (v0_)∧Kd.R k94 94 w' w.heap.size (fun _=>True) v0_ r∧Below w.heap.size w w':=by
 have hu94:=Tryz.underlying94
 have HR0:=Aside0.mk hr0
 have HC0:=Aside0.mk hc0
 clear hr0 hc0
 have HB:=Aside0.mk (Below.refl w.heap.size w)
 have H:(nl_laws.l0 k l0 ([]:List (S94)) 0)=some r:=h
 clear h
 have H':=Aside0.mk H
 clear H
 go_enter Tryz.func28,Tryz.ntmps28
 go_wp2
 go_loopg [3,4] k (fun kq v3 v4 w'=>∃ (x3_1:List (S94)) (x4_1:Int),v4=.int .i64 x4_1∧Aside0 (nl_laws.l0 kq l0 x3_1 x4_1=some r)∧Aside0 (kq≤k)∧Aside0 (Kd.R k94 94 w' w.heap.size (fun _=>True) v3 x3_1)∧Aside0 (Below w.heap.size w w'))
 case atStart=>exact ⟨(([]:List (S94))),(0),tS_,H',⟨Nat.le_refl _⟩,⟨by first|exact Kd.R_nil _ _ _ _ _|exact Kd.N_nil _ _ _ _ _|exact Kd.V_nil _ _ _ _ _|exact Kd.Q_nil _ _ _ _ _|exact Kd.S_nil _ _ _ _ _⟩,⟨tB_ HB⟩⟩
 case round =>
  clear H'
  obtain ⟨x3_1,x4_1,rfl,HA,HK1,HO_3,HB⟩:=hrel
  cases gk with
  | zero=>exact absurd HA.out (by simp [nl_laws.l0])
  | succ k1 =>
   have H:=HA.out
   clear HA
   simp only [nl_laws.l0] at H
   by_cases c2:x4_1 < (l0.length:Int)
   ·rw [if_pos c2] at H
    have c2b0:decide (x4_1 < (l0.length:Int))=true:=decide_eq_true c2
    clear c2
    by_cases c3:x4_1≤6
    ·rw [if_pos c3] at H
     have c3b0:decide (x4_1≤6)=true:=decide_eq_true c3
     clear c3
     by_cases c4:0≤x4_1
     ·rw [if_pos c4] at H
      have c4b0:decide (0≤x4_1)=true:=decide_eq_true c4
      clear c4
      obtain ⟨ji5,hji5⟩:∃ j_:Int,(mn (((rd_T94 l0 x4_1).f0).size:Int) 80)=j_:=⟨_,rfl⟩
      replace H:(if 0≤(ji5) then (if (ji5)≤(((rd_T94 l0 x4_1).f0).size:Int) then (if 0≤(mn (((rd_T94 l0 x4_1).f1).size:Int) 80) then (if (mn (((rd_T94 l0 x4_1).f1).size:Int) 80)≤(((rd_T94 l0 x4_1).f1).size:Int) then (if x3_1.length < 4398046511104 then (nl_laws.l0 k1 l0 (x3_1++[(⟨((rd_T94 l0 x4_1).f0).extract 0 ((ji5):Int).toNat,((rd_T94 l0 x4_1).f1).extract 0 ((mn (((rd_T94 l0 x4_1).f1).size:Int) 80):Int).toNat⟩:S94)]) (wrap64 (x4_1+1))) else (none)) else (none)) else (none)) else (none)) else (none))=some r:=by first|(rw [hji5] at H;exact H)|(simp only [hji5] at H ⊢;exact H)
      have hji5_:(if 80 < (((rd_T94 l0 x4_1).f0).size:Int) then 80 else (((rd_T94 l0 x4_1).f0).size:Int))=ji5:=hji5
      by_cases c6:0≤(ji5)
      ·rw [if_pos c6] at H
       have c6b0:=eq_true c6
       have c6b1:decide (0≤(ji5))=true:=decide_eq_true c6
       clear c6
       by_cases c7:(ji5)≤(((rd_T94 l0 x4_1).f0).size:Int)
       ·rw [if_pos c7] at H
        have c7b0:=eq_true c7
        have c7b1:decide ((ji5)≤(((rd_T94 l0 x4_1).f0).size:Int))=true:=decide_eq_true c7
        clear c7
        obtain ⟨ji8,hji8⟩:∃ j_:Int,(mn (((rd_T94 l0 x4_1).f1).size:Int) 80)=j_:=⟨_,rfl⟩
        replace H:(if 0≤(ji8) then (if (ji8)≤(((rd_T94 l0 x4_1).f1).size:Int) then (if x3_1.length < 4398046511104 then (nl_laws.l0 k1 l0 (x3_1++[(⟨((rd_T94 l0 x4_1).f0).extract 0 ((ji5):Int).toNat,((rd_T94 l0 x4_1).f1).extract 0 ((ji8):Int).toNat⟩:S94)]) (wrap64 (x4_1+1))) else (none)) else (none)) else (none))=some r:=by first|(rw [hji8] at H;exact H)|(simp only [hji8] at H ⊢;exact H)
        have hji8_:(if 80 < (((rd_T94 l0 x4_1).f1).size:Int) then 80 else (((rd_T94 l0 x4_1).f1).size:Int))=ji8:=hji8
        by_cases c9:0≤(ji8)
        ·rw [if_pos c9] at H
         have c9b0:=eq_true c9
         have c9b1:decide (0≤(ji8))=true:=decide_eq_true c9
         clear c9
         by_cases c10:(ji8)≤(((rd_T94 l0 x4_1).f1).size:Int)
         ·rw [if_pos c10] at H
          have c10b0:=eq_true c10
          have c10b1:decide ((ji8)≤(((rd_T94 l0 x4_1).f1).size:Int))=true:=decide_eq_true c10
          clear c10
          by_cases c11:x3_1.length < 4398046511104
          ·rw [if_pos c11] at H
           have LMc11:=Aside0.mk c11
           clear c11
           obtain ⟨y208,hy208⟩:∃ y_:List (S94),y_=(x3_1++[(⟨((rd_T94 l0 x4_1).f0).extract 0 ((ji5):Int).toNat,((rd_T94 l0 x4_1).f1).extract 0 ((ji8):Int).toNat⟩:S94)]):=⟨_,rfl⟩
           replace H:(nl_laws.l0 k1 l0 y208 (wrap64 (x4_1+1)))=some r:=by first|(rw [hy208];with_reducible exact H)|(have H2_:=(Option.bind_some _ _).symm.trans H;rw [hy208];with_reducible exact H2_)|(have H2_:=(Option.bind_some _ _).symm.trans H;with_reducible exact H2_)|with_reducible exact H|(rw [hy208];exact H)|exact H
           have Ny208:=Aside0.mk hy208
           clear hy208
           have H':=Aside0.mk H
           clear H
           try go_wp2
           have n0_:=Aside0.mk (Kd.R_drew HO_3.out)
           have n1_:=Aside0.mk (below_drew1 HB.out)
           clear HO_3
           clear HB
           have HO_3:=n0_
           have HB:=n1_
           clear n0_ n1_
           have p204:0≤(x4_1:Int):=oT_
           have q204:x4_1 < (l0.length:Int):=oT_
           obtain ⟨ad204,e204,hx204_0,hx204_1⟩:=at_T94 HR0.out x4_1 p204 q204
           have hw204_1:=hx204_1
           have hw204_0:=hx204_0
           cases e204
           replace hx204_0:=cB_ HB hx204_0
           replace hx204_1:=cB_ HB hx204_1
           replace p204:=eq_true p204
           replace q204:=eq_true q204
           have p205:0≤(x4_1:Int):=oT_
           have q205:x4_1 < (l0.length:Int):=oT_
           obtain ⟨ad205,e205,hx205_0,hx205_1⟩:=at_T94 HR0.out x4_1 p205 q205
           have hw205_1:=hx205_1
           have hw205_0:=hx205_0
           obtain rfl:ad204=ad205:=(by injection e205)
           replace hx205_0:=cB_ HB hx205_0
           replace hx205_1:=cB_ HB hx205_1
           replace p205:=eq_true p205
           replace q205:=eq_true q205
           have p206:0≤(x4_1:Int):=oT_
           have q206:x4_1 < (l0.length:Int):=oT_
           obtain ⟨ad206,e206,hx206_0,hx206_1⟩:=at_T94 HR0.out x4_1 p206 q206
           have hw206_1:=hx206_1
           have hw206_0:=hx206_0
           obtain rfl:ad204=ad206:=(by injection e206)
           replace hx206_0:=cB_ HB hx206_0
           replace hx206_1:=cB_ HB hx206_1
           replace p206:=eq_true p206
           replace q206:=eq_true q206
           have p207:0≤(x4_1:Int):=oT_
           have q207:x4_1 < (l0.length:Int):=oT_
           obtain ⟨ad207,e207,hx207_0,hx207_1⟩:=at_T94 HR0.out x4_1 p207 q207
           have hw207_1:=hx207_1
           have hw207_0:=hx207_0
           obtain rfl:ad204=ad207:=(by injection e207)
           replace hx207_0:=cB_ HB hx207_0
           replace hx207_1:=cB_ HB hx207_1
           replace p207:=eq_true p207
           replace q207:=eq_true q207
           refine start_ (n:=31) (S:=fun w'=>w'.cell? (ad204.add ((x4_1).toNat * 2))=some (.string ((rd_T94 l0 x4_1).f0))∧w'.cell? ⟨(ad204.add ((x4_1).toNat * 2)).block,(ad204.add ((x4_1).toNat * 2)).off+1,none⟩=some (.string ((rd_T94 l0 x4_1).f1))∧w'.cell? (ad204.add ((x4_1).toNat * 2))=some (.string ((rd_T94 l0 x4_1).f0))∧w'.cell? ⟨(ad204.add ((x4_1).toNat * 2)).block,(ad204.add ((x4_1).toNat * 2)).off+1,none⟩=some (.string ((rd_T94 l0 x4_1).f1))∧w'.cell? (ad204.add ((x4_1).toNat * 2))=some (.string ((rd_T94 l0 x4_1).f0))∧w'.cell? ⟨(ad204.add ((x4_1).toNat * 2)).block,(ad204.add ((x4_1).toNat * 2)).off+1,none⟩=some (.string ((rd_T94 l0 x4_1).f1))∧w'.cell? (ad204.add ((x4_1).toNat * 2))=some (.string ((rd_T94 l0 x4_1).f0))∧w'.cell? ⟨(ad204.add ((x4_1).toNat * 2)).block,(ad204.add ((x4_1).toNat * 2)).off+1,none⟩=some (.string ((rd_T94 l0 x4_1).f1))) (ds:=[]) (bm 31 0) (by kernel_rfl) rfl rfl ⟨(cB_ HB hw204_0),(cB_ HB hw204_1),(cB_ HB hw205_0),(cB_ HB hw205_1),(cB_ HB hw206_0),(cB_ HB hw206_1),(cB_ HB hw207_0),(cB_ HB hw207_1)⟩ (fun hHeld=>?_);refine with_tabW nl_laws.tab5 nl_laws.bits5 (fun HT_ HW_=>?_)
           generalize wr.drew=w12 at HO_3 HB hx204_0 hx204_1 hx205_0 hx205_1 hx206_0 hx206_1 hx207_0 hx207_1 hHeld ⊢
           refine pj_ 0 15 (bm 31 1) (any_of HT_.out (by kernel_rfl)) ?_
           refine pj_ 1 16 (bm 31 3) (any_of HT_.out (by kernel_rfl)) ?_
           refine pj_ 2 17 (bm 31 7) (any_of HT_.out (by kernel_rfl)) ?_
           refine pj_ 3 18 (bm 31 15) (any_of HT_.out (by kernel_rfl)) ?_
           refine pj_ 4 19 (bm 31 31) (any_of HT_.out (by kernel_rfl)) ?_
           refine pj_ 6 21 (bm 31 95) (any_of HT_.out (by kernel_rfl)) ?_
           refine pj_ 7 22 (bm 31 223) (any_of HT_.out (by kernel_rfl)) ?_
           refine pj_ 8 23 (bm 31 479) (any_of HT_.out (by kernel_rfl)) ?_
           refine pj_ 9 24 (bm 31 991) (any_of HT_.out (by kernel_rfl)) ?_
           refine pj_ 14 29 (bm 31 17375) (any_of HT_.out (by kernel_rfl)) ?_
           refine pj_ 15 30 (bm 31 50143) (any_of HT_.out (by kernel_rfl)) ?_
           refine pj_ 16 31 (bm 31 115679) (any_of HT_.out (by kernel_rfl)) ?_
           refine pj_ 17 32 (bm 31 246751) (any_of HT_.out (by kernel_rfl)) ?_
           refine pj_ 19 34 (bm 31 771039) (any_of HT_.out (by kernel_rfl)) ?_
           refine pj_ 20 35 (bm 31 1819615) (any_of HT_.out (by kernel_rfl)) ?_
           refine pj_ 21 36 (bm 31 3916767) (any_of HT_.out (by kernel_rfl)) ?_
           refine pj_ 22 37 (bm 31 8111071) (any_of HT_.out (by kernel_rfl)) ?_
           refine take_ (i:=5) (N:=some 20) (v:=?_) (a':=?_) (bm 31 8111103) rfl rfl (take_ofW HT_.out HW_.out (by kernel_rfl)) (fun _ _ _ h=>h) (Or.inl ⟨by rfl,?_⟩) hHeld ?_ ?_;rotate_left;(rintro w' ⟨s0,s1,s2,s3,s4,s5,s6,s7⟩;go_simp;with_reducible rfl);rotate_left;exact tP_
           refine take_ (i:=10) (N:=some 25) (v:=?_) (a':=?_) (bm 31 8112127) rfl rfl (take_ofW HT_.out HW_.out (by kernel_rfl)) (fun _ _ _ h=>h) (Or.inl ⟨by rfl,?_⟩) hHeld ?_ ?_;rotate_left;(rintro w' ⟨s0,s1,s2,s3,s4,s5,s6,s7⟩;go_simp;with_reducible rfl);rotate_left;exact tP_
           refine pj_ 11 26 (bm 31 8114175) (any_of HT_.out (by kernel_rfl)) ?_
           refine pj_ 12 27 (bm 31 8118271) (any_of HT_.out (by kernel_rfl)) ?_
           refine pj_ 13 28 (bm 31 8126463) (any_of HT_.out (by kernel_rfl)) ?_
           refine take_ (i:=18) (N:=some 33) (v:=?_) (a':=?_) (bm 31 8388607) rfl rfl (take_ofW HT_.out HW_.out (by kernel_rfl)) (fun _ _ _ h=>h) (Or.inl ⟨by rfl,?_⟩) hHeld ?_ ?_;rotate_left;(rintro w' ⟨s0,s1,s2,s3,s4,s5,s6,s7⟩;go_simp;with_reducible rfl);rotate_left;exact tP_
           refine take_ (i:=23) (N:=some 38) (v:=?_) (a':=?_) (bm 31 16777215) rfl rfl (take_ofW HT_.out HW_.out (by kernel_rfl)) (fun _ _ _ h=>h) (Or.inl ⟨by rfl,?_⟩) hHeld ?_ ?_;rotate_left;(rintro w' ⟨s0,s1,s2,s3,s4,s5,s6,s7⟩;go_simp;with_reducible rfl);rotate_left;exact tP_
           refine pj_ 24 39 (bm 31 33554431) (any_of HT_.out (by kernel_rfl)) ?_
           refine pj_ 25 40 (bm 31 67108863) (any_of HT_.out (by kernel_rfl)) ?_
           refine pj_ 26 41 (bm 31 134217727) (any_of HT_.out (by kernel_rfl)) ?_
           refine pj_ 27 42 (bm 31 268435455) (any_of HT_.out (by kernel_rfl)) ?_
           refine one_ (i:=28) (N:=some 43) (bm 31 536870911) rfl rfl (one_of HT_.out (by kernel_rfl)) (by decide) (fun K hK=>?_)
           refine value_ (w1:=?_) (v:=?_) (by rfl) rfl ?_ ?_
           rotate_left 2
           ·go_simp
            constructor
            ·rfl
            ·rfl
           refine hK.out _ _ ⟨(World.cell?_alloc_lt _ _ _ (World.block_lt_of_cell? _ _ ((cB_ HB hw204_0)))).trans ((cB_ HB hw204_0)),(World.cell?_alloc_lt _ _ _ (World.block_lt_of_cell? _ _ ((cB_ HB hw204_1)))).trans ((cB_ HB hw204_1)),(World.cell?_alloc_lt _ _ _ (World.block_lt_of_cell? _ _ ((cB_ HB hw205_0)))).trans ((cB_ HB hw205_0)),(World.cell?_alloc_lt _ _ _ (World.block_lt_of_cell? _ _ ((cB_ HB hw205_1)))).trans ((cB_ HB hw205_1)),(World.cell?_alloc_lt _ _ _ (World.block_lt_of_cell? _ _ ((cB_ HB hw206_0)))).trans ((cB_ HB hw206_0)),(World.cell?_alloc_lt _ _ _ (World.block_lt_of_cell? _ _ ((cB_ HB hw206_1)))).trans ((cB_ HB hw206_1)),(World.cell?_alloc_lt _ _ _ (World.block_lt_of_cell? _ _ ((cB_ HB hw207_0)))).trans ((cB_ HB hw207_0)),(World.cell?_alloc_lt _ _ _ (World.block_lt_of_cell? _ _ ((cB_ HB hw207_1)))).trans ((cB_ HB hw207_1))⟩ (fun hHeld=>?_)
           clear hK K
           refine norm_ (a':=?_) ?_ ?_;rotate_left;(show Act.put _ (some 43) _=_;exact tP_)
           refine one_ (i:=29) (N:=some 44) (bm 31 1073741823) rfl rfl (one_of HT_.out (by kernel_rfl)) (by decide) (fun K hK=>?_)
           refine Kd.R_append_step k94 (w0:=w) w.heap.size (by rfl) (.tmp 15) (.tmp 43) 35 94 (.agg #[(.string ⟨#[]⟩),(.string ⟨#[]⟩)]) 32 rfl Tryz.underlying35 info94 rfl (by decide) (by omega) u3 x3_1 (⟨((rd_T94 l0 x4_1).f0).extract 0 ((ji5):Int).toNat,((rd_T94 l0 x4_1).f1).extract 0 ((ji8):Int).toNat⟩:S94) [.string (((rd_T94 l0 x4_1).f0).extract 0 ((ji5):Int).toNat),.string (((rd_T94 l0 x4_1).f1).extract 0 ((ji8):Int).toNat)] (fun _=>True) (fun _=>False) rfl rfl ?aP (fun _ hk=>hk.elim) ?aF ?aO ?aB ?aS ?aL ?_
           (case aP=>exact k94_mkM _ _ _ (⟨((rd_T94 l0 x4_1).f0).extract 0 ((ji5):Int).toNat,((rd_T94 l0 x4_1).f1).extract 0 ((ji8):Int).toNat⟩:S94))
           (case aB=>exact (tB_ HB))
           (case aF=>exact (fun _ _=>trivial))
           (case aO=>exact (tR_ HO_3))
           (case aS=>exact (below_size (tB_ HB)))
           (case aL=>have:=LMc11.out;omega)
           intro v209 w13 ho hb hg hat
           rw [←Ny208.out] at ho
           have n0_:=Aside0.mk (hb)
           have n1_:=Aside0.mk (ho)
           clear HB
           clear HO_3
           have HB:=n0_
           have HO210:=n1_
           clear n0_ n1_
           clear ho hb hg hat
           refine hK.out _ _ ⟨(cB_ HB hw204_0),(cB_ HB hw204_1),(cB_ HB hw205_0),(cB_ HB hw205_1),(cB_ HB hw206_0),(cB_ HB hw206_1),(cB_ HB hw207_0),(cB_ HB hw207_1)⟩ (fun hHeld=>?_)
           clear hK K
           refine norm_ (a':=?_) ?_ ?_;rotate_left;(show Act.put _ (some 44) _=_;exact tP_)
           refine pj_ 30 3 (bm 31 2147483647) (any_of HT_.out (by kernel_rfl)) ?_
           refine done_ (done_of HT_.out (by kernel_rfl)) ?_
           try go_wp2
           go_roundg k1
           case measure=>have:=HK1.out;omega
           case rel=>exact ⟨(y208),(wrap64 (x4_1+1)),tS_,H',⟨by have:=HK1.out;omega⟩,⟨tR_ HO210⟩,⟨tB_ HB⟩⟩
          ·rw [if_neg c11] at H
           exact absurd H (by simp)
         ·rw [if_neg c10] at H
          exact absurd H (by simp)
        ·rw [if_neg c9] at H
         exact absurd H (by simp)
       ·rw [if_neg c7] at H
        exact absurd H (by simp)
      ·rw [if_neg c6] at H
       exact absurd H (by simp)
     ·rw [if_neg c4] at H
      exact absurd H (by simp)
    ·rw [if_neg c3] at H
     have c3b0:decide (x4_1≤6)=false:=decide_eq_false c3
     clear c3
     obtain rfl:=Option.some.inj H
     go_wp2
     go_ret
     exact ⟨_,tE_,tR_ HO_3,tB_ HB⟩
   ·rw [if_neg c2] at H
    have c2b0:decide (x4_1 < (l0.length:Int))=false:=decide_eq_false c2
    clear c2
    obtain rfl:=Option.some.inj H
    go_wp2
    go_ret
    exact ⟨_,tE_,tR_ HO_3,tB_ HB⟩
def nl_few.l0:Nat→List ByteArray→List ByteArray→Int→Option (List ByteArray)
 | 0,_,_,_=>none
 | k+1,x0,x3,x4=>if x4 < (x0.length:Int) then (if x4≤20 then (if 0≤x4 then ((nl_short.f (rdOf ByteArray.empty x0 x4)).bind fun t212=>(if x3.length < 8796093022208 then (nl_few.l0 k x0 (x3++[t212]) (wrap64 (x4+1))) else (none))) else (none)) else (some x3)) else (some x3)
def nr_occurs.l0:Nat→Int→ByteArray→Int→Option (Bool)
 | 0,_,_,_=>none
 | k+1,x0,x1,x5=>if x5 < (x1.size:Int) then (if 0≤x5 then (if (bt x1 x5)=x0 then (some true) else (nr_occurs.l0 k x0 x1 (wrap64 (x5+1)))) else (none)) else (some false)
def nr_occurs.f (k:Nat) (a0:Int) (a1:ByteArray):Option (Bool):=nr_occurs.l0 k a0 a1 0
set_option maxHeartbeats 8000000 in
set_option maxRecDepth 100000 in
theorem nr_occurs.calls (k:Nat) (a0:Int) (a1:ByteArray) (r:Bool) (w:World) (h:nr_occurs.f k a0 a1=some r) :
  Calls Tryz.prog 80 #[.int .u8 a0,.string a1] w fun e w'=>e=.returned (.bool r)∧Drawn0 w w':=by
 have H:(nr_occurs.l0 k a0 a1 0)=some r:=h
 clear h
 have H':=Aside0.mk H
 clear H
 go_enter Tryz.func80,Tryz.ntmps80
 go_wp2
 go_loopg [5] k (fun kq v5 w'=>∃ (x5_1:Int),v5=.int .i64 x5_1∧Aside0 (nr_occurs.l0 kq a0 a1 x5_1=some r)∧Aside0 (kq≤k)∧Drawn0 w w')
 case atStart=>exact ⟨(0),tS_,H',⟨Nat.le_refl _⟩,tD_⟩
 case round =>
  clear H'
  try clear p2
  obtain ⟨x5_1,rfl,HA,HK1,⟨m1,rfl⟩⟩:=hrel
  cases gk with
  | zero=>exact absurd HA.out (by simp [nr_occurs.l0])
  | succ k1 =>
   have H:=HA.out
   clear HA
   simp only [nr_occurs.l0] at H
   by_cases c3:x5_1 < (a1.size:Int)
   ·rw [if_pos c3] at H
    have c3b0:decide (x5_1 < (a1.size:Int))=true:=decide_eq_true c3
    clear c3
    by_cases c4:0≤x5_1
    ·rw [if_pos c4] at H
     have c4b0:decide (0≤x5_1)=true:=decide_eq_true c4
     clear c4
     by_cases c6:(bt a1 x5_1)=a0
     ·rw [if_pos c6] at H
      have c6b0:((bt a1 x5_1) == a0)=true:=beq_iff_eq.mpr c6
      have c6b1:((bt a1 x5_1) != a0)=false:=bne_eq_false_iff_eq.mpr c6
      clear c6
      obtain rfl:=Option.some.inj H
      have p5:0≤(x5_1:Int):=oT_
      have q5:x5_1 < (a1.size:Int):=oT_
      have hx5:=bt_at a1 x5_1
      replace p5:=eq_true p5
      replace q5:=eq_true q5
      go_wp2
      go_ret
      exact ⟨by first|rfl|(simp;done)|(simp [*];done),tD_⟩
     ·rw [if_neg c6] at H
      have c6b0:((bt a1 x5_1) == a0)=false:=beq_eq_false_iff_ne.mpr c6
      have c6b1:((bt a1 x5_1) != a0)=true:=bne_iff_ne.mpr c6
      have H':=Aside0.mk H
      clear H
      have p5:0≤(x5_1:Int):=oT_
      have q5:x5_1 < (a1.size:Int):=oT_
      have hx5:=bt_at a1 x5_1
      replace p5:=eq_true p5
      replace q5:=eq_true q5
      go_wp2
      go_roundg k1
      case measure=>have:=HK1.out;omega
      case rel=>exact ⟨(wrap64 (x5_1+1)),tS_,H',⟨by have:=HK1.out;omega⟩,tD_⟩
    ·rw [if_neg c4] at H
     exact absurd H (by simp)
   ·rw [if_neg c3] at H
    have c3b0:decide (x5_1 < (a1.size:Int))=false:=decide_eq_false c3
    clear c3
    obtain rfl:=Option.some.inj H
    go_wp2
    go_ret
    exact ⟨by first|rfl|(simp;done)|(simp [*];done),tD_⟩
end Go.Proofs.YtaafeallcaiooaaGreat.Pr
