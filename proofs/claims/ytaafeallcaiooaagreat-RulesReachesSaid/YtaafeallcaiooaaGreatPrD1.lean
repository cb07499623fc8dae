import Derived.Test.YtaafeallcaiooaaGreatPr0
import Derived.Test.YtaafeallcaiooaaGreatHAp
import Derived.Test.YtaafeallcaiooaaGreatHRm
import Derived.Test.YtaafeallcaiooaaGreatPrA2
import Derived.Test.YtaafeallcaiooaaGreatPrA3
import Derived.Test.YtaafeallcaiooaaGreatPrA5
namespace Go.Proofs.YtaafeallcaiooaaGreat.Pr
open Go.RowKit Go.Proofs.Zw Go.Proofs.Zl Go.Proofs.Zm
attribute [local go_sem] max2_int min2_int max_two min_two max_three min_three max_four min_four
set_option linter.unusedVariables false
set_option linter.unusedSimpArgs false
mutual
noncomputable def nr_Next.l0:Nat→List (S94)→ByteArray→List ByteArray→Int→Option (List ByteArray)
 | 0,_,_,_,_=>none
 | k+1,x0,x1,x5,x6=>if x6 < (x1.size:Int) then (if 0≤x6 then ((nr_letter.f k (bt x1 x6)).bind fun t261=>(if t261=true then ((nr_End.f k x1 x6).bind fun t262=>(nr_Next.l1 k x0 x1 x5 x6 t262 0)) else (nr_Next.l0 k x0 x1 x5 (wrap64 (x6+1))))) else (none)) else (some x5)
noncomputable def nr_Next.l1:Nat→List (S94)→ByteArray→List ByteArray→Int→Int→Int→Option (List ByteArray)
 | 0,_,_,_,_,_,_=>none
 | k+1,x0,x1,x5,x6,x7,x8=>if x8 < (x0.length:Int) then (if 0≤x8 then (if 0≤x6 then (if x6≤x7 then (if x7≤(x1.size:Int) then ((nr_Match.f ((rd_T94 x0 x8).f0) (x1.extract (x6:Int).toNat (x7:Int).toNat)).bind fun bt264=>(if bt264.2.2.2=true then (if x6≤(x1.size:Int) then ((nr_Apply.f ((rd_T94 x0 x8).f1) bt264.1 bt264.2.1 bt264.2.2.1).bind fun t270=>(if (x1.extract 0 (x6:Int).toNat).size+t270.size≤9223372036854775807 then (if 0≤x7 then (if ((x1.extract 0 (x6:Int).toNat)++t270).size+(x1.extract (x7:Int).toNat x1.size).size≤9223372036854775807 then ((nr_insert.f k x5 (((x1.extract 0 (x6:Int).toNat)++t270)++(x1.extract (x7:Int).toNat x1.size))).bind fun t271=>(nr_Next.l1 k x0 x1 t271 x6 x7 (wrap64 (x8+1)))) else (none)) else (none)) else (none))) else (none)) else (nr_Next.l1 k x0 x1 x5 x6 x7 (wrap64 (x8+1))))) else (none)) else (none)) else (none)) else (none)) else (nr_Next.l0 k x0 x1 x5 (wrap64 (x6+1)))
end
noncomputable def nr_Next.f (k:Nat) (l0:List (S94)) (a1:ByteArray):Option (List ByteArray):=nr_Next.l0 k l0 a1 ([]:List ByteArray) 0
def nr_Next.T10:Bool × List (List Nat × List Nat):=(true,[([],[]),([],[]),([0,1],[0,1]),([2],[2]),([3],[3]),([],[]),([],[]),([],[]),([5,6,7],[5,6,7]),([4,8],[4,8]),([9],[9]),([10],[10]),([10],[10]),([],[]),([13,11,9,0,1,2,3,4,5,6,7,8,9,10,11,13],[11,13]),([12,14,0,1,2,3,4,5,6,7,8,9,10,11,12,13,14],[12])])
def nr_Next.B10:List Nat:=[0,0,3,7,15,0,0,0,224,511,1023,2047,2047,0,12287,32767]
theorem nr_Next.tab10:rtab .any (opsOf Tryz.f51 10)=nr_Next.T10:=by kernel_rfl
theorem nr_Next.bits10:waitsOk nr_Next.T10.2 nr_Next.B10=true:=by kernel_rfl
def nr_Next.T12:Bool × List (List Nat × List Nat):=(true,[([],[]),([],[]),([],[]),([1,2],[1,2]),([],[]),([],[]),([4,5],[4,5]),([6],[6]),([7],[7]),([],[]),([8,9],[8,9]),([3,10],[3,10]),([],[]),([],[]),([12,13],[12,13]),([11,14],[11,14]),([0,15,10],[0,15]),([16,16,0,1,2,3,4,5,6,7,8,9,10,11,12,13,14,15,16],[0,16])])
def nr_Next.B12:List Nat:=[0,0,0,6,0,0,48,112,240,0,1008,2046,0,0,12288,32766,65535,131071]
theorem nr_Next.tab12:rtab .any (opsOf Tryz.f51 12)=nr_Next.T12:=by kernel_rfl
theorem nr_Next.bits12:waitsOk nr_Next.T12.2 nr_Next.B12=true:=by kernel_rfl
set_option maxHeartbeats 8000000 in
set_option maxRecDepth 100000 in
theorem nr_Next.calls (k:Nat) (A0:Option Addr) (c0:Nat) (l0:List (S94)) (a1:ByteArray) (r:List ByteArray) (w:World) (hr0:Kd.C k94 w A0 l0.length l0) (hc0:l0.length≤c0) (h:nr_Next.f k l0 a1=some r) :
  Calls Tryz.prog 51 #[.slice A0 l0.length c0,.string a1] w fun e w'=>∃ v0_:Value,e=.returned (v0_)∧Kd.R Kd.string 9 w' w.heap.size (fun _=>True) v0_ r∧Below w.heap.size w w':=by
 have hu61:=Tryz.underlying61
 have HR0:=Aside0.mk hr0
 have HC0:=Aside0.mk hc0
 clear hr0 hc0
 have HB:=Aside0.mk (Below.refl w.heap.size w)
 have H:(nr_Next.l0 k l0 a1 ([]:List ByteArray) 0)=some r:=h
 clear h
 have H':=Aside0.mk H
 clear H
 go_enter Tryz.func51,Tryz.ntmps51
 go_wp2
 go_loopg [5,6] k (fun kq v5 v6 w'=>∃ (x5_1:List ByteArray) (x6_1:Int),v6=.int .i64 x6_1∧Aside0 (nr_Next.l0 kq l0 a1 x5_1 x6_1=some r)∧Aside0 (kq≤k)∧Aside0 (Kd.R Kd.string 9 w' w.heap.size (fun _=>True) v5 x5_1)∧Aside0 (Below w.heap.size w w'))
 case atStart=>exact ⟨(([]:List ByteArray)),(0),tS_,H',⟨Nat.le_refl _⟩,⟨by first|exact Kd.R_nil _ _ _ _ _|exact Kd.N_nil _ _ _ _ _|exact Kd.V_nil _ _ _ _ _|exact Kd.Q_nil _ _ _ _ _|exact Kd.S_nil _ _ _ _ _⟩,⟨tB_ HB⟩⟩
 case round =>
  clear H'
  try clear p2
  obtain ⟨x5_1,x6_1,rfl,HA,HK1,HO_5,HB⟩:=hrel
  cases gk with
  | zero=>exact absurd HA.out (by simp [nr_Next.l0])
  | succ k1 =>
   have H:=HA.out
   clear HA
   simp only [nr_Next.l0] at H
   by_cases c3:x6_1 < (a1.size:Int)
   ·rw [if_pos c3] at H
    have c3b0:decide (x6_1 < (a1.size:Int))=true:=decide_eq_true c3
    clear c3
    by_cases c4:0≤x6_1
    ·rw [if_pos c4] at H
     have c4b0:decide (0≤x6_1)=true:=decide_eq_true c4
     clear c4
     replace H:=Option.bind_eq_some_iff.mp H
     obtain ⟨t261,A60,H⟩:=H
     replace H:(if t261=true then ((nr_End.f k1 a1 x6_1).bind fun t262=>(nr_Next.l1 k1 l0 a1 x5_1 x6_1 t262 0)) else (nr_Next.l0 k1 l0 a1 x5_1 (wrap64 (x6_1+1))))=some r:=H
     have A6:=Aside0.mk A60
     clear A60
     by_cases c7:t261=true
     ·subst c7
      have H1:((nr_End.f k1 a1 x6_1).bind fun t262=>(nr_Next.l1 k1 l0 a1 x5_1 x6_1 t262 0))=some r:=by rw [if_pos rfl] at H;exact H
      clear H
      have H:=H1
      clear H1
      replace H:=Option.bind_eq_some_iff.mp H
      obtain ⟨t262,A80,H⟩:=H
      replace H:(nr_Next.l1 k1 l0 a1 x5_1 x6_1 t262 0)=some r:=H
      have A8:=Aside0.mk A80
      clear A80
      have H':=Aside0.mk H
      clear H
      have p5:0≤(x6_1:Int):=oT_
      have q5:x6_1 < (a1.size:Int):=oT_
      have hx5:=bt_at a1 x6_1
      replace p5:=eq_true p5
      replace q5:=eq_true q5
      go_wp2_with (first|((with_reducible refine gate_callee (f:=73) rfl ?_);refine goesL_ (some 20) rfl rfl Tryz.func73 (by kernel_rfl) rfl #[.int .u8 (bt a1 x6_1)] rfl tM_ ?_;(with_reducible refine (nr_letter.calls k1 (bt a1 x6_1) true _ A6.out).mono ?_);rintro e w' ⟨rfl,⟨nd,rfl⟩⟩;refine ⟨_,rfl,?_⟩)|((with_reducible refine gate_callee (f:=72) rfl ?_);refine goesL_ (some 24) rfl rfl Tryz.func72 (by kernel_rfl) rfl #[.string a1,.int .i64 x6_1] rfl tM_ ?_;(with_reducible refine (nr_End.calls k1 a1 x6_1 t262 _ A8.out).mono ?_);rintro e w' ⟨rfl,⟨nd,rfl⟩⟩;refine ⟨_,rfl,?_⟩))
      go_loopg [5,8] k1 (fun kq v5 v8 w'=>∃ (x5_2:List ByteArray) (x8_2:Int),v8=.int .i64 x8_2∧Aside0 (nr_Next.l1 kq l0 a1 x5_2 x6_1 t262 x8_2=some r)∧Aside0 (kq≤k1)∧Aside0 (Kd.R Kd.string 9 w' w.heap.size (fun _=>True) v5 x5_2)∧Aside0 (Below w.heap.size w w'))
      case atStart=>exact ⟨(x5_1),(0),tS_,H',⟨Nat.le_refl _⟩,⟨tR_ HO_5⟩,⟨tB_ HB⟩⟩
      case round =>
       clear H'
       try clear p2
       try clear c3
       try clear c3b0
       try clear c4
       try clear c4b0
       try clear c5
       try clear p5
       try clear q5
       try clear hx5
       try clear p6
       try clear c7
       try clear p2
       try clear p5
       try clear q5
       obtain ⟨x5_2,x8_2,rfl,HA,HK2,HO_5,HB⟩:=hrel
       cases gk with
       | zero=>exact absurd HA.out (by simp [nr_Next.l1])
       | succ k2 =>
        have H:=HA.out
        clear HA
        simp only [nr_Next.l1] at H
        by_cases c9:x8_2 < (l0.length:Int)
        ·rw [if_pos c9] at H
         have c9b0:decide (x8_2 < (l0.length:Int))=true:=decide_eq_true c9
         clear c9
         by_cases c10:0≤x8_2
         ·rw [if_pos c10] at H
          have c10b0:decide (0≤x8_2)=true:=decide_eq_true c10
          clear c10
          by_cases c11:0≤x6_1
          ·rw [if_pos c11] at H
           have c11b0:=eq_true c11
           have c11b1:decide (0≤x6_1)=true:=decide_eq_true c11
           clear c11
           by_cases c12:x6_1≤t262
           ·rw [if_pos c12] at H
            have c12b0:=eq_true c12
            have c12b1:decide (x6_1≤t262)=true:=decide_eq_true c12
            clear c12
            by_cases c13:t262≤(a1.size:Int)
            ·rw [if_pos c13] at H
             have c13b0:=eq_true c13
             have c13b1:decide (t262≤(a1.size:Int))=true:=decide_eq_true c13
             clear c13
             replace H:=Option.bind_eq_some_iff.mp H
             obtain ⟨⟨t264,t265,t266,t267⟩,A140,H⟩:=H
             replace H:(if t267=true then (if x6_1≤(a1.size:Int) then ((nr_Apply.f ((rd_T94 l0 x8_2).f1) t264 t265 t266).bind fun t270=>(if (a1.extract 0 (x6_1:Int).toNat).size+t270.size≤9223372036854775807 then (if 0≤t262 then (if ((a1.extract 0 (x6_1:Int).toNat)++t270).size+(a1.extract (t262:Int).toNat a1.size).size≤9223372036854775807 then ((nr_insert.f k2 x5_2 (((a1.extract 0 (x6_1:Int).toNat)++t270)++(a1.extract (t262:Int).toNat a1.size))).bind fun t271=>(nr_Next.l1 k2 l0 a1 t271 x6_1 t262 (wrap64 (x8_2+1)))) else (none)) else (none)) else (none))) else (none)) else (nr_Next.l1 k2 l0 a1 x5_2 x6_1 t262 (wrap64 (x8_2+1))))=some r:=H
             have A14:=Aside0.mk A140
             clear A140
             by_cases c15:t267=true
             ·subst c15
              have H1:(if x6_1≤(a1.size:Int) then ((nr_Apply.f ((rd_T94 l0 x8_2).f1) t264 t265 t266).bind fun t270=>(if (a1.extract 0 (x6_1:Int).toNat).size+t270.size≤9223372036854775807 then (if 0≤t262 then (if ((a1.extract 0 (x6_1:Int).toNat)++t270).size+(a1.extract (t262:Int).toNat a1.size).size≤9223372036854775807 then ((nr_insert.f k2 x5_2 (((a1.extract 0 (x6_1:Int).toNat)++t270)++(a1.extract (t262:Int).toNat a1.size))).bind fun t271=>(nr_Next.l1 k2 l0 a1 t271 x6_1 t262 (wrap64 (x8_2+1)))) else (none)) else (none)) else (none))) else (none))=some r:=by rw [if_pos rfl] at H;exact H
              clear H
              have H:=H1
              clear H1
              have c16b0:=eq_true (oT_:0≤x6_1)
              by_cases c17:x6_1≤(a1.size:Int)
              ·rw [if_pos c17] at H
               have c17b0:=eq_true c17
               have c17b1:decide (x6_1≤(a1.size:Int))=true:=decide_eq_true c17
               clear c17
               replace H:=Option.bind_eq_some_iff.mp H
               obtain ⟨t270,A180,H⟩:=H
               replace H:(if (a1.extract 0 (x6_1:Int).toNat).size+t270.size≤9223372036854775807 then (if 0≤t262 then (if ((a1.extract 0 (x6_1:Int).toNat)++t270).size+(a1.extract (t262:Int).toNat a1.size).size≤9223372036854775807 then ((nr_insert.f k2 x5_2 (((a1.extract 0 (x6_1:Int).toNat)++t270)++(a1.extract (t262:Int).toNat a1.size))).bind fun t271=>(nr_Next.l1 k2 l0 a1 t271 x6_1 t262 (wrap64 (x8_2+1)))) else (none)) else (none)) else (none))=some r:=H
               have A18:=Aside0.mk A180
               clear A180
               by_cases c19:(a1.extract 0 (x6_1:Int).toNat).size+t270.size≤9223372036854775807
               ·rw [if_pos c19] at H
                have c19b0:=eq_true c19
                have c19b1:decide ((a1.extract 0 (x6_1:Int).toNat).size+t270.size≤9223372036854775807)=true:=decide_eq_true c19
                try have c19b2:(9223372036854775807 < (a1.extract 0 (x6_1:Int).toNat).size+t270.size)=False:=eq_false (Nat.not_lt.2 c19)
                have c19b3:(9223372036854775807 < x6_1.toNat+t270.size)=False:=eq_false (by have h_:=c19;simp only [ByteArray.size_append,ByteArray.size_extract] at h_;(try have h1_:=of_eq_true c1b0);(try have h2_:=of_eq_true c2b0);(try have h3_:=of_eq_true c3b0);(try have h4_:=of_eq_true c4b0);(try have h5_:=of_eq_true c5b0);(try have h6_:=of_eq_true c6b0);(try have h7_:=of_eq_true c7b0);(try have h8_:=of_eq_true c8b0);(try have h9_:=of_eq_true c9b0);(try have h10_:=of_eq_true c10b0);(try have h11_:=of_eq_true c11b0);(try have h12_:=of_eq_true c12b0);(try have h13_:=of_eq_true c13b0);(try have h14_:=of_eq_true c14b0);(try have h15_:=of_eq_true c15b0);(try have h16_:=of_eq_true c16b0);(try have h17_:=of_eq_true c17b0);(try have h18_:=of_eq_true c18b0);omega)
                by_cases c20:0≤t262
                ·rw [if_pos c20] at H
                 have c20b0:=eq_true c20
                 have c20b1:decide (0≤t262)=true:=decide_eq_true c20
                 clear c20
                 have c21b0:=eq_true (oT_:t262≤(a1.size:Int))
                 by_cases c22:((a1.extract 0 (x6_1:Int).toNat)++t270).size+(a1.extract (t262:Int).toNat a1.size).size≤9223372036854775807
                 ·rw [if_pos c22] at H
                  have c22b0:=eq_true c22
                  have c22b1:decide (((a1.extract 0 (x6_1:Int).toNat)++t270).size+(a1.extract (t262:Int).toNat a1.size).size≤9223372036854775807)=true:=decide_eq_true c22
                  try have c22b2:(9223372036854775807 < ((a1.extract 0 (x6_1:Int).toNat)++t270).size+(a1.extract (t262:Int).toNat a1.size).size)=False:=eq_false (Nat.not_lt.2 c22)
                  have c22b3:(9223372036854775807 < x6_1.toNat+t270.size+(a1.size - t262.toNat))=False:=eq_false (by have h_:=c22;simp only [ByteArray.size_append,ByteArray.size_extract] at h_;(try have h1_:=of_eq_true c1b0);(try have h2_:=of_eq_true c2b0);(try have h3_:=of_eq_true c3b0);(try have h4_:=of_eq_true c4b0);(try have h5_:=of_eq_true c5b0);(try have h6_:=of_eq_true c6b0);(try have h7_:=of_eq_true c7b0);(try have h8_:=of_eq_true c8b0);(try have h9_:=of_eq_true c9b0);(try have h10_:=of_eq_true c10b0);(try have h11_:=of_eq_true c11b0);(try have h12_:=of_eq_true c12b0);(try have h13_:=of_eq_true c13b0);(try have h14_:=of_eq_true c14b0);(try have h15_:=of_eq_true c15b0);(try have h16_:=of_eq_true c16b0);(try have h17_:=of_eq_true c17b0);(try have h18_:=of_eq_true c18b0);(try have h19_:=of_eq_true c19b0);(try have h20_:=of_eq_true c20b0);(try have h21_:=of_eq_true c21b0);omega)
                  replace H:=Option.bind_eq_some_iff.mp H
                  obtain ⟨t271,A230,H⟩:=H
                  replace H:(nr_Next.l1 k2 l0 a1 t271 x6_1 t262 (wrap64 (x8_2+1)))=some r:=H
                  have A23:=Aside0.mk A230
                  clear A230
                  have H':=Aside0.mk H
                  clear H
                  try go_wp2
                  have n0_:=Aside0.mk (Kd.R_drew HO_5.out)
                  have n1_:=Aside0.mk (below_drew1 HB.out)
                  clear HO_5
                  clear HB
                  have HO_5:=n0_
                  have HB:=n1_
                  clear n0_ n1_
                  have p263:0≤(x8_2:Int):=oT_
                  have q263:x8_2 < (l0.length:Int):=oT_
                  obtain ⟨ad263,e263,hx263_0,hx263_1⟩:=at_T94 HR0.out x8_2 p263 q263
                  have hw263_1:=hx263_1
                  have hw263_0:=hx263_0
                  cases e263
                  replace hx263_0:=cB_ HB hx263_0
                  replace hx263_1:=cB_ HB hx263_1
                  replace p263:=eq_true p263
                  replace q263:=eq_true q263
                  refine start_ (n:=16) (S:=fun w'=>w'.cell? (ad263.add ((x8_2).toNat * 2))=some (.string ((rd_T94 l0 x8_2).f0))∧w'.cell? ⟨(ad263.add ((x8_2).toNat * 2)).block,(ad263.add ((x8_2).toNat * 2)).off+1,none⟩=some (.string ((rd_T94 l0 x8_2).f1))) (ds:=[]) (bm 16 0) (by kernel_rfl) rfl rfl ⟨(cB_ HB hw263_0),(cB_ HB hw263_1)⟩ (fun hHeld=>?_);refine with_tabW nr_Next.tab10 nr_Next.bits10 (fun HT_ HW_=>?_)
                  generalize wr.drew=w24 at HO_5 HB hx263_0 hx263_1 hHeld ⊢
                  refine pj_ 0 32 (bm 16 1) (any_of HT_.out (by kernel_rfl)) ?_
                  refine pj_ 1 33 (bm 16 3) (any_of HT_.out (by kernel_rfl)) ?_
                  refine pj_ 2 34 (bm 16 7) (any_of HT_.out (by kernel_rfl)) ?_
                  refine pj_ 3 35 (bm 16 15) (any_of HT_.out (by kernel_rfl)) ?_
                  refine pj_ 5 37 (bm 16 47) (any_of HT_.out (by kernel_rfl)) ?_
                  refine pj_ 6 38 (bm 16 111) (any_of HT_.out (by kernel_rfl)) ?_
                  refine pj_ 7 39 (bm 16 239) (any_of HT_.out (by kernel_rfl)) ?_
                  refine pj_ 8 40 (bm 16 495) (any_of HT_.out (by kernel_rfl)) ?_
                  refine take_ (i:=4) (N:=some 36) (v:=?_) (a':=?_) (bm 16 511) rfl rfl (take_ofW HT_.out HW_.out (by kernel_rfl)) (fun _ _ _ h=>h) (Or.inl ⟨by rfl,?_⟩) hHeld ?_ ?_;rotate_left;(rintro w' ⟨s0,s1⟩;go_simp;with_reducible rfl);rotate_left;exact tP_
                  refine join_ (σ:=Nat) 2 #[true,true,true,true,true,true,true,true,true,true,true,true,true,true,false,false] (fun s_=>[(41,.tuple #[.agg #[.string t264,.string t265,.string t266],.bool true]),(9,.pointer (some ⟨s_,0,none⟩)),(31,.tuple #[.agg #[.string t264,.string t265,.string t266],.bool true]),(42,.agg #[.string t264,.string t265,.string t266]),(43,.bool true)]) (fun s_ w'=>(w'.cell? (ad263.add ((x8_2).toNat * 2))=some (.string ((rd_T94 l0 x8_2).f0))∧w'.cell? ⟨(ad263.add ((x8_2).toNat * 2)).block,(ad263.add ((x8_2).toNat * 2)).off+1,none⟩=some (.string ((rd_T94 l0 x8_2).f1)))∧(Kd.R Kd.string 9 w' w.heap.size (fun _=>True) u5 x5_2)∧(w'.heap[s_]?=some (.cells #[.string (⟨#[]⟩:ByteArray),.string (⟨#[]⟩:ByteArray),.string (⟨#[]⟩:ByteArray)] 61 (0,0)))∧(w.heap.size≤s_)∧(w.heap.size≤s_)∧(Below w.heap.size w w')) ?_ ?_
                  rotate_left
                  ·intro hCont
                   refine two_ (i:=9) (j:=13) (Ni:=some 41) (Nj:=some 9) #[true,true,true,true,true,true,true,true,true,true,false,false,false,false,false,false] #[true,true,true,true,true,true,true,true,true,false,false,false,false,true,false,false] rfl rfl rfl rfl (two_of HT_.out (by kernel_rfl)) (by decide) (by decide) (fun K hK=>?_) (fun K hK=>?_)
                   ·skip
                    refine goes_ Tryz.func48 (by kernel_rfl) rfl #[.string ((rd_T94 l0 x8_2).f0),.string (a1.extract (x6_1:Int).toNat (t262:Int).toNat)] (by rfl) rfl rfl tM_ ?_
                    with_reducible refine (nr_Match.calls ((rd_T94 l0 x8_2).f0) (a1.extract (x6_1:Int).toNat (t262:Int).toNat) t264 t265 t266 true _ A14.out).mono ?_
                    rintro e w25 ⟨rfl,hb⟩
                    refine ⟨_,rfl,?_⟩
                    have n0_:=Aside0.mk (Kd.R_below (tR_ HO_5) hb)
                    have n1_:=Aside0.mk (below_step (tB_ HB) hb)
                    clear HO_5
                    clear HB
                    have HO_5:=n0_
                    have HB:=n1_
                    clear n0_ n1_
                    (try clear hb)
                    (try clear hb2)
                    (try clear hk)
                    (try clear hi)
                    refine hK.out _ _ ⟨(cB_ HB hw263_0),(cB_ HB hw263_1)⟩ (fun hHeld=>?_)
                    clear hK K
                    refine norm_ (a':=?_) ?_ ?_;rotate_left;(show Act.put _ (some 41) _=_;exact tP_)
                    refine pj_ 10 31 (bm 16 2047) (any_of HT_.out (by kernel_rfl)) ?_
                    refine pj_ 11 42 (bm 16 4095) (any_of HT_.out (by kernel_rfl)) ?_
                    refine pj_ 12 43 (bm 16 8191) (any_of HT_.out (by kernel_rfl)) ?_
                    refine one_ (i:=13) (N:=some 9) (bm 16 16383) rfl rfl (one_of HT_.out (by kernel_rfl)) (by decide) (fun K hK=>?_)
                    refine box_step ?hg (N:=9) ?hd (cs:=#[.string (⟨#[]⟩:ByteArray),.string (⟨#[]⟩:ByteArray),.string (⟨#[]⟩:ByteArray)]) (t:=61) ?hr ?_;(case hd=>rfl);(case hg=>rfl);(case hr=>first|(go_simp;done)|(go_simp;rfl))
                    intro gb268 hg w26 hbox hb
                    have n0_:=Aside0.mk (Kd.R_below (tR_ HO_5) hb)
                    have n1_:=Aside0.mk (below_step (tB_ HB) hb)
                    have n2_:=Aside0.mk (hbox)
                    have n3_:=Aside0.mk ((by rw [hg];exact (below_size (tB_ HB)):w.heap.size≤gb268))
                    have n4_:=Aside0.mk ((by rw [hg];exact (below_size (tB_ HB)):w.heap.size≤gb268))
                    clear HO_5
                    clear HB
                    have HO_5:=n0_
                    have HB:=n1_
                    have BK268:=n2_
                    have GW268:=n3_
                    have GE268:=n4_
                    clear n0_ n1_ n2_ n3_ n4_
                    clear hb hbox hg
                    refine hK.out _ _ ⟨(cB_ HB hw263_0),(cB_ HB hw263_1)⟩ (fun hHeld=>?_)
                    clear hK K
                    refine norm_ (a':=?_) ?_ ?_;rotate_left;(show Act.put _ (some 9) _=_;exact tP_)
                    exact norm_ (by simp only [putAll,Act.put,List.setIfInBounds_toArray,List.set_cons_zero,List.set_cons_succ]) (hCont (gb268) _ ⟨hHeld,(tR_ HO_5),(by (with_reducible repeat (first|refine blk_drewN ?_ _|refine blk_drew ?_|refine blk_alloc ?_ _));exact BK268.out),GW268.out,GE268.out,(by repeat (first|(with_reducible first|exact HB.out|apply below_alloc|apply pw_below_drewN|apply below_drew1|refine below_set ?_ GE268.out)|exact HB.out))⟩)
                   ·skip
                    refine box_step ?hg (N:=9) ?hd (cs:=#[.string (⟨#[]⟩:ByteArray),.string (⟨#[]⟩:ByteArray),.string (⟨#[]⟩:ByteArray)]) (t:=61) ?hr ?_;(case hd=>rfl);(case hg=>rfl);(case hr=>first|(go_simp;done)|(go_simp;rfl))
                    intro gb268 hg w25 hbox hb
                    have n0_:=Aside0.mk (Kd.R_below (tR_ HO_5) hb)
                    have n1_:=Aside0.mk (below_step (tB_ HB) hb)
                    have n2_:=Aside0.mk (hbox)
                    have n3_:=Aside0.mk ((by rw [hg];exact (below_size (tB_ HB)):w.heap.size≤gb268))
                    have n4_:=Aside0.mk ((by rw [hg];exact (below_size (tB_ HB)):w.heap.size≤gb268))
                    clear HO_5
                    clear HB
                    have HO_5:=n0_
                    have HB:=n1_
                    have BK268:=n2_
                    have GW268:=n3_
                    have GE268:=n4_
                    clear n0_ n1_ n2_ n3_ n4_
                    clear hb hbox hg
                    refine hK.out _ _ ⟨(cB_ HB hw263_0),(cB_ HB hw263_1)⟩ (fun hHeld=>?_)
                    clear hK K
                    refine norm_ (a':=?_) ?_ ?_;rotate_left;(show Act.put _ (some 9) _=_;exact tP_)
                    refine one_ (i:=9) (N:=some 41) (bm 16 9215) rfl rfl (one_of HT_.out (by kernel_rfl)) (by decide) (fun K hK=>?_)
                    refine goes_ Tryz.func48 (by kernel_rfl) rfl #[.string ((rd_T94 l0 x8_2).f0),.string (a1.extract (x6_1:Int).toNat (t262:Int).toNat)] (by rfl) rfl rfl tM_ ?_
                    with_reducible refine (nr_Match.calls ((rd_T94 l0 x8_2).f0) (a1.extract (x6_1:Int).toNat (t262:Int).toNat) t264 t265 t266 true _ A14.out).mono ?_
                    rintro e w26 ⟨rfl,hb⟩
                    refine ⟨_,rfl,?_⟩
                    have n0_:=Aside0.mk (Kd.R_below (tR_ HO_5) hb)
                    have n1_:=Aside0.mk (blk_below (g:=gb268) (o:=.cells #[.string (⟨#[]⟩:ByteArray),.string (⟨#[]⟩:ByteArray),.string (⟨#[]⟩:ByteArray)] 61 (0,0)) (by (with_reducible repeat (first|refine blk_drewN ?_ _|refine blk_drew ?_|refine blk_alloc ?_ _));exact BK268.out) hb)
                    have n2_:=Aside0.mk (below_step (by repeat (first|(with_reducible first|exact HB.out|apply below_alloc|apply pw_below_drewN|apply below_drew1|refine below_set ?_ GE268.out)|exact HB.out)) hb)
                    clear HO_5
                    clear BK268
                    clear HB
                    have HO_5:=n0_
                    have BK268:=n1_
                    have HB:=n2_
                    clear n0_ n1_ n2_
                    (try clear hb)
                    (try clear hb2)
                    (try clear hk)
                    (try clear hi)
                    refine hK.out _ _ ⟨(cB_ HB hw263_0),(cB_ HB hw263_1)⟩ (fun hHeld=>?_)
                    clear hK K
                    refine norm_ (a':=?_) ?_ ?_;rotate_left;(show Act.put _ (some 41) _=_;exact tP_)
                    refine pj_ 10 31 (bm 16 10239) (any_of HT_.out (by kernel_rfl)) ?_
                    refine pj_ 11 42 (bm 16 12287) (any_of HT_.out (by kernel_rfl)) ?_
                    refine pj_ 12 43 (bm 16 16383) (any_of HT_.out (by kernel_rfl)) ?_
                    exact norm_ (by simp only [putAll,Act.put,List.setIfInBounds_toArray,List.set_cons_zero,List.set_cons_succ]) (hCont (gb268) _ ⟨hHeld,(tR_ HO_5),(by (with_reducible repeat (first|refine blk_drewN ?_ _|refine blk_drew ?_|refine blk_alloc ?_ _));exact BK268.out),GW268.out,GE268.out,(by repeat (first|(with_reducible first|exact HB.out|apply below_alloc|apply pw_below_drewN|apply below_drew1|refine below_set ?_ GE268.out)|exact HB.out))⟩)
                  rintro gb268 w27 ⟨hS_,h0_,h1_,h2_,h3_,h4_⟩
                  have n0_:Aside0 (Kd.R Kd.string 9 w27 w.heap.size (fun _=>True) u5 x5_2):=⟨h0_⟩
                  have n1_:Aside0 (w27.heap[gb268]?=some (.cells #[.string (⟨#[]⟩:ByteArray),.string (⟨#[]⟩:ByteArray),.string (⟨#[]⟩:ByteArray)] 61 (0,0))):=⟨h1_⟩
                  have n2_:Aside0 (w.heap.size≤gb268):=⟨h2_⟩
                  have n3_:Aside0 (w.heap.size≤gb268):=⟨h3_⟩
                  have n4_:Aside0 (Below w.heap.size w w27):=⟨h4_⟩
                  clear HO_5
                  clear HB
                  clear h0_ h1_ h2_ h3_ h4_
                  have HO_5:=n0_
                  have BK268:=n1_
                  have GW268:=n2_
                  have GE268:=n3_
                  have HB:=n4_
                  clear n0_ n1_ n2_ n3_ n4_
                  have hHeld:w27.cell? (ad263.add ((x8_2).toNat * 2))=some (.string ((rd_T94 l0 x8_2).f0))∧w27.cell? ⟨(ad263.add ((x8_2).toNat * 2)).block,(ad263.add ((x8_2).toNat * 2)).off+1,none⟩=some (.string ((rd_T94 l0 x8_2).f1)):=hS_
                  refine norm_ (a':=?_) ?_ ?_;rotate_left
                  ·simp only [putAll,Act.put,List.setIfInBounds_toArray,List.set_cons_zero,List.set_cons_succ]
                   rfl
                  refine one_ (i:=14) (N:=none) (bm 16 32767) rfl rfl (one_of HT_.out (by kernel_rfl)) (by decide) (fun K hK=>?_)
                  have hs28:w27.cell? ⟨gb268,0,none⟩=some (.string (⟨#[]⟩:ByteArray)):=(blk_cell BK268.out 0).trans rfl
                  have hfs28:=blk_frozen BK268.out 0
                  have hs29:w27.cell? ⟨gb268,1,none⟩=some (.string (⟨#[]⟩:ByteArray)):=(blk_cell BK268.out 1).trans rfl
                  have hfs29:=blk_frozen BK268.out 1
                  have hs30:w27.cell? ⟨gb268,2,none⟩=some (.string (⟨#[]⟩:ByteArray)):=(blk_cell BK268.out 2).trans rfl
                  have hfs30:=blk_frozen BK268.out 2
                  refine skip_ (w1:=?_) (by rfl) rfl ?_ ?_
                  rotate_left
                  ·go_simp
                   rfl
                  refine hK.out _ _ ⟨((cell_far (p:=⟨gb268,_,none⟩) (by first|exact Nat.ne_of_lt (Nat.lt_of_lt_of_le (by have:=World.block_lt_of_cell? _ _ hw263_0;first|rwa [add_block] at this|exact this) GW268.out)|(rw [add_block];exact Nat.ne_of_lt (Nat.lt_of_lt_of_le (by have:=World.block_lt_of_cell? _ _ hw263_0;first|rwa [add_block] at this|exact this) GW268.out))|(show (Addr.add _ _).block≠_;rw [add_block];exact Nat.ne_of_lt (Nat.lt_of_lt_of_le (by have:=World.block_lt_of_cell? _ _ hw263_0;first|rwa [add_block] at this|exact this) GW268.out))|(dsimp only;exact Nat.ne_of_lt (Nat.lt_of_lt_of_le (by have:=World.block_lt_of_cell? _ _ hw263_0;first|rwa [add_block] at this|exact this) GW268.out))) _).trans (((cell_far (p:=⟨gb268,_,none⟩) (by first|exact Nat.ne_of_lt (Nat.lt_of_lt_of_le (by have:=World.block_lt_of_cell? _ _ hw263_0;first|rwa [add_block] at this|exact this) GW268.out)|(rw [add_block];exact Nat.ne_of_lt (Nat.lt_of_lt_of_le (by have:=World.block_lt_of_cell? _ _ hw263_0;first|rwa [add_block] at this|exact this) GW268.out))|(show (Addr.add _ _).block≠_;rw [add_block];exact Nat.ne_of_lt (Nat.lt_of_lt_of_le (by have:=World.block_lt_of_cell? _ _ hw263_0;first|rwa [add_block] at this|exact this) GW268.out))|(dsimp only;exact Nat.ne_of_lt (Nat.lt_of_lt_of_le (by have:=World.block_lt_of_cell? _ _ hw263_0;first|rwa [add_block] at this|exact this) GW268.out))) _).trans (((cell_far (p:=⟨gb268,_,none⟩) (by first|exact Nat.ne_of_lt (Nat.lt_of_lt_of_le (by have:=World.block_lt_of_cell? _ _ hw263_0;first|rwa [add_block] at this|exact this) GW268.out)|(rw [add_block];exact Nat.ne_of_lt (Nat.lt_of_lt_of_le (by have:=World.block_lt_of_cell? _ _ hw263_0;first|rwa [add_block] at this|exact this) GW268.out))|(show (Addr.add _ _).block≠_;rw [add_block];exact Nat.ne_of_lt (Nat.lt_of_lt_of_le (by have:=World.block_lt_of_cell? _ _ hw263_0;first|rwa [add_block] at this|exact this) GW268.out))|(dsimp only;exact Nat.ne_of_lt (Nat.lt_of_lt_of_le (by have:=World.block_lt_of_cell? _ _ hw263_0;first|rwa [add_block] at this|exact this) GW268.out))) _).trans (hHeld.1)))))),((cell_far (p:=⟨gb268,_,none⟩) (by first|exact Nat.ne_of_lt (Nat.lt_of_lt_of_le (by have:=World.block_lt_of_cell? _ _ hw263_1;first|rwa [add_block] at this|exact this) GW268.out)|(rw [add_block];exact Nat.ne_of_lt (Nat.lt_of_lt_of_le (by have:=World.block_lt_of_cell? _ _ hw263_1;first|rwa [add_block] at this|exact this) GW268.out))|(show (Addr.add _ _).block≠_;rw [add_block];exact Nat.ne_of_lt (Nat.lt_of_lt_of_le (by have:=World.block_lt_of_cell? _ _ hw263_1;first|rwa [add_block] at this|exact this) GW268.out))|(dsimp only;exact Nat.ne_of_lt (Nat.lt_of_lt_of_le (by have:=World.block_lt_of_cell? _ _ hw263_1;first|rwa [add_block] at this|exact this) GW268.out))) _).trans (((cell_far (p:=⟨gb268,_,none⟩) (by first|exact Nat.ne_of_lt (Nat.lt_of_lt_of_le (by have:=World.block_lt_of_cell? _ _ hw263_1;first|rwa [add_block] at this|exact this) GW268.out)|(rw [add_block];exact Nat.ne_of_lt (Nat.lt_of_lt_of_le (by have:=World.block_lt_of_cell? _ _ hw263_1;first|rwa [add_block] at this|exact this) GW268.out))|(show (Addr.add _ _).block≠_;rw [add_block];exact Nat.ne_of_lt (Nat.lt_of_lt_of_le (by have:=World.block_lt_of_cell? _ _ hw263_1;first|rwa [add_block] at this|exact this) GW268.out))|(dsimp only;exact Nat.ne_of_lt (Nat.lt_of_lt_of_le (by have:=World.block_lt_of_cell? _ _ hw263_1;first|rwa [add_block] at this|exact this) GW268.out))) _).trans (((cell_far (p:=⟨gb268,_,none⟩) (by first|exact Nat.ne_of_lt (Nat.lt_of_lt_of_le (by have:=World.block_lt_of_cell? _ _ hw263_1;first|rwa [add_block] at this|exact this) GW268.out)|(rw [add_block];exact Nat.ne_of_lt (Nat.lt_of_lt_of_le (by have:=World.block_lt_of_cell? _ _ hw263_1;first|rwa [add_block] at this|exact this) GW268.out))|(show (Addr.add _ _).block≠_;rw [add_block];exact Nat.ne_of_lt (Nat.lt_of_lt_of_le (by have:=World.block_lt_of_cell? _ _ hw263_1;first|rwa [add_block] at this|exact this) GW268.out))|(dsimp only;exact Nat.ne_of_lt (Nat.lt_of_lt_of_le (by have:=World.block_lt_of_cell? _ _ hw263_1;first|rwa [add_block] at this|exact this) GW268.out))) _).trans (hHeld.2))))))⟩ (fun hHeld=>?_)
                  clear hK K
                  refine pj_ 15 10 (bm 16 65535) (any_of HT_.out (by kernel_rfl)) ?_
                  refine done_ (done_of HT_.out (by kernel_rfl)) ?_
                  try go_wp2
                  have n0_:Aside0 (Kd.R Kd.string 9 (((w27.setCell ⟨gb268,0,none⟩ (.string t264)).setCell ⟨gb268,1,none⟩ (.string t265)).setCell ⟨gb268,2,none⟩ (.string t266)) w.heap.size (fun _=>True) u5 x5_2):=⟨by (with_reducible repeat (first|apply Kd.R_alloc|apply Kd.R_drewN|apply Kd.R_drew));exact Kd.R_mono (Kd.R_far (p:=⟨gb268,2,none⟩) (Kd.R_far (p:=⟨gb268,1,none⟩) (Kd.R_far (p:=⟨gb268,0,none⟩) (Kd.R_types HO_5.out BK268.out (by decide)) (fun _ hk=>hk.2) (.string t264)) (fun _ hk=>hk.2) (.string t265)) (fun _ hk=>hk.2) (.string t266)) (fun _ hk=>trivial)⟩
                  have n1_:Aside0 ((((w27.setCell ⟨gb268,0,none⟩ (.string t264)).setCell ⟨gb268,1,none⟩ (.string t265)).setCell ⟨gb268,2,none⟩ (.string t266)).heap[gb268]?=some (.cells #[.string t264,.string t265,.string t266] 61 (0,0))):=⟨by (with_reducible repeat (first|refine blk_drewN ?_ _|refine blk_drew ?_|refine blk_alloc ?_ _));refine blk_put (cs:=#[.string t264,.string t265,.string (⟨#[]⟩:ByteArray)]) ?_ 2 _ rfl;(with_reducible repeat (first|refine blk_drewN ?_ _|refine blk_drew ?_|refine blk_alloc ?_ _));refine blk_put (cs:=#[.string t264,.string (⟨#[]⟩:ByteArray),.string (⟨#[]⟩:ByteArray)]) ?_ 1 _ rfl;(with_reducible repeat (first|refine blk_drewN ?_ _|refine blk_drew ?_|refine blk_alloc ?_ _));refine blk_put (cs:=#[.string (⟨#[]⟩:ByteArray),.string (⟨#[]⟩:ByteArray),.string (⟨#[]⟩:ByteArray)]) ?_ 0 _ rfl;(with_reducible repeat (first|refine blk_drewN ?_ _|refine blk_drew ?_|refine blk_alloc ?_ _));exact BK268.out⟩
                  have n2_:Aside0 (Below w.heap.size w (((w27.setCell ⟨gb268,0,none⟩ (.string t264)).setCell ⟨gb268,1,none⟩ (.string t265)).setCell ⟨gb268,2,none⟩ (.string t266))):=⟨by repeat (first|(with_reducible first|exact HB.out|apply below_alloc|apply pw_below_drewN|apply below_drew1|refine below_set ?_ GE268.out)|exact HB.out)⟩
                  (try clear HO_5)
                  (try clear BK268)
                  (try clear HB)
                  generalize (((w27.setCell ⟨gb268,0,none⟩ (.string t264)).setCell ⟨gb268,1,none⟩ (.string t265)).setCell ⟨gb268,2,none⟩ (.string t266))=w31 at n0_ n1_ n2_ ⊢
                  have HO_5:=n0_
                  have BK268:=n1_
                  have HB:=n2_
                  clear n0_ n1_ n2_
                  have n0_:=Aside0.mk (Kd.R_drew HO_5.out)
                  have n1_:=Aside0.mk (blk_drew BK268.out)
                  have n2_:=Aside0.mk (below_drew1 HB.out)
                  clear HO_5
                  clear BK268
                  clear HB
                  have HO_5:=n0_
                  have BK268:=n1_
                  have HB:=n2_
                  clear n0_ n1_ n2_
                  have p269:0≤(x8_2:Int):=oT_
                  have q269:x8_2 < (l0.length:Int):=oT_
                  obtain ⟨ad269,e269,hx269_0,hx269_1⟩:=at_T94 HR0.out x8_2 p269 q269
                  have hw269_1:=hx269_1
                  have hw269_0:=hx269_0
                  obtain rfl:ad263=ad269:=(by injection e269)
                  replace hx269_0:=cB_ HB hx269_0
                  replace hx269_1:=cB_ HB hx269_1
                  replace p269:=eq_true p269
                  replace q269:=eq_true q269
                  refine start_ (n:=18) (S:=fun w'=>w'.cell? ⟨gb268,0,none⟩=some (.string t264)∧w'.cell? ⟨gb268,1,none⟩=some (.string t265)∧w'.cell? ⟨gb268,2,none⟩=some (.string t266)∧w'.cell? (ad263.add ((x8_2).toNat * 2))=some (.string ((rd_T94 l0 x8_2).f0))∧w'.cell? ⟨(ad263.add ((x8_2).toNat * 2)).block,(ad263.add ((x8_2).toNat * 2)).off+1,none⟩=some (.string ((rd_T94 l0 x8_2).f1))) (ds:=[]) (bm 18 0) (by kernel_rfl) rfl rfl ⟨(blk_cell BK268.out 0).trans rfl,(blk_cell BK268.out 1).trans rfl,(blk_cell BK268.out 2).trans rfl,(cB_ HB hw269_0),(cB_ HB hw269_1)⟩ (fun hHeld=>?_);refine with_tabW nr_Next.tab12 nr_Next.bits12 (fun HT_ HW_=>?_)
                  generalize w31.drew=w32 at HO_5 BK268 HB hx269_0 hx269_1 hHeld ⊢
                  refine pj_ 0 45 (bm 18 1) (any_of HT_.out (by kernel_rfl)) ?_
                  refine pj_ 1 46 (bm 18 3) (any_of HT_.out (by kernel_rfl)) ?_
                  refine pj_ 2 47 (bm 18 7) (any_of HT_.out (by kernel_rfl)) ?_
                  refine pj_ 3 48 (bm 18 15) (any_of HT_.out (by kernel_rfl)) ?_
                  refine pj_ 4 49 (bm 18 31) (any_of HT_.out (by kernel_rfl)) ?_
                  refine pj_ 5 50 (bm 18 63) (any_of HT_.out (by kernel_rfl)) ?_
                  refine pj_ 6 51 (bm 18 127) (any_of HT_.out (by kernel_rfl)) ?_
                  refine pj_ 7 52 (bm 18 255) (any_of HT_.out (by kernel_rfl)) ?_
                  refine pj_ 12 57 (bm 18 4351) (any_of HT_.out (by kernel_rfl)) ?_
                  refine pj_ 13 58 (bm 18 12543) (any_of HT_.out (by kernel_rfl)) ?_
                  refine pj_ 14 59 (bm 18 28927) (any_of HT_.out (by kernel_rfl)) ?_
                  refine take_ (i:=8) (N:=some 53) (v:=?_) (a':=?_) (bm 18 29183) rfl rfl (take_ofW HT_.out HW_.out (by kernel_rfl)) (fun _ _ _ h=>h) (Or.inl ⟨by rfl,?_⟩) hHeld ?_ ?_;rotate_left;(rintro w' ⟨s0,s1,s2,s3,s4⟩;go_simp;with_reducible rfl);rotate_left;exact tP_
                  refine take_ (i:=9) (N:=some 54) (v:=?_) (a':=?_) (bm 18 29695) rfl rfl (take_ofW HT_.out HW_.out (by kernel_rfl)) (fun _ _ _ h=>h) (Or.inl ⟨by rfl,?_⟩) hHeld ?_ ?_;rotate_left;(rintro w' ⟨s0,s1,s2,s3,s4⟩;go_simp;with_reducible rfl);rotate_left;exact tP_
                  refine one_ (i:=10) (N:=some 55) (bm 18 30719) rfl rfl (one_of HT_.out (by kernel_rfl)) (by decide) (fun K hK=>?_)
                  refine goes_ Tryz.func46 (by kernel_rfl) rfl #[.string ((rd_T94 l0 x8_2).f1),.agg #[.string t264,.string t265,.string t266]] (by rfl) rfl rfl tM_ ?_
                  with_reducible refine (nr_Apply.calls ((rd_T94 l0 x8_2).f1) t264 t265 t266 t270 _ A18.out).mono ?_
                  rintro e w33 ⟨rfl,hb⟩
                  refine ⟨_,rfl,?_⟩
                  have n0_:=Aside0.mk (Kd.R_below (tR_ HO_5) hb)
                  have n1_:=Aside0.mk (blk_below (g:=gb268) (o:=.cells #[.string t264,.string t265,.string t266] 61 (0,0)) (by (with_reducible repeat (first|refine blk_drewN ?_ _|refine blk_drew ?_|refine blk_alloc ?_ _));exact BK268.out) hb)
                  have n2_:=Aside0.mk (below_step (by repeat (first|(with_reducible first|exact HB.out|apply below_alloc|apply pw_below_drewN|apply below_drew1|refine below_set ?_ GE268.out)|exact HB.out)) hb)
                  clear HO_5
                  clear BK268
                  clear HB
                  have HO_5:=n0_
                  have BK268:=n1_
                  have HB:=n2_
                  clear n0_ n1_ n2_
                  (try clear hb)
                  (try clear hb2)
                  (try clear hk)
                  (try clear hi)
                  obtain ⟨Ao34,co34,eo34⟩:=Kd.R_slice HO_5.out
                  (first|subst eo34|(injection eo34 with f1_ f2_ f3_;have f4_:=f1_.symm;have f5_:=f3_.symm;clear f1_ f2_ f3_;subst f4_;subst f5_))
                  refine hK.out _ _ ⟨(blk_cell BK268.out 0).trans rfl,(blk_cell BK268.out 1).trans rfl,(blk_cell BK268.out 2).trans rfl,(cB_ HB hw269_0),(cB_ HB hw269_1)⟩ (fun hHeld=>?_)
                  clear hK K
                  refine norm_ (a':=?_) ?_ ?_;rotate_left;(show Act.put _ (some 55) _=_;exact tP_)
                  refine pj_ 11 56 (bm 18 32767) (any_of HT_.out (by kernel_rfl)) ?_
                  refine pj_ 15 60 (bm 18 65535) (any_of HT_.out (by kernel_rfl)) ?_
                  refine one_ (i:=16) (N:=some 61) (bm 18 131071) rfl rfl (one_of HT_.out (by kernel_rfl)) (by decide) (fun K hK=>?_)
                  refine goes_ Tryz.func103 (by kernel_rfl) rfl #[.slice Ao34 x5_2.length co34,.string (((a1.extract 0 (x6_1:Int).toNat)++t270)++(a1.extract (t262:Int).toNat a1.size))] (by rfl) rfl rfl tM_ ?_
                  with_reducible refine (nr_insert.calls k2 (fun k_=>some k_=(.slice Ao34 x5_2.length co34:Value).ownBlock) (.slice Ao34 x5_2.length co34) x5_2 (((a1.extract 0 (x6_1:Int).toNat)++t270)++(a1.extract (t262:Int).toNat a1.size)) t271 w _ ?side1 ?side2 A23.out).mono ?_
                  (case side1=>repeat (first|(with_reducible first|exact HB.out|apply below_alloc|apply pw_below_drewN|apply below_drew1|refine below_set ?_ GE268.out)|exact HB.out))
                  (case side2=>exact Kd.R_tight rfl HO_5.out)
                  rintro e w35 ⟨v272,rfl,ho0,hb,hkp⟩
                  refine ⟨_,rfl,?_⟩
                  have n0_:=Aside0.mk (blk_kept (by (with_reducible repeat (first|refine blk_drewN ?_ _|refine blk_drew ?_|refine blk_alloc ?_ _));exact BK268.out) hkp (fun hs_=>(fun e_=>(Kd.R_ne HO_5.out BK268.out (by decide)) e_) hs_))
                  have n1_:=Aside0.mk (Kd.R_mono (ok':=fun k_=>True) ho0 (fun k_ hk_=>trivial))
                  have n2_:=Aside0.mk (hb)
                  clear BK268
                  clear HB
                  clear HO_5
                  have BK268:=n0_
                  have HO273:=n1_
                  have HB:=n2_
                  clear n0_ n1_ n2_
                  (try clear hb)
                  (try clear hkp)
                  (try clear ho0)
                  refine hK.out _ _ ⟨(blk_cell BK268.out 0).trans rfl,(blk_cell BK268.out 1).trans rfl,(blk_cell BK268.out 2).trans rfl,(cB_ HB hw269_0),(cB_ HB hw269_1)⟩ (fun hHeld=>?_)
                  clear hK K
                  refine norm_ (a':=?_) ?_ ?_;rotate_left;(show Act.put _ (some 61) _=_;exact tP_)
                  refine pj_ 17 5 (bm 18 262143) (any_of HT_.out (by kernel_rfl)) ?_
                  refine done_ (done_of HT_.out (by kernel_rfl)) ?_
                  try go_wp2
                  go_roundg k2
                  case measure=>have:=HK1.out;have:=HK2.out;omega
                  case rel=>exact ⟨(t271),(wrap64 (x8_2+1)),tS_,H',⟨by have:=HK1.out;have:=HK2.out;omega⟩,⟨tR_ HO273⟩,⟨by repeat (first|(with_reducible first|exact HB.out|apply below_alloc|apply pw_below_drewN|apply below_drew1|refine below_set ?_ GE268.out)|exact HB.out)⟩⟩
                 ·rw [if_neg c22] at H
                  exact absurd H (by simp)
                ·rw [if_neg c20] at H
                 exact absurd H (by simp)
               ·rw [if_neg c19] at H
                exact absurd H (by simp)
              ·rw [if_neg c17] at H
               exact absurd H (by simp)
             ·replace c15:=Bool.eq_false_iff.mpr c15
              subst c15
              have H1:(nr_Next.l1 k2 l0 a1 x5_2 x6_1 t262 (wrap64 (x8_2+1)))=some r:=by rw [if_neg (show ¬ (false=true) by decide)] at H;exact H
              clear H
              have H:=H1
              clear H1
              have H':=Aside0.mk H
              clear H
              try go_wp2
              have n0_:=Aside0.mk (Kd.R_drew HO_5.out)
              have n1_:=Aside0.mk (below_drew1 HB.out)
              clear HO_5
              clear HB
              have HO_5:=n0_
              have HB:=n1_
              clear n0_ n1_
              have p263:0≤(x8_2:Int):=oT_
              have q263:x8_2 < (l0.length:Int):=oT_
              obtain ⟨ad263,e263,hx263_0,hx263_1⟩:=at_T94 HR0.out x8_2 p263 q263
              have hw263_1:=hx263_1
              have hw263_0:=hx263_0
              cases e263
              replace hx263_0:=cB_ HB hx263_0
              replace hx263_1:=cB_ HB hx263_1
              replace p263:=eq_true p263
              replace q263:=eq_true q263
              refine start_ (n:=16) (S:=fun w'=>w'.cell? (ad263.add ((x8_2).toNat * 2))=some (.string ((rd_T94 l0 x8_2).f0))∧w'.cell? ⟨(ad263.add ((x8_2).toNat * 2)).block,(ad263.add ((x8_2).toNat * 2)).off+1,none⟩=some (.string ((rd_T94 l0 x8_2).f1))) (ds:=[]) (bm 16 0) (by kernel_rfl) rfl rfl ⟨(cB_ HB hw263_0),(cB_ HB hw263_1)⟩ (fun hHeld=>?_);refine with_tabW nr_Next.tab10 nr_Next.bits10 (fun HT_ HW_=>?_)
              generalize wr.drew=w36 at HO_5 HB hx263_0 hx263_1 hHeld ⊢
              refine pj_ 0 32 (bm 16 1) (any_of HT_.out (by kernel_rfl)) ?_
              refine pj_ 1 33 (bm 16 3) (any_of HT_.out (by kernel_rfl)) ?_
              refine pj_ 2 34 (bm 16 7) (any_of HT_.out (by kernel_rfl)) ?_
              refine pj_ 3 35 (bm 16 15) (any_of HT_.out (by kernel_rfl)) ?_
              refine pj_ 5 37 (bm 16 47) (any_of HT_.out (by kernel_rfl)) ?_
              refine pj_ 6 38 (bm 16 111) (any_of HT_.out (by kernel_rfl)) ?_
              refine pj_ 7 39 (bm 16 239) (any_of HT_.out (by kernel_rfl)) ?_
              refine pj_ 8 40 (bm 16 495) (any_of HT_.out (by kernel_rfl)) ?_
              refine take_ (i:=4) (N:=some 36) (v:=?_) (a':=?_) (bm 16 511) rfl rfl (take_ofW HT_.out HW_.out (by kernel_rfl)) (fun _ _ _ h=>h) (Or.inl ⟨by rfl,?_⟩) hHeld ?_ ?_;rotate_left;(rintro w' ⟨s0,s1⟩;go_simp;with_reducible rfl);rotate_left;exact tP_
              refine join_ (σ:=Nat) 2 #[true,true,true,true,true,true,true,true,true,true,true,true,true,true,false,false] (fun s_=>[(41,.tuple #[.agg #[.string t264,.string t265,.string t266],.bool false]),(9,.pointer (some ⟨s_,0,none⟩)),(31,.tuple #[.agg #[.string t264,.string t265,.string t266],.bool false]),(42,.agg #[.string t264,.string t265,.string t266]),(43,.bool false)]) (fun s_ w'=>(w'.cell? (ad263.add ((x8_2).toNat * 2))=some (.string ((rd_T94 l0 x8_2).f0))∧w'.cell? ⟨(ad263.add ((x8_2).toNat * 2)).block,(ad263.add ((x8_2).toNat * 2)).off+1,none⟩=some (.string ((rd_T94 l0 x8_2).f1)))∧(Kd.R Kd.string 9 w' w.heap.size (fun _=>True) u5 x5_2)∧(w'.heap[s_]?=some (.cells #[.string (⟨#[]⟩:ByteArray),.string (⟨#[]⟩:ByteArray),.string (⟨#[]⟩:ByteArray)] 61 (0,0)))∧(w.heap.size≤s_)∧(w.heap.size≤s_)∧(Below w.heap.size w w')) ?_ ?_
              rotate_left
              ·intro hCont
               refine two_ (i:=9) (j:=13) (Ni:=some 41) (Nj:=some 9) #[true,true,true,true,true,true,true,true,true,true,false,false,false,false,false,false] #[true,true,true,true,true,true,true,true,true,false,false,false,false,true,false,false] rfl rfl rfl rfl (two_of HT_.out (by kernel_rfl)) (by decide) (by decide) (fun K hK=>?_) (fun K hK=>?_)
               ·skip
                refine goes_ Tryz.func48 (by kernel_rfl) rfl #[.string ((rd_T94 l0 x8_2).f0),.string (a1.extract (x6_1:Int).toNat (t262:Int).toNat)] (by rfl) rfl rfl tM_ ?_
                with_reducible refine (nr_Match.calls ((rd_T94 l0 x8_2).f0) (a1.extract (x6_1:Int).toNat (t262:Int).toNat) t264 t265 t266 false _ A14.out).mono ?_
                rintro e w37 ⟨rfl,hb⟩
                refine ⟨_,rfl,?_⟩
                have n0_:=Aside0.mk (Kd.R_below (tR_ HO_5) hb)
                have n1_:=Aside0.mk (below_step (tB_ HB) hb)
                clear HO_5
                clear HB
                have HO_5:=n0_
                have HB:=n1_
                clear n0_ n1_
                (try clear hb)
                (try clear hb2)
                (try clear hk)
                (try clear hi)
                refine hK.out _ _ ⟨(cB_ HB hw263_0),(cB_ HB hw263_1)⟩ (fun hHeld=>?_)
                clear hK K
                refine norm_ (a':=?_) ?_ ?_;rotate_left;(show Act.put _ (some 41) _=_;exact tP_)
                refine pj_ 10 31 (bm 16 2047) (any_of HT_.out (by kernel_rfl)) ?_
                refine pj_ 11 42 (bm 16 4095) (any_of HT_.out (by kernel_rfl)) ?_
                refine pj_ 12 43 (bm 16 8191) (any_of HT_.out (by kernel_rfl)) ?_
                refine one_ (i:=13) (N:=some 9) (bm 16 16383) rfl rfl (one_of HT_.out (by kernel_rfl)) (by decide) (fun K hK=>?_)
                refine box_step ?hg (N:=9) ?hd (cs:=#[.string (⟨#[]⟩:ByteArray),.string (⟨#[]⟩:ByteArray),.string (⟨#[]⟩:ByteArray)]) (t:=61) ?hr ?_;(case hd=>rfl);(case hg=>rfl);(case hr=>first|(go_simp;done)|(go_simp;rfl))
                intro gb268 hg w38 hbox hb
                have n0_:=Aside0.mk (Kd.R_below (tR_ HO_5) hb)
                have n1_:=Aside0.mk (below_step (tB_ HB) hb)
                have n2_:=Aside0.mk (hbox)
                have n3_:=Aside0.mk ((by rw [hg];exact (below_size (tB_ HB)):w.heap.size≤gb268))
                have n4_:=Aside0.mk ((by rw [hg];exact (below_size (tB_ HB)):w.heap.size≤gb268))
                clear HO_5
                clear HB
                have HO_5:=n0_
                have HB:=n1_
                have BK268:=n2_
                have GW268:=n3_
                have GE268:=n4_
                clear n0_ n1_ n2_ n3_ n4_
                clear hb hbox hg
                refine hK.out _ _ ⟨(cB_ HB hw263_0),(cB_ HB hw263_1)⟩ (fun hHeld=>?_)
                clear hK K
                refine norm_ (a':=?_) ?_ ?_;rotate_left;(show Act.put _ (some 9) _=_;exact tP_)
                exact norm_ (by simp only [putAll,Act.put,List.setIfInBounds_toArray,List.set_cons_zero,List.set_cons_succ]) (hCont (gb268) _ ⟨hHeld,(tR_ HO_5),(by (with_reducible repeat (first|refine blk_drewN ?_ _|refine blk_drew ?_|refine blk_alloc ?_ _));exact BK268.out),GW268.out,GE268.out,(by repeat (first|(with_reducible first|exact HB.out|apply below_alloc|apply pw_below_drewN|apply below_drew1|refine below_set ?_ GE268.out)|exact HB.out))⟩)
               ·skip
                refine box_step ?hg (N:=9) ?hd (cs:=#[.string (⟨#[]⟩:ByteArray),.string (⟨#[]⟩:ByteArray),.string (⟨#[]⟩:ByteArray)]) (t:=61) ?hr ?_;(case hd=>rfl);(case hg=>rfl);(case hr=>first|(go_simp;done)|(go_simp;rfl))
                intro gb268 hg w37 hbox hb
                have n0_:=Aside0.mk (Kd.R_below (tR_ HO_5) hb)
                have n1_:=Aside0.mk (below_step (tB_ HB) hb)
                have n2_:=Aside0.mk (hbox)
                have n3_:=Aside0.mk ((by rw [hg];exact (below_size (tB_ HB)):w.heap.size≤gb268))
                have n4_:=Aside0.mk ((by rw [hg];exact (below_size (tB_ HB)):w.heap.size≤gb268))
                clear HO_5
                clear HB
                have HO_5:=n0_
                have HB:=n1_
                have BK268:=n2_
                have GW268:=n3_
                have GE268:=n4_
                clear n0_ n1_ n2_ n3_ n4_
                clear hb hbox hg
                refine hK.out _ _ ⟨(cB_ HB hw263_0),(cB_ HB hw263_1)⟩ (fun hHeld=>?_)
                clear hK K
                refine norm_ (a':=?_) ?_ ?_;rotate_left;(show Act.put _ (some 9) _=_;exact tP_)
                refine one_ (i:=9) (N:=some 41) (bm 16 9215) rfl rfl (one_of HT_.out (by kernel_rfl)) (by decide) (fun K hK=>?_)
                refine goes_ Tryz.func48 (by kernel_rfl) rfl #[.string ((rd_T94 l0 x8_2).f0),.string (a1.extract (x6_1:Int).toNat (t262:Int).toNat)] (by rfl) rfl rfl tM_ ?_
                with_reducible refine (nr_Match.calls ((rd_T94 l0 x8_2).f0) (a1.extract (x6_1:Int).toNat (t262:Int).toNat) t264 t265 t266 false _ A14.out).mono ?_
                rintro e w38 ⟨rfl,hb⟩
                refine ⟨_,rfl,?_⟩
                have n0_:=Aside0.mk (Kd.R_below (tR_ HO_5) hb)
                have n1_:=Aside0.mk (blk_below (g:=gb268) (o:=.cells #[.string (⟨#[]⟩:ByteArray),.string (⟨#[]⟩:ByteArray),.string (⟨#[]⟩:ByteArray)] 61 (0,0)) (by (with_reducible repeat (first|refine blk_drewN ?_ _|refine blk_drew ?_|refine blk_alloc ?_ _));exact BK268.out) hb)
                have n2_:=Aside0.mk (below_step (by repeat (first|(with_reducible first|exact HB.out|apply below_alloc|apply pw_below_drewN|apply below_drew1|refine below_set ?_ GE268.out)|exact HB.out)) hb)
                clear HO_5
                clear BK268
                clear HB
                have HO_5:=n0_
                have BK268:=n1_
                have HB:=n2_
                clear n0_ n1_ n2_
                (try clear hb)
                (try clear hb2)
                (try clear hk)
                (try clear hi)
                refine hK.out _ _ ⟨(cB_ HB hw263_0),(cB_ HB hw263_1)⟩ (fun hHeld=>?_)
                clear hK K
                refine norm_ (a':=?_) ?_ ?_;rotate_left;(show Act.put _ (some 41) _=_;exact tP_)
                refine pj_ 10 31 (bm 16 10239) (any_of HT_.out (by kernel_rfl)) ?_
                refine pj_ 11 42 (bm 16 12287) (any_of HT_.out (by kernel_rfl)) ?_
                refine pj_ 12 43 (bm 16 16383) (any_of HT_.out (by kernel_rfl)) ?_
                exact norm_ (by simp only [putAll,Act.put,List.setIfInBounds_toArray,List.set_cons_zero,List.set_cons_succ]) (hCont (gb268) _ ⟨hHeld,(tR_ HO_5),(by (with_reducible repeat (first|refine blk_drewN ?_ _|refine blk_drew ?_|refine blk_alloc ?_ _));exact BK268.out),GW268.out,GE268.out,(by repeat (first|(with_reducible first|exact HB.out|apply below_alloc|apply pw_below_drewN|apply below_drew1|refine below_set ?_ GE268.out)|exact HB.out))⟩)
              rintro gb268 w39 ⟨hS_,h0_,h1_,h2_,h3_,h4_⟩
              have n0_:Aside0 (Kd.R Kd.string 9 w39 w.heap.size (fun _=>True) u5 x5_2):=⟨h0_⟩
              have n1_:Aside0 (w39.heap[gb268]?=some (.cells #[.string (⟨#[]⟩:ByteArray),.string (⟨#[]⟩:ByteArray),.string (⟨#[]⟩:ByteArray)] 61 (0,0))):=⟨h1_⟩
              have n2_:Aside0 (w.heap.size≤gb268):=⟨h2_⟩
              have n3_:Aside0 (w.heap.size≤gb268):=⟨h3_⟩
              have n4_:Aside0 (Below w.heap.size w w39):=⟨h4_⟩
              clear HO_5
              clear HB
              clear h0_ h1_ h2_ h3_ h4_
              have HO_5:=n0_
              have BK268:=n1_
              have GW268:=n2_
              have GE268:=n3_
              have HB:=n4_
              clear n0_ n1_ n2_ n3_ n4_
              have hHeld:w39.cell? (ad263.add ((x8_2).toNat * 2))=some (.string ((rd_T94 l0 x8_2).f0))∧w39.cell? ⟨(ad263.add ((x8_2).toNat * 2)).block,(ad263.add ((x8_2).toNat * 2)).off+1,none⟩=some (.string ((rd_T94 l0 x8_2).f1)):=hS_
              refine norm_ (a':=?_) ?_ ?_;rotate_left
              ·simp only [putAll,Act.put,List.setIfInBounds_toArray,List.set_cons_zero,List.set_cons_succ]
               rfl
              refine one_ (i:=14) (N:=none) (bm 16 32767) rfl rfl (one_of HT_.out (by kernel_rfl)) (by decide) (fun K hK=>?_)
              have hs40:w39.cell? ⟨gb268,0,none⟩=some (.string (⟨#[]⟩:ByteArray)):=(blk_cell BK268.out 0).trans rfl
              have hfs40:=blk_frozen BK268.out 0
              have hs41:w39.cell? ⟨gb268,1,none⟩=some (.string (⟨#[]⟩:ByteArray)):=(blk_cell BK268.out 1).trans rfl
              have hfs41:=blk_frozen BK268.out 1
              have hs42:w39.cell? ⟨gb268,2,none⟩=some (.string (⟨#[]⟩:ByteArray)):=(blk_cell BK268.out 2).trans rfl
              have hfs42:=blk_frozen BK268.out 2
              refine skip_ (w1:=?_) (by rfl) rfl ?_ ?_
              rotate_left
              ·go_simp
               rfl
              refine hK.out _ _ ⟨((cell_far (p:=⟨gb268,_,none⟩) (by first|exact Nat.ne_of_lt (Nat.lt_of_lt_of_le (by have:=World.block_lt_of_cell? _ _ hw263_0;first|rwa [add_block] at this|exact this) GW268.out)|(rw [add_block];exact Nat.ne_of_lt (Nat.lt_of_lt_of_le (by have:=World.block_lt_of_cell? _ _ hw263_0;first|rwa [add_block] at this|exact this) GW268.out))|(show (Addr.add _ _).block≠_;rw [add_block];exact Nat.ne_of_lt (Nat.lt_of_lt_of_le (by have:=World.block_lt_of_cell? _ _ hw263_0;first|rwa [add_block] at this|exact this) GW268.out))|(dsimp only;exact Nat.ne_of_lt (Nat.lt_of_lt_of_le (by have:=World.block_lt_of_cell? _ _ hw263_0;first|rwa [add_block] at this|exact this) GW268.out))) _).trans (((cell_far (p:=⟨gb268,_,none⟩) (by first|exact Nat.ne_of_lt (Nat.lt_of_lt_of_le (by have:=World.block_lt_of_cell? _ _ hw263_0;first|rwa [add_block] at this|exact this) GW268.out)|(rw [add_block];exact Nat.ne_of_lt (Nat.lt_of_lt_of_le (by have:=World.block_lt_of_cell? _ _ hw263_0;first|rwa [add_block] at this|exact this) GW268.out))|(show (Addr.add _ _).block≠_;rw [add_block];exact Nat.ne_of_lt (Nat.lt_of_lt_of_le (by have:=World.block_lt_of_cell? _ _ hw263_0;first|rwa [add_block] at this|exact this) GW268.out))|(dsimp only;exact Nat.ne_of_lt (Nat.lt_of_lt_of_le (by have:=World.block_lt_of_cell? _ _ hw263_0;first|rwa [add_block] at this|exact this) GW268.out))) _).trans (((cell_far (p:=⟨gb268,_,none⟩) (by first|exact Nat.ne_of_lt (Nat.lt_of_lt_of_le (by have:=World.block_lt_of_cell? _ _ hw263_0;first|rwa [add_block] at this|exact this) GW268.out)|(rw [add_block];exact Nat.ne_of_lt (Nat.lt_of_lt_of_le (by have:=World.block_lt_of_cell? _ _ hw263_0;first|rwa [add_block] at this|exact this) GW268.out))|(show (Addr.add _ _).block≠_;rw [add_block];exact Nat.ne_of_lt (Nat.lt_of_lt_of_le (by have:=World.block_lt_of_cell? _ _ hw263_0;first|rwa [add_block] at this|exact this) GW268.out))|(dsimp only;exact Nat.ne_of_lt (Nat.lt_of_lt_of_le (by have:=World.block_lt_of_cell? _ _ hw263_0;first|rwa [add_block] at this|exact this) GW268.out))) _).trans (hHeld.1)))))),((cell_far (p:=⟨gb268,_,none⟩) (by first|exact Nat.ne_of_lt (Nat.lt_of_lt_of_le (by have:=World.block_lt_of_cell? _ _ hw263_1;first|rwa [add_block] at this|exact this) GW268.out)|(rw [add_block];exact Nat.ne_of_lt (Nat.lt_of_lt_of_le (by have:=World.block_lt_of_cell? _ _ hw263_1;first|rwa [add_block] at this|exact this) GW268.out))|(show (Addr.add _ _).block≠_;rw [add_block];exact Nat.ne_of_lt (Nat.lt_of_lt_of_le (by have:=World.block_lt_of_cell? _ _ hw263_1;first|rwa [add_block] at this|exact this) GW268.out))|(dsimp only;exact Nat.ne_of_lt (Nat.lt_of_lt_of_le (by have:=World.block_lt_of_cell? _ _ hw263_1;first|rwa [add_block] at this|exact this) GW268.out))) _).trans (((cell_far (p:=⟨gb268,_,none⟩) (by first|exact Nat.ne_of_lt (Nat.lt_of_lt_of_le (by have:=World.block_lt_of_cell? _ _ hw263_1;first|rwa [add_block] at this|exact this) GW268.out)|(rw [add_block];exact Nat.ne_of_lt (Nat.lt_of_lt_of_le (by have:=World.block_lt_of_cell? _ _ hw263_1;first|rwa [add_block] at this|exact this) GW268.out))|(show (Addr.add _ _).block≠_;rw [add_block];exact Nat.ne_of_lt (Nat.lt_of_lt_of_le (by have:=World.block_lt_of_cell? _ _ hw263_1;first|rwa [add_block] at this|exact this) GW268.out))|(dsimp only;exact Nat.ne_of_lt (Nat.lt_of_lt_of_le (by have:=World.block_lt_of_cell? _ _ hw263_1;first|rwa [add_block] at this|exact this) GW268.out))) _).trans (((cell_far (p:=⟨gb268,_,none⟩) (by first|exact Nat.ne_of_lt (Nat.lt_of_lt_of_le (by have:=World.block_lt_of_cell? _ _ hw263_1;first|rwa [add_block] at this|exact this) GW268.out)|(rw [add_block];exact Nat.ne_of_lt (Nat.lt_of_lt_of_le (by have:=World.block_lt_of_cell? _ _ hw263_1;first|rwa [add_block] at this|exact this) GW268.out))|(show (Addr.add _ _).block≠_;rw [add_block];exact Nat.ne_of_lt (Nat.lt_of_lt_of_le (by have:=World.block_lt_of_cell? _ _ hw263_1;first|rwa [add_block] at this|exact this) GW268.out))|(dsimp only;exact Nat.ne_of_lt (Nat.lt_of_lt_of_le (by have:=World.block_lt_of_cell? _ _ hw263_1;first|rwa [add_block] at this|exact this) GW268.out))) _).trans (hHeld.2))))))⟩ (fun hHeld=>?_)
              clear hK K
              refine pj_ 15 10 (bm 16 65535) (any_of HT_.out (by kernel_rfl)) ?_
              refine done_ (done_of HT_.out (by kernel_rfl)) ?_
              try go_wp2
              go_roundg k2
              case measure=>have:=HK1.out;have:=HK2.out;omega
              case rel=>exact ⟨(x5_2),(wrap64 (x8_2+1)),tS_,H',⟨by have:=HK1.out;have:=HK2.out;omega⟩,⟨by (with_reducible repeat (first|apply Kd.R_alloc|apply Kd.R_drewN|apply Kd.R_drew));exact Kd.R_mono (Kd.R_far (p:=⟨gb268,2,none⟩) (Kd.R_far (p:=⟨gb268,1,none⟩) (Kd.R_far (p:=⟨gb268,0,none⟩) (Kd.R_types HO_5.out BK268.out (by decide)) (fun _ hk=>hk.2) (.string t264)) (fun _ hk=>hk.2) (.string t265)) (fun _ hk=>hk.2) (.string t266)) (fun _ hk=>trivial)⟩,⟨by repeat (first|(with_reducible first|exact HB.out|apply below_alloc|apply pw_below_drewN|apply below_drew1|refine below_set ?_ GE268.out)|exact HB.out)⟩⟩
            ·rw [if_neg c13] at H
             exact absurd H (by simp)
           ·rw [if_neg c12] at H
            exact absurd H (by simp)
          ·rw [if_neg c11] at H
           exact absurd H (by simp)
         ·rw [if_neg c10] at H
          exact absurd H (by simp)
        ·rw [if_neg c9] at H
         have c9b0:decide (x8_2 < (l0.length:Int))=false:=decide_eq_false c9
         clear c9
         have H':=Aside0.mk H
         clear H
         go_wp2
         go_roundg k2
         case measure=>have:=HK1.out;have:=HK2.out;omega
         case rel=>exact ⟨(x5_2),(wrap64 (x6_1+1)),tS_,H',⟨by have:=HK1.out;have:=HK2.out;omega⟩,⟨tR_ HO_5⟩,⟨tB_ HB⟩⟩
     ·replace c7:=Bool.eq_false_iff.mpr c7
      subst c7
      have H1:(nr_Next.l0 k1 l0 a1 x5_1 (wrap64 (x6_1+1)))=some r:=by rw [if_neg (show ¬ (false=true) by decide)] at H;exact H
      clear H
      have H:=H1
      clear H1
      have H':=Aside0.mk H
      clear H
      have p5:0≤(x6_1:Int):=oT_
      have q5:x6_1 < (a1.size:Int):=oT_
      have hx5:=bt_at a1 x6_1
      replace p5:=eq_true p5
      replace q5:=eq_true q5
      go_wp2_with (first|((with_reducible refine gate_callee (f:=73) rfl ?_);refine goesL_ (some 20) rfl rfl Tryz.func73 (by kernel_rfl) rfl #[.int .u8 (bt a1 x6_1)] rfl tM_ ?_;(with_reducible refine (nr_letter.calls k1 (bt a1 x6_1) false _ A6.out).mono ?_);rintro e w' ⟨rfl,⟨nd,rfl⟩⟩;refine ⟨_,rfl,?_⟩))
      go_roundg k1
      case measure=>have:=HK1.out;omega
      case rel=>exact ⟨(x5_1),(wrap64 (x6_1+1)),tS_,H',⟨by have:=HK1.out;omega⟩,⟨tR_ HO_5⟩,⟨tB_ HB⟩⟩
    ·rw [if_neg c4] at H
     exact absurd H (by simp)
   ·rw [if_neg c3] at H
    have c3b0:decide (x6_1 < (a1.size:Int))=false:=decide_eq_false c3
    clear c3
    obtain rfl:=Option.some.inj H
    go_wp2
    go_ret
    exact ⟨_,tE_,tR_ HO_5,tB_ HB⟩
end Go.Proofs.YtaafeallcaiooaaGreat.Pr
