import Derived.Test.YtaafeallcaiooaaGreatPr0
import Derived.Test.YtaafeallcaiooaaGreatHRm
import Derived.Test.YtaafeallcaiooaaGreatHAp
import Derived.Test.YtaafeallcaiooaaGreatPrA2
import Derived.Test.YtaafeallcaiooaaGreatPrA3
import Derived.Test.YtaafeallcaiooaaGreatPrA5
import Derived.Test.YtaafeallcaiooaaGreatPrA8
import Derived.Test.YtaafeallcaiooaaGreatPrD1
namespace Go.Proofs.YtaafeallcaiooaaGreat.Pr
open Go.RowKit Go.Proofs.Zw Go.Proofs.Zl Go.Proofs.Zm
attribute [local go_sem] max2_int min2_int max_two min_two max_three min_three max_four min_four
set_option linter.unusedVariables false
set_option linter.unusedSimpArgs false
end Go.Proofs.YtaafeallcaiooaaGreat.Pr
namespace Go.Proofs.YtaafeallcaiooaaGreat.Pr
open Go.RowKit Go.Proofs.Zw Go.Proofs.Zl Go.Proofs.Zm
attribute [local go_sem] max2_int min2_int max_two min_two max_three min_three max_four min_four
set_option linter.unusedVariables false
set_option linter.unusedSimpArgs false
end Go.Proofs.YtaafeallcaiooaaGreat.Pr
namespace Go.Proofs.YtaafeallcaiooaaGreat.Pr
open Go.RowKit Go.Proofs.Zw Go.Proofs.Zl Go.Proofs.Zm
attribute [local go_sem] max2_int min2_int max_two min_two max_three min_three max_four min_four
set_option linter.unusedVariables false
set_option linter.unusedSimpArgs false
mutual
noncomputable def nr_Reach.l0:Nat→List (S94)→Int→List (List ByteArray)→Int→Int→Option ((List (List ByteArray)) × Bool)
 | 0,_,_,_,_,_=>none
 | k+1,x0,x2,x8,x9,x10=>if x10 < x2 then (nr_Reach.l1 k x0 x2 x8 x9 x10 ([]:List ByteArray) 0) else (some (x8,true))
noncomputable def nr_Reach.l1:Nat→List (S94)→Int→List (List ByteArray)→Int→Int→List ByteArray→Int→Option ((List (List ByteArray)) × Bool)
 | 0,_,_,_,_,_,_,_=>none
 | k+1,x0,x2,x8,x9,x10,x11,x12=>if 0≤x10 then (if x10 < (x8.length:Int) then (if x12 < ((rd_L7 x8 x10).length:Int) then (if 0≤x12 then ((nr_Next.f k x0 (rdOf ByteArray.empty (rd_L7 x8 x10) x12)).bind fun t657=>(nr_Reach.l2 k x0 x2 x8 x9 x10 x11 x12 t657 0)) else (none)) else (if x8.length < 5864062014805 then (nr_Reach.l0 k x0 x2 (x8++[x11]) (wrap64 (x9+(x11.length:Int))) (wrap64 (x10+1))) else (none))) else (none)) else (none)
noncomputable def nr_Reach.l2:Nat→List (S94)→Int→List (List ByteArray)→Int→Int→List ByteArray→Int→List ByteArray→Int→Option ((List (List ByteArray)) × Bool)
 | 0,_,_,_,_,_,_,_,_,_=>none
 | k+1,x0,x2,x8,x9,x10,x11,x12,x13,x14=>if x14 < (x13.length:Int) then (nr_Reach.l3 k x0 x2 x8 x9 x10 x11 x12 x13 x14 false 0) else ((nr_Large.f k x13).bind fun t660=>(if t660=true then (some (([]:List (List ByteArray)),false)) else (if (wrap64 (x9+(x11.length:Int))) > 300 then (some (([]:List (List ByteArray)),false)) else (nr_Reach.l1 k x0 x2 x8 x9 x10 x11 (wrap64 (x12+1))))))
noncomputable def nr_Reach.l3:Nat→List (S94)→Int→List (List ByteArray)→Int→Int→List ByteArray→Int→List ByteArray→Int→Bool→Int→Option ((List (List ByteArray)) × Bool)
 | 0,_,_,_,_,_,_,_,_,_,_,_=>none
 | k+1,x0,x2,x8,x9,x10,x11,x12,x13,x14,x15,x16=>if x16≤x10 then (if x15=true then (nr_Reach.l3 k x0 x2 x8 x9 x10 x11 x12 x13 x14 true (wrap64 (x16+1))) else (if 0≤x16 then (if x16 < (x8.length:Int) then (if 0≤x14 then (if x14 < (x13.length:Int) then ((nr_has.f k (rd_L7 x8 x16) (rdOf ByteArray.empty x13 x14)).bind fun t663=>(nr_Reach.l3 k x0 x2 x8 x9 x10 x11 x12 x13 x14 t663 (wrap64 (x16+1)))) else (none)) else (none)) else (none)) else (none))) else (if x15=true then (nr_Reach.l2 k x0 x2 x8 x9 x10 x11 x12 x13 (wrap64 (x14+1))) else (if 0≤x14 then (if x14 < (x13.length:Int) then ((nr_insert.f k x11 (rdOf ByteArray.empty x13 x14)).bind fun t665=>(nr_Reach.l2 k x0 x2 x8 x9 x10 t665 x12 x13 (wrap64 (x14+1)))) else (none)) else (none)))
end
noncomputable def nr_Reach.f (k:Nat) (l0:List (S94)) (a1:ByteArray) (a2:Int):Option ((List (List ByteArray)) × Bool):=nr_Reach.l0 k l0 a2 (([(([a1]:List ByteArray))]:List (List ByteArray))) 1 0
set_option maxHeartbeats 8000000 in
set_option maxRecDepth 100000 in
theorem nr_Reach.calls (k:Nat) (A0:Option Addr) (c0:Nat) (l0:List (S94)) (a1:ByteArray) (a2:Int) (r1:List (List ByteArray)) (r2:Bool) (w:World) (hr0:Kd.C k94 w A0 l0.length l0) (hc0:l0.length≤c0) (h:nr_Reach.f k l0 a1 a2=some (r1,r2)) :
  Calls Tryz.prog 58 #[.slice A0 l0.length c0,.string a1,.int .i64 a2] w fun e w'=>∃ v0_:Value,e=.returned (.tuple #[v0_,.bool r2])∧Kd.N (Kd.slice 9 Kd.string) 36 w' w.heap.size (fun k_=>(w.heap.size≤k_)) v0_ r1∧Below w.heap.size w w':=by
 have HR0:=Aside0.mk hr0
 have HC0:=Aside0.mk hc0
 clear hr0 hc0
 have HB:=Aside0.mk (Below.refl w.heap.size w)
 have H:(nr_Reach.l0 k l0 a2 (([(([a1]:List ByteArray))]:List (List ByteArray))) 1 0)=some (r1,r2):=h
 clear h
 obtain ⟨y645,hy645⟩:∃ y_:List ByteArray,y_=(([a1]:List ByteArray)):=⟨_,rfl⟩
 replace H:(nr_Reach.l0 k l0 a2 (([y645]:List (List ByteArray))) 1 0)=some (r1,r2):=by first|(rw [hy645];with_reducible exact H)|(have H2_:=(Option.bind_some _ _).symm.trans H;rw [hy645];with_reducible exact H2_)|(have H2_:=(Option.bind_some _ _).symm.trans H;with_reducible exact H2_)|with_reducible exact H|(rw [hy645];exact H)|exact H
 have Ny645:=Aside0.mk hy645
 clear hy645
 obtain ⟨y648,hy648⟩:∃ y_:List (List ByteArray),y_=(([y645]:List (List ByteArray))):=⟨_,rfl⟩
 replace H:(nr_Reach.l0 k l0 a2 y648 1 0)=some (r1,r2):=by first|(rw [hy648];with_reducible exact H)|(have H2_:=(Option.bind_some _ _).symm.trans H;rw [hy648];with_reducible exact H2_)|(have H2_:=(Option.bind_some _ _).symm.trans H;with_reducible exact H2_)|with_reducible exact H|(rw [hy648];exact H)|exact H
 have Ny648:=Aside0.mk hy648
 clear hy648
 have H':=Aside0.mk H
 clear H
 go_enter Tryz.func58,Tryz.ntmps58
 go_wp2_with (first|((with_reducible refine gate_dst (N:=18) rfl ?_);(try (refine gate_guard (by rfl) ?_;dsimp only));refine Kd.R_lit Kd.string _ 9 ?hg (N:=18) ?hd (xs:=([a1]:List ByteArray)) (inner:=[.string a1]) (ok:=fun _=>True) (okp:=fun _=>True) ?hr ?hp (fun _ hk=>hk) trivial (Below.refl _ _) (Nat.le_refl _) (by simp) ?_;(case hd=>rfl);(case hg=>rfl);(case hr=>first|(go_simp;done)|(go_simp;rfl));(case hp=>exact (Reps.one (show Kd.M Kd.string _ _ _ a1 [.string a1] from rfl) (Reps.none _ _)));intro v646 w4 ho5 hb hg_ hnew_;clear hg_ hnew_;(first|rw [←Ny645.out] at ho5|(simp only [Int.reduceToNat] at ho5;rw [←Ny645.out] at ho5));have n0_:=Aside0.mk (Kd.R_lower (Kd.R_newM (M:=fun k_=>(w.heap.size≤k_)) ho5 (below_size (tB_ HB)) (fun k_ h_=>h_)) (below_size (tB_ HB)));have n1_:=Aside0.mk (below_step (tB_ HB) hb);clear HB;have HO647:=n0_;have HB:=n1_;clear n0_ n1_;clear hb ho5;obtain ⟨Ao6,co6,eo6⟩:=Kd.R_slice HO647.out;subst eo6)|((with_reducible refine gate_dst (N:=19) rfl ?_);(try (refine gate_guard (by rfl) ?_;dsimp only));refine Kd.N_lit (Kd.slice 9 Kd.string) _ 36 ?hg (N':=19) ?hd (xs:=([y645]:List (List ByteArray))) (inner:=[.slice Ao6 y645.length co6]) (ok:=(fun k_=>(w.heap.size≤k_))) (okp:=(fun k_=>(w.heap.size≤k_))) ?hr ?hp (fun _ hk=>hk) ((show ∀ k_,w4.heap.size≤k_→(fun k_=>(w.heap.size≤k_)) k_ from fun k_ hk=>(Nat.le_trans (below_size (tB_ HB)) hk)) _ (Nat.le_refl _)) (Below.refl _ _) (Nat.le_refl _) (by simp) ?_;(case hd=>rfl);(case hg=>rfl);(case hr=>first|(go_simp;done)|(go_simp;rfl));(case hp=>exact (Reps.one (show Kd.FK (Kd.slice 9 Kd.string) _ _ y645 [.slice Ao6 y645.length co6] from (Kd.FK_slice_mk (Kd.R_reads' (Kd.R_mono (ok':=(fun k_=>(w.heap.size≤k_))) (HO647.out) (fun k_ hk=>hk.1))).2.1 (Kd.R_F (Kd.R_mono (ok':=(fun k_=>(w.heap.size≤k_))) (HO647.out) (fun k_ hk=>hk.1))))) (Reps.none _ _)));intro v649 w7 ho8 hb hg_ hnew_;clear hg_ hnew_;(first|rw [←Ny648.out] at ho8|(simp only [Int.reduceToNat] at ho8;rw [←Ny648.out] at ho8));have n0_:=Aside0.mk (Kd.N_lower ho8 (below_size (tB_ HB)));have n1_:=Aside0.mk (below_step (tB_ HB) hb);clear HB;clear HO647;have HO650:=n0_;have HB:=n1_;clear n0_ n1_;clear hb ho8))
 repeat (go_quiet (first|((with_reducible refine gate_dst (N:=18) rfl ?_);(try (refine gate_guard (by rfl) ?_;dsimp only));refine Kd.R_lit Kd.string _ 9 ?hg (N:=18) ?hd (xs:=([a1]:List ByteArray)) (inner:=[.string a1]) (ok:=fun _=>True) (okp:=fun _=>True) ?hr ?hp (fun _ hk=>hk) trivial (Below.refl _ _) (Nat.le_refl _) (by simp) ?_;(case hd=>rfl);(case hg=>rfl);(case hr=>first|(go_simp;done)|(go_simp;rfl));(case hp=>exact (Reps.one (show Kd.M Kd.string _ _ _ a1 [.string a1] from rfl) (Reps.none _ _)));intro v646 w4 ho5 hb hg_ hnew_;clear hg_ hnew_;(first|rw [←Ny645.out] at ho5|(simp only [Int.reduceToNat] at ho5;rw [←Ny645.out] at ho5));have n0_:=Aside0.mk (Kd.R_lower (Kd.R_newM (M:=fun k_=>(w.heap.size≤k_)) ho5 (below_size (tB_ HB)) (fun k_ h_=>h_)) (below_size (tB_ HB)));have n1_:=Aside0.mk (below_step (tB_ HB) hb);clear HB;have HO647:=n0_;have HB:=n1_;clear n0_ n1_;clear hb ho5;obtain ⟨Ao6,co6,eo6⟩:=Kd.R_slice HO647.out;subst eo6)|((with_reducible refine gate_dst (N:=19) rfl ?_);(try (refine gate_guard (by rfl) ?_;dsimp only));refine Kd.N_lit (Kd.slice 9 Kd.string) _ 36 ?hg (N':=19) ?hd (xs:=([y645]:List (List ByteArray))) (inner:=[.slice Ao6 y645.length co6]) (ok:=(fun k_=>(w.heap.size≤k_))) (okp:=(fun k_=>(w.heap.size≤k_))) ?hr ?hp (fun _ hk=>hk) ((show ∀ k_,w4.heap.size≤k_→(fun k_=>(w.heap.size≤k_)) k_ from fun k_ hk=>(Nat.le_trans (below_size (tB_ HB)) hk)) _ (Nat.le_refl _)) (Below.refl _ _) (Nat.le_refl _) (by simp) ?_;(case hd=>rfl);(case hg=>rfl);(case hr=>first|(go_simp;done)|(go_simp;rfl));(case hp=>exact (Reps.one (show Kd.FK (Kd.slice 9 Kd.string) _ _ y645 [.slice Ao6 y645.length co6] from (Kd.FK_slice_mk (Kd.R_reads' (Kd.R_mono (ok':=(fun k_=>(w.heap.size≤k_))) (HO647.out) (fun k_ hk=>hk.1))).2.1 (Kd.R_F (Kd.R_mono (ok':=(fun k_=>(w.heap.size≤k_))) (HO647.out) (fun k_ hk=>hk.1))))) (Reps.none _ _)));intro v649 w7 ho8 hb hg_ hnew_;clear hg_ hnew_;(first|rw [←Ny648.out] at ho8|(simp only [Int.reduceToNat] at ho8;rw [←Ny648.out] at ho8));have n0_:=Aside0.mk (Kd.N_lower ho8 (below_size (tB_ HB)));have n1_:=Aside0.mk (below_step (tB_ HB) hb);clear HB;clear HO647;have HO650:=n0_;have HB:=n1_;clear n0_ n1_;clear hb ho8));try go_wp2_with (first|((with_reducible refine gate_dst (N:=18) rfl ?_);(try (refine gate_guard (by rfl) ?_;dsimp only));refine Kd.R_lit Kd.string _ 9 ?hg (N:=18) ?hd (xs:=([a1]:List ByteArray)) (inner:=[.string a1]) (ok:=fun _=>True) (okp:=fun _=>True) ?hr ?hp (fun _ hk=>hk) trivial (Below.refl _ _) (Nat.le_refl _) (by simp) ?_;(case hd=>rfl);(case hg=>rfl);(case hr=>first|(go_simp;done)|(go_simp;rfl));(case hp=>exact (Reps.one (show Kd.M Kd.string _ _ _ a1 [.string a1] from rfl) (Reps.none _ _)));intro v646 w4 ho5 hb hg_ hnew_;clear hg_ hnew_;(first|rw [←Ny645.out] at ho5|(simp only [Int.reduceToNat] at ho5;rw [←Ny645.out] at ho5));have n0_:=Aside0.mk (Kd.R_lower (Kd.R_newM (M:=fun k_=>(w.heap.size≤k_)) ho5 (below_size (tB_ HB)) (fun k_ h_=>h_)) (below_size (tB_ HB)));have n1_:=Aside0.mk (below_step (tB_ HB) hb);clear HB;have HO647:=n0_;have HB:=n1_;clear n0_ n1_;clear hb ho5;obtain ⟨Ao6,co6,eo6⟩:=Kd.R_slice HO647.out;subst eo6)|((with_reducible refine gate_dst (N:=19) rfl ?_);(try (refine gate_guard (by rfl) ?_;dsimp only));refine Kd.N_lit (Kd.slice 9 Kd.string) _ 36 ?hg (N':=19) ?hd (xs:=([y645]:List (List ByteArray))) (inner:=[.slice Ao6 y645.length co6]) (ok:=(fun k_=>(w.heap.size≤k_))) (okp:=(fun k_=>(w.heap.size≤k_))) ?hr ?hp (fun _ hk=>hk) ((show ∀ k_,w4.heap.size≤k_→(fun k_=>(w.heap.size≤k_)) k_ from fun k_ hk=>(Nat.le_trans (below_size (tB_ HB)) hk)) _ (Nat.le_refl _)) (Below.refl _ _) (Nat.le_refl _) (by simp) ?_;(case hd=>rfl);(case hg=>rfl);(case hr=>first|(go_simp;done)|(go_simp;rfl));(case hp=>exact (Reps.one (show Kd.FK (Kd.slice 9 Kd.string) _ _ y645 [.slice Ao6 y645.length co6] from (Kd.FK_slice_mk (Kd.R_reads' (Kd.R_mono (ok':=(fun k_=>(w.heap.size≤k_))) (HO647.out) (fun k_ hk=>hk.1))).2.1 (Kd.R_F (Kd.R_mono (ok':=(fun k_=>(w.heap.size≤k_))) (HO647.out) (fun k_ hk=>hk.1))))) (Reps.none _ _)));intro v649 w7 ho8 hb hg_ hnew_;clear hg_ hnew_;(first|rw [←Ny648.out] at ho8|(simp only [Int.reduceToNat] at ho8;rw [←Ny648.out] at ho8));have n0_:=Aside0.mk (Kd.N_lower ho8 (below_size (tB_ HB)));have n1_:=Aside0.mk (below_step (tB_ HB) hb);clear HB;clear HO647;have HO650:=n0_;have HB:=n1_;clear n0_ n1_;clear hb ho8)))
 go_loopg [8,9,10] k (fun kq v8 v9 v10 w'=>∃ (x8_1:List (List ByteArray)) (x9_1:Int) (x10_1:Int),v9=.int .i64 x9_1∧v10=.int .i64 x10_1∧Aside0 (nr_Reach.l0 kq l0 a2 x8_1 x9_1 x10_1=some (r1,r2))∧Aside0 (kq≤k)∧Aside0 (Kd.N (Kd.slice 9 Kd.string) 36 w' w.heap.size (fun k_=>(w.heap.size≤k_)) v8 x8_1)∧Aside0 (Below w.heap.size w w'))
 case atStart=>exact ⟨(y648),(1),(0),tS_,tS_,H',⟨Nat.le_refl _⟩,⟨by (with_reducible repeat (first|apply Kd.N_alloc|apply Kd.N_drewN|apply Kd.N_drew));exact HO650.out⟩,⟨tB_ HB⟩⟩
 case round =>
  clear H'
  try clear p2
  try clear c5
  obtain ⟨x8_1,x9_1,x10_1,rfl,rfl,HA,HK1,HO_8,HB⟩:=hrel
  cases gk with
  | zero=>exact absurd HA.out (by simp [nr_Reach.l0])
  | succ k1 =>
   have H:=HA.out
   clear HA
   simp only [nr_Reach.l0] at H
   by_cases c9:x10_1 < a2
   ·rw [if_pos c9] at H
    have c9b0:decide (x10_1 < a2)=true:=decide_eq_true c9
    clear c9
    have H':=Aside0.mk H
    clear H
    go_wp2
    repeat (go_quiet (fail);try go_wp2)
    go_loopg [11,12] k1 (fun kq v11 v12 w'=>∃ (x11_2:List ByteArray) (x12_2:Int),v12=.int .i64 x12_2∧Aside0 (nr_Reach.l1 kq l0 a2 x8_1 x9_1 x10_1 x11_2 x12_2=some (r1,r2))∧Aside0 (kq≤k1)∧Aside0 (Kd.N (Kd.slice 9 Kd.string) 36 w' w.heap.size (fun k_=>(w.heap.size≤k_)∧some k_≠(v11:Value).ownBlock) u8 x8_1)∧Aside0 (Kd.R Kd.string 9 w' w.heap.size (fun k_=>(w.heap.size≤k_)) v11 x11_2)∧Aside0 (Below w.heap.size w w'))
    case atStart=>exact ⟨(([]:List ByteArray)),(0),tS_,H',⟨Nat.le_refl _⟩,⟨by (with_reducible repeat (first|apply Kd.N_alloc|apply Kd.N_drewN|apply Kd.N_drew));exact Kd.N_mono HO_8.out (fun _ hk=>⟨hk,(by simp [Value.ownBlock])⟩)⟩,⟨by first|exact Kd.R_nil _ _ _ _ _|exact Kd.N_nil _ _ _ _ _|exact Kd.V_nil _ _ _ _ _|exact Kd.Q_nil _ _ _ _ _|exact Kd.S_nil _ _ _ _ _⟩,⟨tB_ HB⟩⟩
    case round =>
     clear H'
     try clear p2
     try clear c5
     try clear c9
     try clear c9b0
     try clear p2
     obtain ⟨x11_2,x12_2,rfl,HA,HK2,HO_8,HO_11,HB⟩:=hrel
     cases gk with
     | zero=>exact absurd HA.out (by simp [nr_Reach.l1])
     | succ k2 =>
      have H:=HA.out
      clear HA
      simp only [nr_Reach.l1] at H
      by_cases c10:0≤x10_1
      ·rw [if_pos c10] at H
       have c10b0:decide (0≤x10_1)=true:=decide_eq_true c10
       clear c10
       by_cases c11:x10_1 < (x8_1.length:Int)
       ·rw [if_pos c11] at H
        have c11b0:decide (x10_1 < (x8_1.length:Int))=true:=decide_eq_true c11
        clear c11
        by_cases c12:x12_2 < ((rd_L7 x8_1 x10_1).length:Int)
        ·rw [if_pos c12] at H
         have c12b0:decide (x12_2 < ((rd_L7 x8_1 x10_1).length:Int))=true:=decide_eq_true c12
         clear c12
         by_cases c13:0≤x12_2
         ·rw [if_pos c13] at H
          have c13b0:decide (0≤x12_2)=true:=decide_eq_true c13
          clear c13
          replace H:=Option.bind_eq_some_iff.mp H
          obtain ⟨t657,A140,H⟩:=H
          replace H:(nr_Reach.l2 k2 l0 a2 x8_1 x9_1 x10_1 x11_2 x12_2 t657 0)=some (r1,r2):=H
          have A14:=Aside0.mk A140
          clear A140
          have H':=Aside0.mk H
          clear H
          obtain ⟨Ao15,co15,eo15⟩:=Kd.N_slice HO_8.out
          subst eo15
          have p651:0≤(x10_1:Int):=oT_
          have q651:x10_1 < (x8_1.length:Int):=oT_
          obtain ⟨ad651,A651_0,c651_0,e651,hx651_0,hl651_0,hi651_0⟩:=at_L7 (Kd.N_reads' HO_8.out).2.2 x10_1 p651 q651
          cases e651
          obtain ⟨ce651,hce651,hMe651,hcc651⟩:=Kd.N_get HO_8.out [] x10_1 p651 (by first|exact q651|exact oT_|(have e_:=(Kd.N_reads' HO_8.out).1;omega))
          obtain ⟨ua651_0,uc651_0,rfl,ul651_0,ge651_0⟩:=Kd.FK_slice_open hMe651
          have hv651_0:=hcc651 0 _ rfl
          rw [Nat.add_zero,show ((Kd.slice 9 Kd.string)).sz=1 from rfl,Nat.mul_one] at hv651_0
          replace hv651_0:=Option.some.inj (hv651_0.symm.trans hx651_0)
          injection hv651_0 with hva_ hvn_ hvc_
          rw [hva_] at ge651_0
          rw [hvc_] at ul651_0
          have HL651_0:=Aside0.mk (show Kd.V Kd.string 9 _ w.heap.size _ _ (rd_L7 x8_1 x10_1) from Kd.V_mk ul651_0 ge651_0)
          clear hva_ hvn_ hvc_ ge651_0 ul651_0
          clear hcc651 hce651
          have HR651_0:=Aside0.mk hi651_0
          have HC651_0:=Aside0.mk hl651_0
          clear hi651_0 hl651_0
          replace p651:=eq_true p651
          replace q651:=eq_true q651
          have p655:0≤(x10_1:Int):=oT_
          have q655:x10_1 < (x8_1.length:Int):=oT_
          obtain ⟨ad655,A655_0,c655_0,e655,hx655_0,hl655_0,hi655_0⟩:=at_L7 (Kd.N_reads' HO_8.out).2.2 x10_1 p655 q655
          obtain rfl:ad651=ad655:=(by injection e655)
          obtain ⟨ce655,hce655,hMe655,hcc655⟩:=Kd.N_get HO_8.out [] x10_1 p655 (by first|exact q655|exact oT_|(have e_:=(Kd.N_reads' HO_8.out).1;omega))
          obtain ⟨ua655_0,uc655_0,rfl,ul655_0,ge655_0⟩:=Kd.FK_slice_open hMe655
          have hv655_0:=hcc655 0 _ rfl
          rw [Nat.add_zero,show ((Kd.slice 9 Kd.string)).sz=1 from rfl,Nat.mul_one] at hv655_0
          replace hv655_0:=Option.some.inj (hv655_0.symm.trans hx655_0)
          injection hv655_0 with hva_ hvn_ hvc_
          rw [hva_] at ge655_0
          rw [hvc_] at ul655_0
          have HL655_0:=Aside0.mk (show Kd.V Kd.string 9 _ w.heap.size _ _ (rd_L7 x8_1 x10_1) from Kd.V_mk ul655_0 ge655_0)
          clear hva_ hvn_ hvc_ ge655_0 ul655_0
          clear hcc655 hce655
          have HR655_0:=Aside0.mk hi655_0
          have HC655_0:=Aside0.mk hl655_0
          clear hi655_0 hl655_0
          replace p655:=eq_true p655
          replace q655:=eq_true q655
          have ea_:=Option.some.inj (hx651_0.symm.trans hx655_0)
          injection ea_ with ea_ en_ ec_
          subst ea_
          subst ec_
          clear en_
          have p656:0≤(x12_2:Int):=oT_
          have q656:x12_2 < ((rd_L7 x8_1 x10_1).length:Int):=oT_
          obtain ⟨ad656,e656,hx656_0⟩:=Kd.at_string (by repeat (first|(with_reducible exact HR655_0.out)|(with_reducible refine Kd.C_alloc ?_ _)|(with_reducible refine Kd.C_drewN ?_ _)|(with_reducible refine Kd.C_drew ?_)|exact HR655_0.out)) x12_2 p656 q656
          cases e656
          replace p656:=eq_true p656
          replace q656:=eq_true q656
          go_wp2_with (first|(go_at_call 51;(with_reducible refine (nr_Next.calls k2 _ _ l0 (rdOf ByteArray.empty (rd_L7 x8_1 x10_1) x12_2) t657 _ ?side1 ?side2 A14.out).mono ?_);(case side1=>repeat (first|exact (Kd.C_below HR0.out HB.out)|(with_reducible refine Kd.C_alloc ?_ _)|(with_reducible refine Kd.C_drewN ?_ _)|(with_reducible refine Kd.C_drew ?_)));(case side2=>exact HC0.out);rintro e w16 ⟨v658,rfl,ho0,hb⟩;have n0_:=Aside0.mk (Kd.N_elder' (by (with_reducible repeat (first|apply Kd.N_alloc|apply Kd.N_drewN|apply Kd.N_drew));exact HO_8.out) (Kd.R_base ho0) hb);have n1_:=Aside0.mk (Kd.R_elder' (tR_ HO_11) (Kd.R_base ho0) hb);have n2_:=Aside0.mk (Kd.V_elder' (by (with_reducible repeat (first|apply Kd.V_alloc|apply Kd.V_drewN|apply Kd.V_drew));exact HL651_0.out) (Kd.R_base ho0) hb);have n3_:=Aside0.mk (Kd.V_elder' (by (with_reducible repeat (first|apply Kd.V_alloc|apply Kd.V_drewN|apply Kd.V_drew));exact HL655_0.out) (Kd.R_base ho0) hb);have n4_:=Aside0.mk (Kd.R_lower (Kd.R_new' (Kd.R_newM (M:=fun k_=>(w.heap.size≤k_)) ho0 (below_size (tB_ HB)) (fun k_ h_=>h_)) (Kd.R_lt (tR_ HO_11))) (below_size (tB_ HB)));have n5_:=Aside0.mk (Kd.C_below (by repeat (first|(with_reducible exact HR651_0.out)|(with_reducible refine Kd.C_alloc ?_ _)|(with_reducible refine Kd.C_drewN ?_ _)|(with_reducible refine Kd.C_drew ?_)|exact HR651_0.out)) hb);have n6_:=Aside0.mk (Kd.C_below (by repeat (first|(with_reducible exact HR655_0.out)|(with_reducible refine Kd.C_alloc ?_ _)|(with_reducible refine Kd.C_drewN ?_ _)|(with_reducible refine Kd.C_drew ?_)|exact HR655_0.out)) hb);have n7_:=Aside0.mk (below_step (tB_ HB) hb);clear HO_8;clear HO_11;clear HL651_0;clear HL655_0;clear HR651_0;clear HR655_0;clear HB;have HO_8:=n0_;have HO_11:=n1_;have HL651_0:=n2_;have HL655_0:=n3_;have HO659:=n4_;have HR651_0:=n5_;have HR655_0:=n6_;have HB:=n7_;clear n0_ n1_ n2_ n3_ n4_ n5_ n6_ n7_;(try clear hb);(try clear hb2);(try clear hk);(try clear hi);(try clear ho0)))
          repeat (go_quiet (first|(go_at_call 51;(with_reducible refine (nr_Next.calls k2 _ _ l0 (rdOf ByteArray.empty (rd_L7 x8_1 x10_1) x12_2) t657 _ ?side1 ?side2 A14.out).mono ?_);(case side1=>repeat (first|exact (Kd.C_below HR0.out HB.out)|(with_reducible refine Kd.C_alloc ?_ _)|(with_reducible refine Kd.C_drewN ?_ _)|(with_reducible refine Kd.C_drew ?_)));(case side2=>exact HC0.out);rintro e w16 ⟨v658,rfl,ho0,hb⟩;have n0_:=Aside0.mk (Kd.N_elder' (by (with_reducible repeat (first|apply Kd.N_alloc|apply Kd.N_drewN|apply Kd.N_drew));exact HO_8.out) (Kd.R_base ho0) hb);have n1_:=Aside0.mk (Kd.R_elder' (tR_ HO_11) (Kd.R_base ho0) hb);have n2_:=Aside0.mk (Kd.V_elder' (by (with_reducible repeat (first|apply Kd.V_alloc|apply Kd.V_drewN|apply Kd.V_drew));exact HL651_0.out) (Kd.R_base ho0) hb);have n3_:=Aside0.mk (Kd.V_elder' (by (with_reducible repeat (first|apply Kd.V_alloc|apply Kd.V_drewN|apply Kd.V_drew));exact HL655_0.out) (Kd.R_base ho0) hb);have n4_:=Aside0.mk (Kd.R_lower (Kd.R_new' (Kd.R_newM (M:=fun k_=>(w.heap.size≤k_)) ho0 (below_size (tB_ HB)) (fun k_ h_=>h_)) (Kd.R_lt (tR_ HO_11))) (below_size (tB_ HB)));have n5_:=Aside0.mk (Kd.C_below (by repeat (first|(with_reducible exact HR651_0.out)|(with_reducible refine Kd.C_alloc ?_ _)|(with_reducible refine Kd.C_drewN ?_ _)|(with_reducible refine Kd.C_drew ?_)|exact HR651_0.out)) hb);have n6_:=Aside0.mk (Kd.C_below (by repeat (first|(with_reducible exact HR655_0.out)|(with_reducible refine Kd.C_alloc ?_ _)|(with_reducible refine Kd.C_drewN ?_ _)|(with_reducible refine Kd.C_drew ?_)|exact HR655_0.out)) hb);have n7_:=Aside0.mk (below_step (tB_ HB) hb);clear HO_8;clear HO_11;clear HL651_0;clear HL655_0;clear HR651_0;clear HR655_0;clear HB;have HO_8:=n0_;have HO_11:=n1_;have HL651_0:=n2_;have HL655_0:=n3_;have HO659:=n4_;have HR651_0:=n5_;have HR655_0:=n6_;have HB:=n7_;clear n0_ n1_ n2_ n3_ n4_ n5_ n6_ n7_;(try clear hb);(try clear hb2);(try clear hk);(try clear hi);(try clear ho0)));try go_wp2_with (first|(go_at_call 51;(with_reducible refine (nr_Next.calls k2 _ _ l0 (rdOf ByteArray.empty (rd_L7 x8_1 x10_1) x12_2) t657 _ ?side1 ?side2 A14.out).mono ?_);(case side1=>repeat (first|exact (Kd.C_below HR0.out HB.out)|(with_reducible refine Kd.C_alloc ?_ _)|(with_reducible refine Kd.C_drewN ?_ _)|(with_reducible refine Kd.C_drew ?_)));(case side2=>exact HC0.out);rintro e w16 ⟨v658,rfl,ho0,hb⟩;have n0_:=Aside0.mk (Kd.N_elder' (by (with_reducible repeat (first|apply Kd.N_alloc|apply Kd.N_drewN|apply Kd.N_drew));exact HO_8.out) (Kd.R_base ho0) hb);have n1_:=Aside0.mk (Kd.R_elder' (tR_ HO_11) (Kd.R_base ho0) hb);have n2_:=Aside0.mk (Kd.V_elder' (by (with_reducible repeat (first|apply Kd.V_alloc|apply Kd.V_drewN|apply Kd.V_drew));exact HL651_0.out) (Kd.R_base ho0) hb);have n3_:=Aside0.mk (Kd.V_elder' (by (with_reducible repeat (first|apply Kd.V_alloc|apply Kd.V_drewN|apply Kd.V_drew));exact HL655_0.out) (Kd.R_base ho0) hb);have n4_:=Aside0.mk (Kd.R_lower (Kd.R_new' (Kd.R_newM (M:=fun k_=>(w.heap.size≤k_)) ho0 (below_size (tB_ HB)) (fun k_ h_=>h_)) (Kd.R_lt (tR_ HO_11))) (below_size (tB_ HB)));have n5_:=Aside0.mk (Kd.C_below (by repeat (first|(with_reducible exact HR651_0.out)|(with_reducible refine Kd.C_alloc ?_ _)|(with_reducible refine Kd.C_drewN ?_ _)|(with_reducible refine Kd.C_drew ?_)|exact HR651_0.out)) hb);have n6_:=Aside0.mk (Kd.C_below (by repeat (first|(with_reducible exact HR655_0.out)|(with_reducible refine Kd.C_alloc ?_ _)|(with_reducible refine Kd.C_drewN ?_ _)|(with_reducible refine Kd.C_drew ?_)|exact HR655_0.out)) hb);have n7_:=Aside0.mk (below_step (tB_ HB) hb);clear HO_8;clear HO_11;clear HL651_0;clear HL655_0;clear HR651_0;clear HR655_0;clear HB;have HO_8:=n0_;have HO_11:=n1_;have HL651_0:=n2_;have HL655_0:=n3_;have HO659:=n4_;have HR651_0:=n5_;have HR655_0:=n6_;have HB:=n7_;clear n0_ n1_ n2_ n3_ n4_ n5_ n6_ n7_;(try clear hb);(try clear hb2);(try clear hk);(try clear hi);(try clear ho0))))
          go_loopg [11,14] k2 (fun kq v11 v14 w'=>∃ (x11_3:List ByteArray) (x14_3:Int),v14=.int .i64 x14_3∧Aside0 (nr_Reach.l2 kq l0 a2 x8_1 x9_1 x10_1 x11_3 x12_2 t657 x14_3=some (r1,r2))∧Aside0 (kq≤k2)∧Aside0 (Kd.N (Kd.slice 9 Kd.string) 36 w' w.heap.size (fun k_=>(w.heap.size≤k_)∧some k_≠(v11:Value).ownBlock∧some k_≠(v658:Value).ownBlock) (.slice (some ad651) x8_1.length co15) x8_1)∧Aside0 (Kd.R Kd.string 9 w' w.heap.size (fun k_=>(w.heap.size≤k_)∧some k_≠(v658:Value).ownBlock) v11 x11_3)∧Aside0 (Kd.R Kd.string 9 w' w.heap.size (fun k_=>(w.heap.size≤k_)∧some k_≠(v11:Value).ownBlock) v658 t657)∧Aside0 (Below w.heap.size w w'))
          case atStart=>exact ⟨(x11_2),(0),tS_,H',⟨Nat.le_refl _⟩,⟨by (with_reducible repeat (first|apply Kd.N_alloc|apply Kd.N_drewN|apply Kd.N_drew));exact Kd.N_mono HO_8.out (fun _ hk=>⟨hk.1.1,⟨hk.1.2,hk.2⟩⟩)⟩,⟨tR_ HO_11⟩,⟨by (with_reducible repeat (first|apply Kd.R_alloc|apply Kd.R_drewN|apply Kd.R_drew));exact Kd.R_mono HO659.out (fun _ hk=>⟨hk.1.1,hk.2⟩)⟩,⟨tB_ HB⟩⟩
          case round =>
           clear H'
           try clear c1
           try clear p2
           try clear c5
           try clear c6
           try clear p6
           try clear q6
           try clear hx6
           try clear c9
           try clear c9b0
           try clear c10
           try clear c10b0
           try clear c11
           try clear c11b0
           try clear c12
           try clear c12b0
           try clear c13
           try clear c13b0
           try clear hx651_0
           try clear hx655_0
           try clear hx656_0
           try clear p2
           try clear p651
           try clear p655
           try clear p656
           try clear q651
           try clear q655
           try clear q656
           obtain ⟨x11_3,x14_3,rfl,HA,HK3,HO_8,HO_11,HO_13,HB⟩:=hrel
           cases gk with
           | zero=>exact absurd HA.out (by simp [nr_Reach.l2])
           | succ k3 =>
            have H:=HA.out
            clear HA
            simp only [nr_Reach.l2] at H
            by_cases c17:x14_3 < (t657.length:Int)
            ·rw [if_pos c17] at H
             have c17b0:decide (x14_3 < (t657.length:Int))=true:=decide_eq_true c17
             clear c17
             have H':=Aside0.mk H
             clear H
             obtain ⟨Ao18,co18,eo18⟩:=Kd.R_slice HO_13.out
             subst eo18
             go_wp2
             repeat (go_quiet (fail);try go_wp2)
             go_loopg [15,16] k3 (fun kq v15 v16 w'=>∃ (x15_4:Bool) (x16_4:Int),v15=.bool x15_4∧v16=.int .i64 x16_4∧Aside0 (nr_Reach.l3 kq l0 a2 x8_1 x9_1 x10_1 x11_3 x12_2 t657 x14_3 x15_4 x16_4=some (r1,r2))∧Aside0 (kq≤k3)∧Aside0 (Kd.N (Kd.slice 9 Kd.string) 36 w' w.heap.size (fun k_=>(w.heap.size≤k_)∧some k_≠(u11:Value).ownBlock∧some k_≠((.slice Ao18 t657.length co18):Value).ownBlock) (.slice (some ad651) x8_1.length co15) x8_1)∧Aside0 (Kd.R Kd.string 9 w' w.heap.size (fun k_=>(w.heap.size≤k_)∧some k_≠((.slice Ao18 t657.length co18):Value).ownBlock) u11 x11_3)∧Aside0 (Kd.R Kd.string 9 w' w.heap.size (fun k_=>(w.heap.size≤k_)∧some k_≠(u11:Value).ownBlock) (.slice Ao18 t657.length co18) t657)∧Aside0 (Below w.heap.size w w'))
             case atStart=>exact ⟨(false),(0),tS_,tS_,H',⟨Nat.le_refl _⟩,⟨by (with_reducible repeat (first|apply Kd.N_alloc|apply Kd.N_drewN|apply Kd.N_drew));exact HO_8.out⟩,⟨tR_ HO_11⟩,⟨tR_ HO_13⟩,⟨tB_ HB⟩⟩
             case round =>
              clear H'
              try clear c1
              try clear p2
              try clear c5
              try clear c6
              try clear p6
              try clear q6
              try clear hx6
              try clear c9
              try clear c9b0
              try clear c10
              try clear c10b0
              try clear c11
              try clear c11b0
              try clear c12
              try clear c12b0
              try clear c13
              try clear c13b0
              try clear c17
              try clear c17b0
              try clear hx651_0
              try clear hx655_0
              try clear hx656_0
              try clear p2
              try clear p6
              try clear p651
              try clear p655
              try clear p656
              try clear q6
              try clear q651
              try clear q655
              try clear q656
              obtain ⟨x15_4,x16_4,rfl,rfl,HA,HK4,HO_8,HO_11,HO_13,HB⟩:=hrel
              cases gk with
              | zero=>exact absurd HA.out (by simp [nr_Reach.l3])
              | succ k4 =>
               have H:=HA.out
               clear HA
               simp only [nr_Reach.l3] at H
               by_cases c19:x16_4≤x10_1
               ·rw [if_pos c19] at H
                have c19b0:decide (x16_4≤x10_1)=true:=decide_eq_true c19
                clear c19
                by_cases c20:x15_4=true
                ·subst c20
                 have H1:(nr_Reach.l3 k4 l0 a2 x8_1 x9_1 x10_1 x11_3 x12_2 t657 x14_3 true (wrap64 (x16_4+1)))=some (r1,r2):=by rw [if_pos rfl] at H;exact H
                 clear H
                 have H:=H1
                 clear H1
                 have H':=Aside0.mk H
                 clear H
                 go_wp2
                 repeat (go_quiet (fail);try go_wp2)
                 go_roundg k4
                 case measure=>have:=HK1.out;have:=HK2.out;have:=HK3.out;have:=HK4.out;omega
                 case rel=>exact ⟨(true),(wrap64 (x16_4+1)),tS_,tS_,H',⟨by have:=HK1.out;have:=HK2.out;have:=HK3.out;have:=HK4.out;omega⟩,⟨by (with_reducible repeat (first|apply Kd.N_alloc|apply Kd.N_drewN|apply Kd.N_drew));exact HO_8.out⟩,⟨tR_ HO_11⟩,⟨tR_ HO_13⟩,⟨tB_ HB⟩⟩
                ·replace c20:=Bool.eq_false_iff.mpr c20
                 subst c20
                 have H1:(if 0≤x16_4 then (if x16_4 < (x8_1.length:Int) then (if 0≤x14_3 then (if x14_3 < (t657.length:Int) then ((nr_has.f k4 (rd_L7 x8_1 x16_4) (rdOf ByteArray.empty t657 x14_3)).bind fun t663=>(nr_Reach.l3 k4 l0 a2 x8_1 x9_1 x10_1 x11_3 x12_2 t657 x14_3 t663 (wrap64 (x16_4+1)))) else (none)) else (none)) else (none)) else (none))=some (r1,r2):=by rw [if_neg (show ¬ (false=true) by decide)] at H;exact H
                 clear H
                 have H:=H1
                 clear H1
                 by_cases c21:0≤x16_4
                 ·rw [if_pos c21] at H
                  have c21b0:decide (0≤x16_4)=true:=decide_eq_true c21
                  clear c21
                  by_cases c22:x16_4 < (x8_1.length:Int)
                  ·rw [if_pos c22] at H
                   have c22b0:decide (x16_4 < (x8_1.length:Int))=true:=decide_eq_true c22
                   clear c22
                   by_cases c23:0≤x14_3
                   ·rw [if_pos c23] at H
                    have c23b0:decide (0≤x14_3)=true:=decide_eq_true c23
                    clear c23
                    by_cases c24:x14_3 < (t657.length:Int)
                    ·rw [if_pos c24] at H
                     have c24b0:decide (x14_3 < (t657.length:Int))=true:=decide_eq_true c24
                     clear c24
                     replace H:=Option.bind_eq_some_iff.mp H
                     obtain ⟨t663,A250,H⟩:=H
                     replace H:(nr_Reach.l3 k4 l0 a2 x8_1 x9_1 x10_1 x11_3 x12_2 t657 x14_3 t663 (wrap64 (x16_4+1)))=some (r1,r2):=H
                     have A25:=Aside0.mk A250
                     clear A250
                     have H':=Aside0.mk H
                     clear H
                     have p661:0≤(x16_4:Int):=oT_
                     have q661:x16_4 < (x8_1.length:Int):=oT_
                     obtain ⟨ad661,A661_0,c661_0,e661,hx661_0,hl661_0,hi661_0⟩:=at_L7 (Kd.N_reads' HO_8.out).2.2 x16_4 p661 q661
                     obtain rfl:ad651=ad661:=(by injection e661)
                     obtain ⟨ce661,hce661,hMe661,hcc661⟩:=Kd.N_get HO_8.out [] x16_4 p661 (by first|exact q661|exact oT_|(have e_:=(Kd.N_reads' HO_8.out).1;omega))
                     obtain ⟨ua661_0,uc661_0,rfl,ul661_0,ge661_0⟩:=Kd.FK_slice_open hMe661
                     have hv661_0:=hcc661 0 _ rfl
                     rw [Nat.add_zero,show ((Kd.slice 9 Kd.string)).sz=1 from rfl,Nat.mul_one] at hv661_0
                     replace hv661_0:=Option.some.inj (hv661_0.symm.trans hx661_0)
                     injection hv661_0 with hva_ hvn_ hvc_
                     rw [hva_] at ge661_0
                     rw [hvc_] at ul661_0
                     have HL661_0:=Aside0.mk (show Kd.V Kd.string 9 _ w.heap.size _ _ (rd_L7 x8_1 x16_4) from Kd.V_mk ul661_0 ge661_0)
                     clear hva_ hvn_ hvc_ ge661_0 ul661_0
                     clear hcc661 hce661
                     have HR661_0:=Aside0.mk hi661_0
                     have HC661_0:=Aside0.mk hl661_0
                     clear hi661_0 hl661_0
                     replace p661:=eq_true p661
                     replace q661:=eq_true q661
                     have p662:0≤(x14_3:Int):=oT_
                     have q662:x14_3 < (t657.length:Int):=oT_
                     obtain ⟨ad662,e662,hx662_0⟩:=Kd.at_string (Kd.R_reads' HO_13.out).2.2 x14_3 p662 q662
                     cases e662
                     replace p662:=eq_true p662
                     replace q662:=eq_true q662
                     go_wp2_with (first|(go_at_call 81;(with_reducible refine (nr_has.calls k4 _ _ (rd_L7 x8_1 x16_4) (rdOf ByteArray.empty t657 x14_3) t663 _ ?side1 ?side2 A25.out).mono ?_);(case side1=>repeat (first|exact (by repeat (first|(with_reducible exact HR661_0.out)|(with_reducible refine Kd.C_alloc ?_ _)|(with_reducible refine Kd.C_drewN ?_ _)|(with_reducible refine Kd.C_drew ?_)|exact HR661_0.out))|(with_reducible refine Kd.C_alloc ?_ _)|(with_reducible refine Kd.C_drewN ?_ _)|(with_reducible refine Kd.C_drew ?_)));(case side2=>exact HC661_0.out);rintro e w' ⟨rfl,⟨nd,rfl⟩⟩;(try exact tN_)))
                     repeat (go_quiet (first|(go_at_call 81;(with_reducible refine (nr_has.calls k4 _ _ (rd_L7 x8_1 x16_4) (rdOf ByteArray.empty t657 x14_3) t663 _ ?side1 ?side2 A25.out).mono ?_);(case side1=>repeat (first|exact (by repeat (first|(with_reducible exact HR661_0.out)|(with_reducible refine Kd.C_alloc ?_ _)|(with_reducible refine Kd.C_drewN ?_ _)|(with_reducible refine Kd.C_drew ?_)|exact HR661_0.out))|(with_reducible refine Kd.C_alloc ?_ _)|(with_reducible refine Kd.C_drewN ?_ _)|(with_reducible refine Kd.C_drew ?_)));(case side2=>exact HC661_0.out);rintro e w' ⟨rfl,⟨nd,rfl⟩⟩;(try exact tN_)));try go_wp2_with (first|(go_at_call 81;(with_reducible refine (nr_has.calls k4 _ _ (rd_L7 x8_1 x16_4) (rdOf ByteArray.empty t657 x14_3) t663 _ ?side1 ?side2 A25.out).mono ?_);(case side1=>repeat (first|exact (by repeat (first|(with_reducible exact HR661_0.out)|(with_reducible refine Kd.C_alloc ?_ _)|(with_reducible refine Kd.C_drewN ?_ _)|(with_reducible refine Kd.C_drew ?_)|exact HR661_0.out))|(with_reducible refine Kd.C_alloc ?_ _)|(with_reducible refine Kd.C_drewN ?_ _)|(with_reducible refine Kd.C_drew ?_)));(case side2=>exact HC661_0.out);rintro e w' ⟨rfl,⟨nd,rfl⟩⟩;(try exact tN_))))
                     go_roundg k4
                     case measure=>have:=HK1.out;have:=HK2.out;have:=HK3.out;have:=HK4.out;omega
                     case rel=>exact ⟨(t663),(wrap64 (x16_4+1)),tS_,tS_,H',⟨by have:=HK1.out;have:=HK2.out;have:=HK3.out;have:=HK4.out;omega⟩,⟨by (with_reducible repeat (first|apply Kd.N_alloc|apply Kd.N_drewN|apply Kd.N_drew));exact HO_8.out⟩,⟨tR_ HO_11⟩,⟨tR_ HO_13⟩,⟨tB_ HB⟩⟩
                    ·rw [if_neg c24] at H
                     exact absurd H (by simp)
                   ·rw [if_neg c23] at H
                    exact absurd H (by simp)
                  ·rw [if_neg c22] at H
                   exact absurd H (by simp)
                 ·rw [if_neg c21] at H
                  exact absurd H (by simp)
               ·rw [if_neg c19] at H
                have c19b0:decide (x16_4≤x10_1)=false:=decide_eq_false c19
                clear c19
                by_cases c26:x15_4=true
                ·subst c26
                 have H1:(nr_Reach.l2 k4 l0 a2 x8_1 x9_1 x10_1 x11_3 x12_2 t657 (wrap64 (x14_3+1)))=some (r1,r2):=by rw [if_pos rfl] at H;exact H
                 clear H
                 have H:=H1
                 clear H1
                 have H':=Aside0.mk H
                 clear H
                 go_wp2
                 repeat (go_quiet (fail);try go_wp2)
                 go_roundg k4
                 case measure=>have:=HK1.out;have:=HK2.out;have:=HK3.out;have:=HK4.out;omega
                 case rel=>exact ⟨(x11_3),(wrap64 (x14_3+1)),tS_,H',⟨by have:=HK1.out;have:=HK2.out;have:=HK3.out;have:=HK4.out;omega⟩,⟨by (with_reducible repeat (first|apply Kd.N_alloc|apply Kd.N_drewN|apply Kd.N_drew));exact HO_8.out⟩,⟨tR_ HO_11⟩,⟨tR_ HO_13⟩,⟨tB_ HB⟩⟩
                ·replace c26:=Bool.eq_false_iff.mpr c26
                 subst c26
                 have H1:(if 0≤x14_3 then (if x14_3 < (t657.length:Int) then ((nr_insert.f k4 x11_3 (rdOf ByteArray.empty t657 x14_3)).bind fun t665=>(nr_Reach.l2 k4 l0 a2 x8_1 x9_1 x10_1 t665 x12_2 t657 (wrap64 (x14_3+1)))) else (none)) else (none))=some (r1,r2):=by rw [if_neg (show ¬ (false=true) by decide)] at H;exact H
                 clear H
                 have H:=H1
                 clear H1
                 by_cases c27:0≤x14_3
                 ·rw [if_pos c27] at H
                  have c27b0:decide (0≤x14_3)=true:=decide_eq_true c27
                  clear c27
                  by_cases c28:x14_3 < (t657.length:Int)
                  ·rw [if_pos c28] at H
                   have c28b0:decide (x14_3 < (t657.length:Int))=true:=decide_eq_true c28
                   clear c28
                   replace H:=Option.bind_eq_some_iff.mp H
                   obtain ⟨t665,A290,H⟩:=H
                   replace H:(nr_Reach.l2 k4 l0 a2 x8_1 x9_1 x10_1 t665 x12_2 t657 (wrap64 (x14_3+1)))=some (r1,r2):=H
                   have A29:=Aside0.mk A290
                   clear A290
                   have H':=Aside0.mk H
                   clear H
                   have p664:0≤(x14_3:Int):=oT_
                   have q664:x14_3 < (t657.length:Int):=oT_
                   obtain ⟨ad664,e664,hx664_0⟩:=Kd.at_string (Kd.R_reads' HO_13.out).2.2 x14_3 p664 q664
                   cases e664
                   replace p664:=eq_true p664
                   replace q664:=eq_true q664
                   obtain ⟨Ao30,co30,eo30⟩:=Kd.R_slice HO_11.out
                   subst eo30
                   go_wp2_with (first|(go_at_call 103;(with_reducible refine (nr_insert.calls k4 (fun k_=>some k_=(.slice Ao30 x11_3.length co30:Value).ownBlock) (.slice Ao30 x11_3.length co30) x11_3 (rdOf ByteArray.empty t657 x14_3) t665 w _ ?side1 ?side2 A29.out).mono ?_);(case side1=>repeat (first|(with_reducible first|exact HB.out|apply below_alloc|apply pw_below_drewN|apply below_drew1)|exact HB.out));(case side2=>exact Kd.R_tight rfl HO_11.out);rintro e w31 ⟨v666,rfl,ho0,hb,hkp⟩;have n0_:=Aside0.mk (Kd.N_mono (ok':=fun k_=>(w.heap.size≤k_)∧some k_≠(.slice (some ad664) t657.length co18:Value).ownBlock∧some k_≠(v666:Value).ownBlock) (Kd.N_keptB (HO_8.out) hkp (fun k_ hk_ hs_=>(hk_.2.1) hs_)) (fun k_ hk_=>⟨hk_.1.1,hk_.1.2.2,fun e_=>Or.elim (ho0.1 k_ e_.symm) (fun hs_=>hk_.2.1 hs_) (fun hn_=>Nat.not_le.2 hk_.2.2 hn_)⟩));have n1_:=Aside0.mk (Kd.R_mono (ok':=fun k_=>(w.heap.size≤k_)∧some k_≠(v666:Value).ownBlock) (Kd.R_keptB (HO_13.out) hkp (fun k_ hk_ hs_=>(hk_.2) hs_)) (fun k_ hk_=>⟨hk_.1.1,fun e_=>Or.elim (ho0.1 k_ e_.symm) (fun hs_=>hk_.2.1 hs_) (fun hn_=>Nat.not_le.2 hk_.2.2 hn_)⟩));have n2_:=Aside0.mk (Kd.R_mono (ok':=fun k_=>(w.heap.size≤k_)∧some k_≠(.slice (some ad664) t657.length co18:Value).ownBlock) ho0 (fun k_ hk_=>⟨Or.elim hk_ (fun hs_=>(HO_11.out.1 k_ (hs_).symm).1) (fun hn_=>(Nat.le_trans (below_size (tB_ HB)) hn_)),Or.elim hk_ (fun hs_=>fun e_=>(((HO_13.out).1 k_ e_.symm).2) hs_) (fun hn_=>(Kd.fresh' (Kd.R_lt (tR_ HO_13)) k_ hn_))⟩));have n3_:=Aside0.mk (hb);clear HO_8;clear HO_13;clear HB;clear HO_11;have HO_8:=n0_;have HO_13:=n1_;have HO667:=n2_;have HB:=n3_;clear n0_ n1_ n2_ n3_;(try clear hb);(try clear hkp);(try clear ho0)))
                   repeat (go_quiet (first|(go_at_call 103;(with_reducible refine (nr_insert.calls k4 (fun k_=>some k_=(.slice Ao30 x11_3.length co30:Value).ownBlock) (.slice Ao30 x11_3.length co30) x11_3 (rdOf ByteArray.empty t657 x14_3) t665 w _ ?side1 ?side2 A29.out).mono ?_);(case side1=>repeat (first|(with_reducible first|exact HB.out|apply below_alloc|apply pw_below_drewN|apply below_drew1)|exact HB.out));(case side2=>exact Kd.R_tight rfl HO_11.out);rintro e w31 ⟨v666,rfl,ho0,hb,hkp⟩;have n0_:=Aside0.mk (Kd.N_mono (ok':=fun k_=>(w.heap.size≤k_)∧some k_≠(.slice (some ad664) t657.length co18:Value).ownBlock∧some k_≠(v666:Value).ownBlock) (Kd.N_keptB (HO_8.out) hkp (fun k_ hk_ hs_=>(hk_.2.1) hs_)) (fun k_ hk_=>⟨hk_.1.1,hk_.1.2.2,fun e_=>Or.elim (ho0.1 k_ e_.symm) (fun hs_=>hk_.2.1 hs_) (fun hn_=>Nat.not_le.2 hk_.2.2 hn_)⟩));have n1_:=Aside0.mk (Kd.R_mono (ok':=fun k_=>(w.heap.size≤k_)∧some k_≠(v666:Value).ownBlock) (Kd.R_keptB (HO_13.out) hkp (fun k_ hk_ hs_=>(hk_.2) hs_)) (fun k_ hk_=>⟨hk_.1.1,fun e_=>Or.elim (ho0.1 k_ e_.symm) (fun hs_=>hk_.2.1 hs_) (fun hn_=>Nat.not_le.2 hk_.2.2 hn_)⟩));have n2_:=Aside0.mk (Kd.R_mono (ok':=fun k_=>(w.heap.size≤k_)∧some k_≠(.slice (some ad664) t657.length co18:Value).ownBlock) ho0 (fun k_ hk_=>⟨Or.elim hk_ (fun hs_=>(HO_11.out.1 k_ (hs_).symm).1) (fun hn_=>(Nat.le_trans (below_size (tB_ HB)) hn_)),Or.elim hk_ (fun hs_=>fun e_=>(((HO_13.out).1 k_ e_.symm).2) hs_) (fun hn_=>(Kd.fresh' (Kd.R_lt (tR_ HO_13)) k_ hn_))⟩));have n3_:=Aside0.mk (hb);clear HO_8;clear HO_13;clear HB;clear HO_11;have HO_8:=n0_;have HO_13:=n1_;have HO667:=n2_;have HB:=n3_;clear n0_ n1_ n2_ n3_;(try clear hb);(try clear hkp);(try clear ho0)));try go_wp2_with (first|(go_at_call 103;(with_reducible refine (nr_insert.calls k4 (fun k_=>some k_=(.slice Ao30 x11_3.length co30:Value).ownBlock) (.slice Ao30 x11_3.length co30) x11_3 (rdOf ByteArray.empty t657 x14_3) t665 w _ ?side1 ?side2 A29.out).mono ?_);(case side1=>repeat (first|(with_reducible first|exact HB.out|apply below_alloc|apply pw_below_drewN|apply below_drew1)|exact HB.out));(case side2=>exact Kd.R_tight rfl HO_11.out);rintro e w31 ⟨v666,rfl,ho0,hb,hkp⟩;have n0_:=Aside0.mk (Kd.N_mono (ok':=fun k_=>(w.heap.size≤k_)∧some k_≠(.slice (some ad664) t657.length co18:Value).ownBlock∧some k_≠(v666:Value).ownBlock) (Kd.N_keptB (HO_8.out) hkp (fun k_ hk_ hs_=>(hk_.2.1) hs_)) (fun k_ hk_=>⟨hk_.1.1,hk_.1.2.2,fun e_=>Or.elim (ho0.1 k_ e_.symm) (fun hs_=>hk_.2.1 hs_) (fun hn_=>Nat.not_le.2 hk_.2.2 hn_)⟩));have n1_:=Aside0.mk (Kd.R_mono (ok':=fun k_=>(w.heap.size≤k_)∧some k_≠(v666:Value).ownBlock) (Kd.R_keptB (HO_13.out) hkp (fun k_ hk_ hs_=>(hk_.2) hs_)) (fun k_ hk_=>⟨hk_.1.1,fun e_=>Or.elim (ho0.1 k_ e_.symm) (fun hs_=>hk_.2.1 hs_) (fun hn_=>Nat.not_le.2 hk_.2.2 hn_)⟩));have n2_:=Aside0.mk (Kd.R_mono (ok':=fun k_=>(w.heap.size≤k_)∧some k_≠(.slice (some ad664) t657.length co18:Value).ownBlock) ho0 (fun k_ hk_=>⟨Or.elim hk_ (fun hs_=>(HO_11.out.1 k_ (hs_).symm).1) (fun hn_=>(Nat.le_trans (below_size (tB_ HB)) hn_)),Or.elim hk_ (fun hs_=>fun e_=>(((HO_13.out).1 k_ e_.symm).2) hs_) (fun hn_=>(Kd.fresh' (Kd.R_lt (tR_ HO_13)) k_ hn_))⟩));have n3_:=Aside0.mk (hb);clear HO_8;clear HO_13;clear HB;clear HO_11;have HO_8:=n0_;have HO_13:=n1_;have HO667:=n2_;have HB:=n3_;clear n0_ n1_ n2_ n3_;(try clear hb);(try clear hkp);(try clear ho0))))
                   go_roundg k4
                   case measure=>have:=HK1.out;have:=HK2.out;have:=HK3.out;have:=HK4.out;omega
                   case rel=>exact ⟨(t665),(wrap64 (x14_3+1)),tS_,H',⟨by have:=HK1.out;have:=HK2.out;have:=HK3.out;have:=HK4.out;omega⟩,⟨by (with_reducible repeat (first|apply Kd.N_alloc|apply Kd.N_drewN|apply Kd.N_drew));exact Kd.N_mono HO_8.out (fun _ hk=>⟨hk.1,⟨hk.2.2,hk.2.1⟩⟩)⟩,⟨tR_ HO667⟩,⟨tR_ HO_13⟩,⟨tB_ HB⟩⟩
                  ·rw [if_neg c28] at H
                   exact absurd H (by simp)
                 ·rw [if_neg c27] at H
                  exact absurd H (by simp)
            ·rw [if_neg c17] at H
             have c17b0:decide (x14_3 < (t657.length:Int))=false:=decide_eq_false c17
             clear c17
             replace H:=Option.bind_eq_some_iff.mp H
             obtain ⟨t660,A320,H⟩:=H
             replace H:(if t660=true then (some (([]:List (List ByteArray)),false)) else (if (wrap64 (x9_1+(x11_3.length:Int))) > 300 then (some (([]:List (List ByteArray)),false)) else (nr_Reach.l1 k3 l0 a2 x8_1 x9_1 x10_1 x11_3 (wrap64 (x12_2+1)))))=some (r1,r2):=H
             have A32:=Aside0.mk A320
             clear A320
             by_cases c33:t660=true
             ·subst c33
              have H1:(some (([]:List (List ByteArray)),false))=some (r1,r2):=by rw [if_pos rfl] at H;exact H
              clear H
              have H:=H1
              clear H1
              simp only [Option.some.injEq,Prod.mk.injEq] at H
              obtain ⟨rfl,rfl⟩:=H
              obtain ⟨Ao34,co34,eo34⟩:=Kd.R_slice HO_13.out
              subst eo34
              go_wp2_with (first|(go_at_call 52;(with_reducible refine (nr_Large.calls k3 _ _ t657 true _ ?side1 ?side2 A32.out).mono ?_);(case side1=>repeat (first|exact (Kd.R_reads' HO_13.out).2.2|(with_reducible refine Kd.C_alloc ?_ _)|(with_reducible refine Kd.C_drewN ?_ _)|(with_reducible refine Kd.C_drew ?_)));(case side2=>exact (Kd.R_reads' HO_13.out).2.1);rintro e w' ⟨rfl,⟨nd,rfl⟩⟩;(try exact tN_)))
              repeat (go_quiet (first|(go_at_call 52;(with_reducible refine (nr_Large.calls k3 _ _ t657 true _ ?side1 ?side2 A32.out).mono ?_);(case side1=>repeat (first|exact (Kd.R_reads' HO_13.out).2.2|(with_reducible refine Kd.C_alloc ?_ _)|(with_reducible refine Kd.C_drewN ?_ _)|(with_reducible refine Kd.C_drew ?_)));(case side2=>exact (Kd.R_reads' HO_13.out).2.1);rintro e w' ⟨rfl,⟨nd,rfl⟩⟩;(try exact tN_)));try go_wp2_with (first|(go_at_call 52;(with_reducible refine (nr_Large.calls k3 _ _ t657 true _ ?side1 ?side2 A32.out).mono ?_);(case side1=>repeat (first|exact (Kd.R_reads' HO_13.out).2.2|(with_reducible refine Kd.C_alloc ?_ _)|(with_reducible refine Kd.C_drewN ?_ _)|(with_reducible refine Kd.C_drew ?_)));(case side2=>exact (Kd.R_reads' HO_13.out).2.1);rintro e w' ⟨rfl,⟨nd,rfl⟩⟩;(try exact tN_))))
              go_ret2
              exact ⟨_,tE_,by first|exact Kd.S_nil _ _ _ _ _|exact Kd.N_nil _ _ _ _ _|exact Kd.V_nil _ _ _ _ _|exact Kd.Q_nil _ _ _ _ _|exact Kd.R_nil _ _ _ _ _,tB_ HB⟩
             ·replace c33:=Bool.eq_false_iff.mpr c33
              subst c33
              have H1:(if (wrap64 (x9_1+(x11_3.length:Int))) > 300 then (some (([]:List (List ByteArray)),false)) else (nr_Reach.l1 k3 l0 a2 x8_1 x9_1 x10_1 x11_3 (wrap64 (x12_2+1))))=some (r1,r2):=by rw [if_neg (show ¬ (false=true) by decide)] at H;exact H
              clear H
              have H:=H1
              clear H1
              by_cases c35:(wrap64 (x9_1+(x11_3.length:Int))) > 300
              ·rw [if_pos c35] at H
               have c35b0:decide (300 < (wrap64 (x9_1+(x11_3.length:Int))))=true:=decide_eq_true c35
               clear c35
               simp only [Option.some.injEq,Prod.mk.injEq] at H
               obtain ⟨rfl,rfl⟩:=H
               obtain ⟨Ao36,co36,eo36⟩:=Kd.R_slice HO_13.out
               subst eo36
               go_wp2_with (first|(go_at_call 52;(with_reducible refine (nr_Large.calls k3 _ _ t657 false _ ?side1 ?side2 A32.out).mono ?_);(case side1=>repeat (first|exact (Kd.R_reads' HO_13.out).2.2|(with_reducible refine Kd.C_alloc ?_ _)|(with_reducible refine Kd.C_drewN ?_ _)|(with_reducible refine Kd.C_drew ?_)));(case side2=>exact (Kd.R_reads' HO_13.out).2.1);rintro e w' ⟨rfl,⟨nd,rfl⟩⟩;(try exact tN_);obtain ⟨Ao37,co37,eo37⟩:=Kd.R_slice HO_11.out;subst eo37))
               repeat (go_quiet (first|(go_at_call 52;(with_reducible refine (nr_Large.calls k3 _ _ t657 false _ ?side1 ?side2 A32.out).mono ?_);(case side1=>repeat (first|exact (Kd.R_reads' HO_13.out).2.2|(with_reducible refine Kd.C_alloc ?_ _)|(with_reducible refine Kd.C_drewN ?_ _)|(with_reducible refine Kd.C_drew ?_)));(case side2=>exact (Kd.R_reads' HO_13.out).2.1);rintro e w' ⟨rfl,⟨nd,rfl⟩⟩;(try exact tN_);obtain ⟨Ao37,co37,eo37⟩:=Kd.R_slice HO_11.out;subst eo37));try go_wp2_with (first|(go_at_call 52;(with_reducible refine (nr_Large.calls k3 _ _ t657 false _ ?side1 ?side2 A32.out).mono ?_);(case side1=>repeat (first|exact (Kd.R_reads' HO_13.out).2.2|(with_reducible refine Kd.C_alloc ?_ _)|(with_reducible refine Kd.C_drewN ?_ _)|(with_reducible refine Kd.C_drew ?_)));(case side2=>exact (Kd.R_reads' HO_13.out).2.1);rintro e w' ⟨rfl,⟨nd,rfl⟩⟩;(try exact tN_);obtain ⟨Ao37,co37,eo37⟩:=Kd.R_slice HO_11.out;subst eo37)))
               go_ret2
               exact ⟨_,tE_,by first|exact Kd.S_nil _ _ _ _ _|exact Kd.N_nil _ _ _ _ _|exact Kd.V_nil _ _ _ _ _|exact Kd.Q_nil _ _ _ _ _|exact Kd.R_nil _ _ _ _ _,tB_ HB⟩
              ·rw [if_neg c35] at H
               have c35b0:decide (300 < (wrap64 (x9_1+(x11_3.length:Int))))=false:=decide_eq_false c35
               clear c35
               have H':=Aside0.mk H
               clear H
               obtain ⟨Ao38,co38,eo38⟩:=Kd.R_slice HO_13.out
               subst eo38
               go_wp2_with (first|(go_at_call 52;(with_reducible refine (nr_Large.calls k3 _ _ t657 false _ ?side1 ?side2 A32.out).mono ?_);(case side1=>repeat (first|exact (Kd.R_reads' HO_13.out).2.2|(with_reducible refine Kd.C_alloc ?_ _)|(with_reducible refine Kd.C_drewN ?_ _)|(with_reducible refine Kd.C_drew ?_)));(case side2=>exact (Kd.R_reads' HO_13.out).2.1);rintro e w' ⟨rfl,⟨nd,rfl⟩⟩;(try exact tN_);obtain ⟨Ao39,co39,eo39⟩:=Kd.R_slice HO_11.out;subst eo39))
               repeat (go_quiet (first|(go_at_call 52;(with_reducible refine (nr_Large.calls k3 _ _ t657 false _ ?side1 ?side2 A32.out).mono ?_);(case side1=>repeat (first|exact (Kd.R_reads' HO_13.out).2.2|(with_reducible refine Kd.C_alloc ?_ _)|(with_reducible refine Kd.C_drewN ?_ _)|(with_reducible refine Kd.C_drew ?_)));(case side2=>exact (Kd.R_reads' HO_13.out).2.1);rintro e w' ⟨rfl,⟨nd,rfl⟩⟩;(try exact tN_);obtain ⟨Ao39,co39,eo39⟩:=Kd.R_slice HO_11.out;subst eo39));try go_wp2_with (first|(go_at_call 52;(with_reducible refine (nr_Large.calls k3 _ _ t657 false _ ?side1 ?side2 A32.out).mono ?_);(case side1=>repeat (first|exact (Kd.R_reads' HO_13.out).2.2|(with_reducible refine Kd.C_alloc ?_ _)|(with_reducible refine Kd.C_drewN ?_ _)|(with_reducible refine Kd.C_drew ?_)));(case side2=>exact (Kd.R_reads' HO_13.out).2.1);rintro e w' ⟨rfl,⟨nd,rfl⟩⟩;(try exact tN_);obtain ⟨Ao39,co39,eo39⟩:=Kd.R_slice HO_11.out;subst eo39)))
               go_roundg k3
               case measure=>have:=HK1.out;have:=HK2.out;have:=HK3.out;omega
               case rel=>exact ⟨(x11_3),(wrap64 (x12_2+1)),tS_,H',⟨by have:=HK1.out;have:=HK2.out;have:=HK3.out;omega⟩,⟨by (with_reducible repeat (first|apply Kd.N_alloc|apply Kd.N_drewN|apply Kd.N_drew));exact Kd.N_mono HO_8.out (fun _ hk=>⟨hk.1,hk.2.1⟩)⟩,⟨by (with_reducible repeat (first|apply Kd.R_alloc|apply Kd.R_drewN|apply Kd.R_drew));exact Kd.R_mono HO_11.out (fun _ hk=>hk.1)⟩,⟨tB_ HB⟩⟩
         ·rw [if_neg c13] at H
          exact absurd H (by simp)
        ·rw [if_neg c12] at H
         have c12b0:decide (x12_2 < ((rd_L7 x8_1 x10_1).length:Int))=false:=decide_eq_false c12
         clear c12
         by_cases c40:x8_1.length < 5864062014805
         ·rw [if_pos c40] at H
          have LMc40:=Aside0.mk c40
          clear c40
          obtain ⟨y652,hy652⟩:∃ y_:List (List ByteArray),y_=(x8_1++[x11_2]):=⟨_,rfl⟩
          replace H:(nr_Reach.l0 k2 l0 a2 y652 (wrap64 (x9_1+(x11_2.length:Int))) (wrap64 (x10_1+1)))=some (r1,r2):=by first|(rw [hy652];with_reducible exact H)|(have H2_:=(Option.bind_some _ _).symm.trans H;rw [hy652];with_reducible exact H2_)|(have H2_:=(Option.bind_some _ _).symm.trans H;with_reducible exact H2_)|with_reducible exact H|(rw [hy652];exact H)|exact H
          have Ny652:=Aside0.mk hy652
          clear hy652
          have H':=Aside0.mk H
          clear H
          obtain ⟨Ao41,co41,eo41⟩:=Kd.N_slice HO_8.out
          subst eo41
          have p651:0≤(x10_1:Int):=oT_
          have q651:x10_1 < (x8_1.length:Int):=oT_
          obtain ⟨ad651,A651_0,c651_0,e651,hx651_0,hl651_0,hi651_0⟩:=at_L7 (Kd.N_reads' HO_8.out).2.2 x10_1 p651 q651
          cases e651
          obtain ⟨ce651,hce651,hMe651,hcc651⟩:=Kd.N_get HO_8.out [] x10_1 p651 (by first|exact q651|exact oT_|(have e_:=(Kd.N_reads' HO_8.out).1;omega))
          obtain ⟨ua651_0,uc651_0,rfl,ul651_0,ge651_0⟩:=Kd.FK_slice_open hMe651
          have hv651_0:=hcc651 0 _ rfl
          rw [Nat.add_zero,show ((Kd.slice 9 Kd.string)).sz=1 from rfl,Nat.mul_one] at hv651_0
          replace hv651_0:=Option.some.inj (hv651_0.symm.trans hx651_0)
          injection hv651_0 with hva_ hvn_ hvc_
          rw [hva_] at ge651_0
          rw [hvc_] at ul651_0
          have HL651_0:=Aside0.mk (show Kd.V Kd.string 9 _ w.heap.size _ _ (rd_L7 x8_1 x10_1) from Kd.V_mk ul651_0 ge651_0)
          clear hva_ hvn_ hvc_ ge651_0 ul651_0
          clear hcc651 hce651
          have HR651_0:=Aside0.mk hi651_0
          have HC651_0:=Aside0.mk hl651_0
          clear hi651_0 hl651_0
          replace p651:=eq_true p651
          replace q651:=eq_true q651
          obtain ⟨Ao42,co42,eo42⟩:=Kd.R_slice HO_11.out
          subst eo42
          go_wp2_with (first|((with_reducible refine gate_builtin (b:=.append) (xs:=#[.tmp 87,.tmp 89]) rfl ?_);(try (refine gate_guard (by rfl) ?_;dsimp only));at_builtin;refine Kd.N_append (Kd.slice 9 Kd.string) (w0:=w) w.heap.size rfl (.tmp 87) (.tmp 89) 84 36 (.slice none 0 0) 24 rfl Tryz.underlying84 info36 rfl (by decide) (by omega) (.slice (some ad651) x8_1.length co41) x8_1 x11_2 [.slice Ao42 x11_2.length co42] (fun k_=>(w.heap.size≤k_)) (fun k_=>((fun k_=>(w.heap.size≤k_))) k_∧some k_≠(.slice (some ad651) x8_1.length co41:Value).ownBlock) rfl rfl ?aP (fun _ hk=>hk) ?aF ?aO ?aB ?aS ?aL ?_;(case aP=>exact (Kd.FK_slice_mk (Kd.R_reads' (Kd.R_mono (ok':=(fun k_=>((fun k_=>(w.heap.size≤k_))) k_∧some k_≠(.slice (some ad651) x8_1.length co41:Value).ownBlock)) (Kd.R_apart' (HO_11.out) (Kd.N_typed HO_8.out) (by decide)) (fun k_ hk=>⟨hk.1,hk.2⟩))).2.1 (Kd.R_F (Kd.R_mono (ok':=(fun k_=>((fun k_=>(w.heap.size≤k_))) k_∧some k_≠(.slice (some ad651) x8_1.length co41:Value).ownBlock)) (Kd.R_apart' (HO_11.out) (Kd.N_typed HO_8.out) (by decide)) (fun k_ hk=>⟨hk.1,hk.2⟩)))));(case aB=>exact (tB_ HB));(case aF=>exact (fun k_ hk=>(Nat.le_trans (below_size (tB_ HB)) hk)));(case aO=>exact (by (with_reducible repeat (first|apply Kd.N_alloc|apply Kd.N_drewN|apply Kd.N_drew));exact Kd.N_mono HO_8.out (fun _ hk=>hk.1)));(case aS=>exact (below_size (tB_ HB)));(case aL=>have:=LMc40.out;omega);intro v653 w43 ho hb hg hat;rw [←Ny652.out] at ho;have n0_:=Aside0.mk (Kd.V_afterv (ok:=(fun k_=>(w.heap.size≤k_)∧some k_≠(.slice Ao42 x11_2.length co42:Value).ownBlock)) (by (with_reducible repeat (first|apply Kd.V_alloc|apply Kd.V_drewN|apply Kd.V_drew));exact HL651_0.out) hg hat);have n1_:=Aside0.mk (hb);have n2_:=Aside0.mk (ho);clear HL651_0;clear HB;clear HO_8;clear HO_11;have HL651_0:=n0_;have HB:=n1_;have HO654:=n2_;clear n0_ n1_ n2_;clear ho hb hg hat))
          repeat (go_quiet (first|((with_reducible refine gate_builtin (b:=.append) (xs:=#[.tmp 87,.tmp 89]) rfl ?_);(try (refine gate_guard (by rfl) ?_;dsimp only));at_builtin;refine Kd.N_append (Kd.slice 9 Kd.string) (w0:=w) w.heap.size rfl (.tmp 87) (.tmp 89) 84 36 (.slice none 0 0) 24 rfl Tryz.underlying84 info36 rfl (by decide) (by omega) (.slice (some ad651) x8_1.length co41) x8_1 x11_2 [.slice Ao42 x11_2.length co42] (fun k_=>(w.heap.size≤k_)) (fun k_=>((fun k_=>(w.heap.size≤k_))) k_∧some k_≠(.slice (some ad651) x8_1.length co41:Value).ownBlock) rfl rfl ?aP (fun _ hk=>hk) ?aF ?aO ?aB ?aS ?aL ?_;(case aP=>exact (Kd.FK_slice_mk (Kd.R_reads' (Kd.R_mono (ok':=(fun k_=>((fun k_=>(w.heap.size≤k_))) k_∧some k_≠(.slice (some ad651) x8_1.length co41:Value).ownBlock)) (Kd.R_apart' (HO_11.out) (Kd.N_typed HO_8.out) (by decide)) (fun k_ hk=>⟨hk.1,hk.2⟩))).2.1 (Kd.R_F (Kd.R_mono (ok':=(fun k_=>((fun k_=>(w.heap.size≤k_))) k_∧some k_≠(.slice (some ad651) x8_1.length co41:Value).ownBlock)) (Kd.R_apart' (HO_11.out) (Kd.N_typed HO_8.out) (by decide)) (fun k_ hk=>⟨hk.1,hk.2⟩)))));(case aB=>exact (tB_ HB));(case aF=>exact (fun k_ hk=>(Nat.le_trans (below_size (tB_ HB)) hk)));(case aO=>exact (by (with_reducible repeat (first|apply Kd.N_alloc|apply Kd.N_drewN|apply Kd.N_drew));exact Kd.N_mono HO_8.out (fun _ hk=>hk.1)));(case aS=>exact (below_size (tB_ HB)));(case aL=>have:=LMc40.out;omega);intro v653 w43 ho hb hg hat;rw [←Ny652.out] at ho;have n0_:=Aside0.mk (Kd.V_afterv (ok:=(fun k_=>(w.heap.size≤k_)∧some k_≠(.slice Ao42 x11_2.length co42:Value).ownBlock)) (by (with_reducible repeat (first|apply Kd.V_alloc|apply Kd.V_drewN|apply Kd.V_drew));exact HL651_0.out) hg hat);have n1_:=Aside0.mk (hb);have n2_:=Aside0.mk (ho);clear HL651_0;clear HB;clear HO_8;clear HO_11;have HL651_0:=n0_;have HB:=n1_;have HO654:=n2_;clear n0_ n1_ n2_;clear ho hb hg hat));try go_wp2_with (first|((with_reducible refine gate_builtin (b:=.append) (xs:=#[.tmp 87,.tmp 89]) rfl ?_);(try (refine gate_guard (by rfl) ?_;dsimp only));at_builtin;refine Kd.N_append (Kd.slice 9 Kd.string) (w0:=w) w.heap.size rfl (.tmp 87) (.tmp 89) 84 36 (.slice none 0 0) 24 rfl Tryz.underlying84 info36 rfl (by decide) (by omega) (.slice (some ad651) x8_1.length co41) x8_1 x11_2 [.slice Ao42 x11_2.length co42] (fun k_=>(w.heap.size≤k_)) (fun k_=>((fun k_=>(w.heap.size≤k_))) k_∧some k_≠(.slice (some ad651) x8_1.length co41:Value).ownBlock) rfl rfl ?aP (fun _ hk=>hk) ?aF ?aO ?aB ?aS ?aL ?_;(case aP=>exact (Kd.FK_slice_mk (Kd.R_reads' (Kd.R_mono (ok':=(fun k_=>((fun k_=>(w.heap.size≤k_))) k_∧some k_≠(.slice (some ad651) x8_1.length co41:Value).ownBlock)) (Kd.R_apart' (HO_11.out) (Kd.N_typed HO_8.out) (by decide)) (fun k_ hk=>⟨hk.1,hk.2⟩))).2.1 (Kd.R_F (Kd.R_mono (ok':=(fun k_=>((fun k_=>(w.heap.size≤k_))) k_∧some k_≠(.slice (some ad651) x8_1.length co41:Value).ownBlock)) (Kd.R_apart' (HO_11.out) (Kd.N_typed HO_8.out) (by decide)) (fun k_ hk=>⟨hk.1,hk.2⟩)))));(case aB=>exact (tB_ HB));(case aF=>exact (fun k_ hk=>(Nat.le_trans (below_size (tB_ HB)) hk)));(case aO=>exact (by (with_reducible repeat (first|apply Kd.N_alloc|apply Kd.N_drewN|apply Kd.N_drew));exact Kd.N_mono HO_8.out (fun _ hk=>hk.1)));(case aS=>exact (below_size (tB_ HB)));(case aL=>have:=LMc40.out;omega);intro v653 w43 ho hb hg hat;rw [←Ny652.out] at ho;have n0_:=Aside0.mk (Kd.V_afterv (ok:=(fun k_=>(w.heap.size≤k_)∧some k_≠(.slice Ao42 x11_2.length co42:Value).ownBlock)) (by (with_reducible repeat (first|apply Kd.V_alloc|apply Kd.V_drewN|apply Kd.V_drew));exact HL651_0.out) hg hat);have n1_:=Aside0.mk (hb);have n2_:=Aside0.mk (ho);clear HL651_0;clear HB;clear HO_8;clear HO_11;have HL651_0:=n0_;have HB:=n1_;have HO654:=n2_;clear n0_ n1_ n2_;clear ho hb hg hat)))
          go_roundg k2
          case measure=>have:=HK1.out;have:=HK2.out;omega
          case rel=>exact ⟨(y652),(wrap64 (x9_1+(x11_2.length:Int))),(wrap64 (x10_1+1)),tS_,tS_,H',⟨by have:=HK1.out;have:=HK2.out;omega⟩,⟨by (with_reducible repeat (first|apply Kd.N_alloc|apply Kd.N_drewN|apply Kd.N_drew));exact HO654.out⟩,⟨tB_ HB⟩⟩
         ·rw [if_neg c40] at H
          exact absurd H (by simp)
       ·rw [if_neg c11] at H
        exact absurd H (by simp)
      ·rw [if_neg c10] at H
       exact absurd H (by simp)
   ·rw [if_neg c9] at H
    have c9b0:decide (x10_1 < a2)=false:=decide_eq_false c9
    clear c9
    simp only [Option.some.injEq,Prod.mk.injEq] at H
    obtain ⟨rfl,rfl⟩:=H
    go_wp2
    repeat (go_quiet (fail);try go_wp2)
    go_ret2
    exact ⟨_,tE_,by (with_reducible repeat (first|apply Kd.N_alloc|apply Kd.N_drewN|apply Kd.N_drew));exact HO_8.out,tB_ HB⟩
end Go.Proofs.YtaafeallcaiooaaGreat.Pr
