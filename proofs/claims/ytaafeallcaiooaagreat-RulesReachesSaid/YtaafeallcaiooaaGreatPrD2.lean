import Derived.Test.YtaafeallcaiooaaGreatPr0
import Derived.Test.YtaafeallcaiooaaGreatHRm
import Derived.Test.YtaafeallcaiooaaGreatPrA2
import Derived.Test.YtaafeallcaiooaaGreatPrA3
namespace Go.Proofs.YtaafeallcaiooaaGreat.Pr
open Go.RowKit Go.Proofs.Zw Go.Proofs.Zl Go.Proofs.Zm
attribute [local go_sem] max2_int min2_int max_two min_two max_three min_three max_four min_four
set_option linter.unusedVariables false
set_option linter.unusedSimpArgs false
noncomputable def nr_Returns.l0:Nat→ByteArray→ByteArray→Int→Option (Bool)
 | 0,_,_,_=>none
 | k+1,x0,x1,x5=>if x5 < (x1.size:Int) then (if 0≤x5 then ((nr_letter.f k (bt x1 x5)).bind fun t275=>(if t275=true then ((nr_End.f k x1 x5).bind fun t276=>(if x5≤t276 then (if t276≤(x1.size:Int) then ((nr_Match.f x0 (x1.extract (x5:Int).toNat (t276:Int).toNat)).bind fun bt277=>(if bt277.2.2.2=true then (some true) else (nr_Returns.l0 k x0 x1 (wrap64 (x5+1))))) else (none)) else (none))) else (nr_Returns.l0 k x0 x1 (wrap64 (x5+1))))) else (none)) else (some false)
noncomputable def nr_Returns.f (k:Nat) (a0:ByteArray) (a1:ByteArray):Option (Bool):=nr_Returns.l0 k a0 a1 0
set_option maxHeartbeats 8000000 in
set_option maxRecDepth 100000 in
theorem nr_Returns.calls (k:Nat) (a0:ByteArray) (a1:ByteArray) (r:Bool) (w:World) (h:nr_Returns.f k a0 a1=some r) :
  Calls Tryz.prog 82 #[.string a0,.string a1] w fun e w'=>e=.returned (.bool r)∧Below w.heap.size w w':=by
 have hu61:=Tryz.underlying61
 have HB:=Aside0.mk (Below.refl w.heap.size w)
 have H:(nr_Returns.l0 k a0 a1 0)=some r:=h
 clear h
 have H':=Aside0.mk H
 clear H
 go_enter Tryz.func82,Tryz.ntmps82
 go_wp2
 go_loopg [5] k (fun kq v5 w'=>∃ (x5_1:Int),v5=.int .i64 x5_1∧Aside0 (nr_Returns.l0 kq a0 a1 x5_1=some r)∧Aside0 (kq≤k)∧Aside0 (Below w.heap.size w w'))
 case atStart=>exact ⟨(0),tS_,H',⟨Nat.le_refl _⟩,⟨tB_ HB⟩⟩
 case round =>
  clear H'
  try clear p2
  obtain ⟨x5_1,rfl,HA,HK1,HB⟩:=hrel
  cases gk with
  | zero=>exact absurd HA.out (by simp [nr_Returns.l0])
  | succ k1 =>
   have H:=HA.out
   clear HA
   simp only [nr_Returns.l0] at H
   by_cases c3:x5_1 < (a1.size:Int)
   ·rw [if_pos c3] at H
    have c3b0:decide (x5_1 < (a1.size:Int))=true:=decide_eq_true c3
    clear c3
    by_cases c4:0≤x5_1
    ·rw [if_pos c4] at H
     have c4b0:decide (0≤x5_1)=true:=decide_eq_true c4
     clear c4
     replace H:=Option.bind_eq_some_iff.mp H
     obtain ⟨t275,A60,H⟩:=H
     replace H:(if t275=true then ((nr_End.f k1 a1 x5_1).bind fun t276=>(if x5_1≤t276 then (if t276≤(a1.size:Int) then ((nr_Match.f a0 (a1.extract (x5_1:Int).toNat (t276:Int).toNat)).bind fun bt277=>(if bt277.2.2.2=true then (some true) else (nr_Returns.l0 k1 a0 a1 (wrap64 (x5_1+1))))) else (none)) else (none))) else (nr_Returns.l0 k1 a0 a1 (wrap64 (x5_1+1))))=some r:=H
     have A6:=Aside0.mk A60
     clear A60
     by_cases c7:t275=true
     ·subst c7
      have H1:((nr_End.f k1 a1 x5_1).bind fun t276=>(if x5_1≤t276 then (if t276≤(a1.size:Int) then ((nr_Match.f a0 (a1.extract (x5_1:Int).toNat (t276:Int).toNat)).bind fun bt277=>(if bt277.2.2.2=true then (some true) else (nr_Returns.l0 k1 a0 a1 (wrap64 (x5_1+1))))) else (none)) else (none)))=some r:=by rw [if_pos rfl] at H;exact H
      clear H
      have H:=H1
      clear H1
      replace H:=Option.bind_eq_some_iff.mp H
      obtain ⟨t276,A80,H⟩:=H
      replace H:(if x5_1≤t276 then (if t276≤(a1.size:Int) then ((nr_Match.f a0 (a1.extract (x5_1:Int).toNat (t276:Int).toNat)).bind fun bt277=>(if bt277.2.2.2=true then (some true) else (nr_Returns.l0 k1 a0 a1 (wrap64 (x5_1+1))))) else (none)) else (none))=some r:=H
      have A8:=Aside0.mk A80
      clear A80
      have c9b0:=eq_true (oT_:0≤x5_1)
      by_cases c10:x5_1≤t276
      ·rw [if_pos c10] at H
       have c10b0:=eq_true c10
       have c10b1:decide (x5_1≤t276)=true:=decide_eq_true c10
       clear c10
       by_cases c11:t276≤(a1.size:Int)
       ·rw [if_pos c11] at H
        have c11b0:=eq_true c11
        have c11b1:decide (t276≤(a1.size:Int))=true:=decide_eq_true c11
        clear c11
        replace H:=Option.bind_eq_some_iff.mp H
        obtain ⟨⟨t277,t278,t279,t280⟩,A120,H⟩:=H
        replace H:(if t280=true then (some true) else (nr_Returns.l0 k1 a0 a1 (wrap64 (x5_1+1))))=some r:=H
        have A12:=Aside0.mk A120
        clear A120
        by_cases c13:t280=true
        ·subst c13
         have H1:(some true)=some r:=by rw [if_pos rfl] at H;exact H
         clear H
         have H:=H1
         clear H1
         obtain rfl:=Option.some.inj H
         have p5:0≤(x5_1:Int):=oT_
         have q5:x5_1 < (a1.size:Int):=oT_
         have hx5:=bt_at a1 x5_1
         replace p5:=eq_true p5
         replace q5:=eq_true q5
         go_wp2_with (first|((with_reducible refine gate_callee (f:=73) rfl ?_);refine goesL_ (some 17) rfl rfl Tryz.func73 (by kernel_rfl) rfl #[.int .u8 (bt a1 x5_1)] rfl tM_ ?_;(with_reducible refine (nr_letter.calls k1 (bt a1 x5_1) true _ A6.out).mono ?_);rintro e w' ⟨rfl,⟨nd,rfl⟩⟩;refine ⟨_,rfl,?_⟩;(try (rw [drewN_self wr];generalize hq_:World.drewN wr _=wr;have n0_:Aside0 (Below w.heap.size w wr):=⟨by rw [←hq_];exact (tB_ HB)⟩;clear HB hq_;have HB:=n0_;clear n0_)))|((with_reducible refine gate_callee (f:=72) rfl ?_);refine goesL_ (some 24) rfl rfl Tryz.func72 (by kernel_rfl) rfl #[.string a1,.int .i64 x5_1] rfl tM_ ?_;(with_reducible refine (nr_End.calls k1 a1 x5_1 t276 _ A8.out).mono ?_);rintro e w' ⟨rfl,⟨nd,rfl⟩⟩;refine ⟨_,rfl,?_⟩;(try (rw [drewN_self wr];generalize hq_:World.drewN wr _=wr;have n0_:Aside0 (Below w.heap.size w wr):=⟨by rw [←hq_];exact (tB_ HB)⟩;clear HB hq_;have HB:=n0_;clear n0_)))|((with_reducible refine gate_callee (f:=48) rfl ?_);refine goesL_ (some 26) rfl rfl Tryz.func48 (by kernel_rfl) rfl #[.string a0,.string (a1.extract (x5_1:Int).toNat (t276:Int).toNat)] rfl tM_ ?_;(with_reducible refine (nr_Match.calls a0 (a1.extract (x5_1:Int).toNat (t276:Int).toNat) t277 t278 t279 true _ A12.out).mono ?_);rintro e w14 ⟨rfl,hb⟩;refine ⟨_,rfl,?_⟩;have n0_:=Aside0.mk (below_step (tB_ HB) hb);clear HB;have HB:=n0_;clear n0_;(try clear hb);(try clear hb2);(try clear hk);(try clear hi))|((with_reducible refine gate_dst (N:=6) rfl ?_);refine box_event ?hg (N:=6) ?hd (cs:=#[.string (⟨#[]⟩:ByteArray),.string (⟨#[]⟩:ByteArray),.string (⟨#[]⟩:ByteArray)]) (t:=61) ?hr ?_;(case hd=>rfl);(case hg=>rfl);(case hr=>first|(go_simp;done)|(go_simp;rfl));intro gb281 hg w15 hbox hb;have n0_:=Aside0.mk (below_step (tB_ HB) hb);have n1_:=Aside0.mk (hbox);have n2_:=Aside0.mk ((by rw [hg];exact (below_size (tB_ HB)):w.heap.size≤gb281));have n3_:=Aside0.mk ((by rw [hg];exact (below_size (tB_ HB)):w.heap.size≤gb281));clear HB;have HB:=n0_;have BK281:=n1_;have GW281:=n2_;have GE281:=n3_;clear n0_ n1_ n2_ n3_;clear hb hbox hg;have hcz16_0:w15.cell? ⟨gb281,0,none⟩=some (.string (⟨#[]⟩:ByteArray)):=(blk_cell BK281.out 0).trans rfl;have hcz16_1:w15.cell? ⟨gb281,1,none⟩=some (.string (⟨#[]⟩:ByteArray)):=(blk_cell BK281.out 1).trans rfl;have hcz16_2:w15.cell? ⟨gb281,2,none⟩=some (.string (⟨#[]⟩:ByteArray)):=(blk_cell BK281.out 2).trans rfl;have hfz16_0:=blk_frozen BK281.out 0;have hfz16_1:=blk_frozen BK281.out 1;have hfz16_2:=blk_frozen BK281.out 2))
         go_ret
         exact ⟨tE_,by repeat (first|(with_reducible first|exact HB.out|apply below_alloc|apply pw_below_drewN|apply below_drew1|refine below_set ?_ GE281.out)|exact HB.out)⟩
        ·replace c13:=Bool.eq_false_iff.mpr c13
         subst c13
         have H1:(nr_Returns.l0 k1 a0 a1 (wrap64 (x5_1+1)))=some r:=by rw [if_neg (show ¬ (false=true) by decide)] at H;exact H
         clear H
         have H:=H1
         clear H1
         have H':=Aside0.mk H
         clear H
         have p5:0≤(x5_1:Int):=oT_
         have q5:x5_1 < (a1.size:Int):=oT_
         have hx5:=bt_at a1 x5_1
         replace p5:=eq_true p5
         replace q5:=eq_true q5
         go_wp2_with (first|((with_reducible refine gate_callee (f:=73) rfl ?_);refine goesL_ (some 17) rfl rfl Tryz.func73 (by kernel_rfl) rfl #[.int .u8 (bt a1 x5_1)] rfl tM_ ?_;(with_reducible refine (nr_letter.calls k1 (bt a1 x5_1) true _ A6.out).mono ?_);rintro e w' ⟨rfl,⟨nd,rfl⟩⟩;refine ⟨_,rfl,?_⟩;(try (rw [drewN_self wr];generalize hq_:World.drewN wr _=wr;have n0_:Aside0 (Below w.heap.size w wr):=⟨by rw [←hq_];exact (tB_ HB)⟩;clear HB hq_;have HB:=n0_;clear n0_)))|((with_reducible refine gate_callee (f:=72) rfl ?_);refine goesL_ (some 24) rfl rfl Tryz.func72 (by kernel_rfl) rfl #[.string a1,.int .i64 x5_1] rfl tM_ ?_;(with_reducible refine (nr_End.calls k1 a1 x5_1 t276 _ A8.out).mono ?_);rintro e w' ⟨rfl,⟨nd,rfl⟩⟩;refine ⟨_,rfl,?_⟩;(try (rw [drewN_self wr];generalize hq_:World.drewN wr _=wr;have n0_:Aside0 (Below w.heap.size w wr):=⟨by rw [←hq_];exact (tB_ HB)⟩;clear HB hq_;have HB:=n0_;clear n0_)))|((with_reducible refine gate_callee (f:=48) rfl ?_);refine goesL_ (some 26) rfl rfl Tryz.func48 (by kernel_rfl) rfl #[.string a0,.string (a1.extract (x5_1:Int).toNat (t276:Int).toNat)] rfl tM_ ?_;(with_reducible refine (nr_Match.calls a0 (a1.extract (x5_1:Int).toNat (t276:Int).toNat) t277 t278 t279 false _ A12.out).mono ?_);rintro e w17 ⟨rfl,hb⟩;refine ⟨_,rfl,?_⟩;have n0_:=Aside0.mk (below_step (tB_ HB) hb);clear HB;have HB:=n0_;clear n0_;(try clear hb);(try clear hb2);(try clear hk);(try clear hi))|((with_reducible refine gate_dst (N:=6) rfl ?_);refine box_event ?hg (N:=6) ?hd (cs:=#[.string (⟨#[]⟩:ByteArray),.string (⟨#[]⟩:ByteArray),.string (⟨#[]⟩:ByteArray)]) (t:=61) ?hr ?_;(case hd=>rfl);(case hg=>rfl);(case hr=>first|(go_simp;done)|(go_simp;rfl));intro gb281 hg w18 hbox hb;have n0_:=Aside0.mk (below_step (tB_ HB) hb);have n1_:=Aside0.mk (hbox);have n2_:=Aside0.mk ((by rw [hg];exact (below_size (tB_ HB)):w.heap.size≤gb281));have n3_:=Aside0.mk ((by rw [hg];exact (below_size (tB_ HB)):w.heap.size≤gb281));clear HB;have HB:=n0_;have BK281:=n1_;have GW281:=n2_;have GE281:=n3_;clear n0_ n1_ n2_ n3_;clear hb hbox hg;have hcz19_0:w18.cell? ⟨gb281,0,none⟩=some (.string (⟨#[]⟩:ByteArray)):=(blk_cell BK281.out 0).trans rfl;have hcz19_1:w18.cell? ⟨gb281,1,none⟩=some (.string (⟨#[]⟩:ByteArray)):=(blk_cell BK281.out 1).trans rfl;have hcz19_2:w18.cell? ⟨gb281,2,none⟩=some (.string (⟨#[]⟩:ByteArray)):=(blk_cell BK281.out 2).trans rfl;have hfz19_0:=blk_frozen BK281.out 0;have hfz19_1:=blk_frozen BK281.out 1;have hfz19_2:=blk_frozen BK281.out 2))
         go_roundg k1
         case measure=>have:=HK1.out;omega
         case rel=>exact ⟨(wrap64 (x5_1+1)),tS_,H',⟨by have:=HK1.out;omega⟩,⟨by repeat (first|(with_reducible first|exact HB.out|apply below_alloc|apply pw_below_drewN|apply below_drew1|refine below_set ?_ GE281.out)|exact HB.out)⟩⟩
       ·rw [if_neg c11] at H
        exact absurd H (by simp)
      ·rw [if_neg c10] at H
       exact absurd H (by simp)
     ·replace c7:=Bool.eq_false_iff.mpr c7
      subst c7
      have H1:(nr_Returns.l0 k1 a0 a1 (wrap64 (x5_1+1)))=some r:=by rw [if_neg (show ¬ (false=true) by decide)] at H;exact H
      clear H
      have H:=H1
      clear H1
      have H':=Aside0.mk H
      clear H
      have p5:0≤(x5_1:Int):=oT_
      have q5:x5_1 < (a1.size:Int):=oT_
      have hx5:=bt_at a1 x5_1
      replace p5:=eq_true p5
      replace q5:=eq_true q5
      go_wp2_with (first|((with_reducible refine gate_callee (f:=73) rfl ?_);refine goesL_ (some 17) rfl rfl Tryz.func73 (by kernel_rfl) rfl #[.int .u8 (bt a1 x5_1)] rfl tM_ ?_;(with_reducible refine (nr_letter.calls k1 (bt a1 x5_1) false _ A6.out).mono ?_);rintro e w' ⟨rfl,⟨nd,rfl⟩⟩;refine ⟨_,rfl,?_⟩))
      go_roundg k1
      case measure=>have:=HK1.out;omega
      case rel=>exact ⟨(wrap64 (x5_1+1)),tS_,H',⟨by have:=HK1.out;omega⟩,⟨tB_ HB⟩⟩
    ·rw [if_neg c4] at H
     exact absurd H (by simp)
   ·rw [if_neg c3] at H
    have c3b0:decide (x5_1 < (a1.size:Int))=false:=decide_eq_false c3
    clear c3
    obtain rfl:=Option.some.inj H
    go_wp2
    go_ret
    exact ⟨tE_,tB_ HB⟩
end Go.Proofs.YtaafeallcaiooaaGreat.Pr
