/- Orient. -/
import Derived.Test.YtaafeallcaiooaaGreatHOr
import Derived.Test.YtaafeallcaiooaaGreatHNe
namespace Go.Proofs.YtaafeallcaiooaaGreat.Pr
open Go.RowKit Go.Proofs.Zw Go.Proofs.Zl Go.Proofs.Zm
set_option linter.unusedVariables false
set_option linter.unusedSimpArgs false
theorem below_bytes (w:World) (e:TypeId) (s:ByteArray):Below w.heap.size w (Lib.bytesWorld w e s) :=
  ⟨rfl,by rfl,rfl,by rw [Lib.bytesWorld_size];omega,fun k hk=>Lib.bytesWorld_at_old w e s k hk⟩
theorem c6_at (i:Nat) (h:i < c6.length):c6[i]=UInt8.ofNat (97+i):=by
  have:i=0∨i=1∨i=2∨i=3∨i=4∨i=5:=by simp [c6] at h;omega
  rcases this with rfl|rfl|rfl|rfl|rfl|rfl<;>rfl
theorem s6_0 (w:World):(Instr.sliceAt 9 (.string ⟨#[97,98,99,100,101,102]⟩) (some (.int .i64 0)) (some (.int .i64 1)) none).run Tryz.prog w=.ok (.string ⟨#[97]⟩) w:=by kernel_rfl
theorem s6_1 (w:World):(Instr.sliceAt 9 (.string ⟨#[97,98,99,100,101,102]⟩) (some (.int .i64 1)) (some (.int .i64 2)) none).run Tryz.prog w=.ok (.string ⟨#[98]⟩) w:=by kernel_rfl
theorem s6_2 (w:World):(Instr.sliceAt 9 (.string ⟨#[97,98,99,100,101,102]⟩) (some (.int .i64 2)) (some (.int .i64 3)) none).run Tryz.prog w=.ok (.string ⟨#[99]⟩) w:=by kernel_rfl
theorem s6_3 (w:World):(Instr.sliceAt 9 (.string ⟨#[97,98,99,100,101,102]⟩) (some (.int .i64 3)) (some (.int .i64 4)) none).run Tryz.prog w=.ok (.string ⟨#[100]⟩) w:=by kernel_rfl
theorem s6_4 (w:World):(Instr.sliceAt 9 (.string ⟨#[97,98,99,100,101,102]⟩) (some (.int .i64 4)) (some (.int .i64 5)) none).run Tryz.prog w=.ok (.string ⟨#[101]⟩) w:=by kernel_rfl
theorem s6_5 (w:World):(Instr.sliceAt 9 (.string ⟨#[97,98,99,100,101,102]⟩) (some (.int .i64 5)) (some (.int .i64 6)) none).run Tryz.prog w=.ok (.string ⟨#[102]⟩) w:=by kernel_rfl
theorem slice6 (i:Nat) (h:i < 6) (w:World):(Instr.sliceAt 9 (.string ⟨#[97,98,99,100,101,102]⟩) (some (.int .i64 (i:Int))) (some (.int .i64 ((i:Int)+1))) none).run Tryz.prog w=.ok (.string ⟨#[UInt8.ofNat (97+i)]⟩) w:=by
  have:i=0∨i=1∨i=2∨i=3∨i=4∨i=5:=by omega
  rcases this with rfl|rfl|rfl|rfl|rfl|rfl
  · exact s6_0 w
  · exact s6_1 w
  · exact s6_2 w
  · exact s6_3 w
  · exact s6_4 w
  · exact s6_5 w
theorem B8_snoc (L:List UInt8) (c:UInt8):B8 L++(⟨#[c]⟩:ByteArray)=B8 (L++[c]):=by
  apply ByteArray.ext
  simp [B8]
set_option maxRecDepth 100000 in
set_option maxHeartbeats 4000000 in
theorem ext_step (ls:List (Tm × Tm)) (n:Nat) (ih:ExtOk ls n):ExtOk ls (n+1):=by
  intro L w bo bl be AL cL h6 hnd hc6 hS
  obtain ⟨F,hF⟩:∃ F:UInt8→Option (List UInt8),F=fun c=>if L.any (fun x=>x == c) then none else extO ls n (L++[c]):=⟨_,rfl⟩
  have hex:extO ls (n+1) L=c6.findSome? F:=by rw [hF];rfl
  obtain ⟨R,hR⟩:∃ R,R=extO ls (n+1) L:=⟨_,rfl⟩
  rw [←hR] at hex ⊢
  have hsz:(B8 L).size=L.length:=B8_size L
  have hl6:¬ L.length=6:=by omega
  have hl62:((L.length:Int) == 6)=false:=beq_eq_false_iff_ne.2 (by omega)
  have HP:=Aside0.mk (And.intro hS (And.intro h6 (And.intro hnd (And.intro hc6 (And.intro hex (And.intro hF ih))))))
  have hle:L.length≤6:=by omega
  obtain ⟨p,hp⟩:∃ p,p=B8 L:=⟨_,rfl⟩
  rw [←hp] at hsz ⊢
  have HPP:=Aside0.mk hp
  clear hS h6 hnd hc6 hex hF ih hR hp hl6
  go_enter Tryz.func86,Tryz.ntmps86
  go_wp2
  go_loopw [16] (fun v16 wr=>∃ i:Nat,v16=.int .i64 (i:Int)∧Aside0 (i≤6)∧Aside0 ((c6.take i).findSome? F=none)∧Aside0 (But bo w wr∧∃ o,wr.heap[bo]?=some (.cells #[.string o] 9 (0,0)))) (fun v16 _=>6 - (intOf v16).toNat)
  case atStart=>exact ⟨0,rfl,⟨Nat.zero_le _⟩,⟨rfl⟩,⟨But.refl _ _,HP.out.1.1⟩⟩
  case round =>
    obtain ⟨i,rfl,HI,HA,HB⟩:=hrel
    obtain ⟨hS,h6,hnd,hc6,hex,hF,ih⟩:=HP.out
    have hp:=HPP.out
    by_cases hlt:i < 6
    · have hlb:decide ((i:Int) < 6)=true:=decide_eq_true (by omega)
      have hi6:i < c6.length:=by simpa [c6] using hlt
      obtain ⟨c,hc⟩:∃ c,c=UInt8.ofNat (97+i):=⟨_,rfl⟩
      have hcc:c6[i]=c:=by rw [hc];exact c6_at i hi6
      have hcm:c∈c6:=by rw [←hcc];exact List.getElem_mem hi6
      have hsl:=slice6 i hlt
      rw [←hc] at hsl
      have hsn:(c6.take (i+1)).findSome? F=F c:=by
        rw [List.take_succ_eq_append_getElem hi6,List.findSome?_append,HA.out,hcc]
        simp
      have htr:∀ q,F c=some q→R=some q:=fun q hq=>by
        rw [hex,←List.take_append_drop (i+1) c6,List.findSome?_append,hsn,hq]
        rfl
      have hSr:=hS.but HB.out.1 HB.out.2
      obtain ⟨wb,hwb⟩:∃ wb,wb=Lib.bytesWorld wr 5 p:=⟨_,rfl⟩
      obtain ⟨cp,hcp⟩:∃ cp,cp=grownCap wr p.size 0 5:=⟨_,rfl⟩
      have hbw:Below wr.heap.size wr wb:=by rw [hwb];exact below_bytes wr 5 p
      have hcv:(convert 9 124 (.string p)).run Tryz.prog wr=.ok (.slice (some ⟨wr.heap.size,0,none⟩) L.length cp) wb:=by
        have:=Lib.run_convert_string_bytes (P:=Tryz.prog) wr 9 124 5 p Tryz.underlying9 Tryz.underlying124 Tryz.underlying5
        rw [←hwb,←hcp,hsz] at this
        exact this
      have hcb:=containsB_calls L c (some ⟨wr.heap.size,0,none⟩) cp wb (fun j hj=>⟨_,rfl,by
        have h1:=Lib.bytesWorld_cell wr 5 p j (by rw [hsz];exact hj)
        rw [←hwb] at h1
        have h2:p.data.toList.getD j 0=L[j]:=by
          rw [hp,B8_list,List.getD_eq_getElem?_getD,List.getElem?_eq_getElem hj]
          rfl
        rw [h2] at h1
        have h3:(⟨wr.heap.size,0,none⟩:Addr).add j=⟨wr.heap.size,j,none⟩:=by unfold Addr.add;simp;omega
        rw [h3]
        exact h1⟩) (by omega)
      have hSb:ESt wb ls bo bl be AL cL:=hSr.but (But.of_below hbw) ⟨_,(hbw.block _ (gl_ HB.out.2.choose_spec)).trans HB.out.2.choose_spec⟩
      have hx0:wb.cell? ⟨be,0,none⟩=some (.func (.func 86) #[] #[.pointer (some ⟨bo,0,none⟩),.pointer (some ⟨bl,0,none⟩),.pointer (some ⟨be,0,none⟩)]):=blk_cell hSb.2.2.1 0
      have w1i:wrap64 ((i:Int)+1)=(i:Int)+1:=wrp i (by omega)
      have hcat:p++(⟨#[c]⟩:ByteArray)=B8 (L++[c]):=by rw [hp];exact B8_snoc L c
      have hFc:F c=if L.any (fun x=>x == c) then none else extO ls n (L++[c]):=by rw [hF]
      have hbo:But bo w wb:=HB.out.1.trans (But.of_below hbw)
      cases hct:L.any (fun x=>x == c) with
      | true =>
        rw [hct] at hcb hFc
        have HC:=Aside0.mk hcb
        have HN:Aside0 (((c6.take (i+1)).findSome? F=none)∧But bo w wb∧∃ o,wb.heap[bo]?=some (.cells #[.string o] 9 (0,0))):=⟨hsn.trans hFc,hbo,hSb.1⟩
        clear hS h6 hnd hc6 hex hF ih hp hcc hcm hsn htr hSr hbw hcb hSb hFc hbo hct hwb hcp hc hi6 HA HB
        go_wp2_with (go_at_call 89;refine HC.out.mono ?_;rintro e w2 ⟨rfl,h2⟩;subst w2)
        try rw [w1i]
        refine ⟨⟨i+1,by first|rfl|simp,⟨hlt⟩,⟨HN.out.1⟩,⟨HN.out.2⟩⟩,?_⟩
        simp only [intOf]
        clear w1i
        omega
      | false =>
        have hnm:c∉L:=fun hm=>by
          have:L.any (fun x=>x == c)=true:=List.any_eq_true.2 ⟨c,hm,by simp⟩
          rw [hct] at this
          cases this
        have hcall:=ih (L++[c]) wb bo bl be AL cL (by rw [List.length_append];simp;omega) (by rw [List.nodup_append];exact ⟨hnd,by simp,fun a ha b hb e=>hnm (by rw [List.mem_singleton] at hb;rw [←hb,←e];exact ha)⟩) (fun x hx=>by
          rcases List.mem_append.1 hx with hx|hx
          · exact hc6 x hx
          · rw [List.mem_singleton] at hx;rw [hx];exact hcm) hSb
        rw [hct] at hcb hFc
        have hFc2:F c=extO ls n (L++[c]):=hFc
        rw [←hcat] at hcall
        obtain ⟨R2,hR2⟩:∃ R2,R2=extO ls n (L++[c]):=⟨_,rfl⟩
        rw [←hR2] at hcall hFc2
        have HC:=Aside0.mk hcb
        have HX:=Aside0.mk hcall
        have HN:Aside0 (((c6.take (i+1)).findSome? F=R2)∧(∀ q,R2=some q→R=some q)∧But bo w wb):=⟨hsn.trans hFc2,fun q hq=>htr q (hFc2.trans hq),hbo⟩
        clear hS h6 hnd hc6 hex hF ih hp hcc hcm hsn htr hSr hbw hcb hSb hFc hbo hct hwb hcp hc hi6 hcall hFc2 hR2 hnm HA HB hcat
        cases R2 with
        | some q =>
          go_wp2_with (first|(go_at_call 89;refine HC.out.mono ?_;rintro e w2 ⟨rfl,h2⟩;subst w2)|(go_at_call 86;refine HX.out.mono ?_;rintro e w3 ⟨rfl,hb3,o3,ho3,hq3⟩;have H3:=Aside0.mk (And.intro hb3 (And.intro ho3 hq3));clear hb3 ho3 hq3))
          go_ret
          have hRq:=HN.out.2.1 q rfl
          refine ⟨by rw [hRq];rfl,HN.out.2.2.trans H3.out.1,o3,H3.out.2.1,fun q' hq'=>?_⟩
          rw [hRq] at hq'
          exact H3.out.2.2 q' hq'
        | none =>
          go_wp2_with (first|(go_at_call 89;refine HC.out.mono ?_;rintro e w2 ⟨rfl,h2⟩;subst w2)|(go_at_call 86;refine HX.out.mono ?_;rintro e w3 ⟨rfl,hb3,o3,ho3,hq3⟩;have H3:=Aside0.mk (And.intro hb3 (And.intro ho3 hq3));clear hb3 ho3 hq3))
          try rw [w1i]
          refine ⟨⟨i+1,by first|rfl|simp,⟨hlt⟩,⟨HN.out.1⟩,⟨HN.out.2.2.trans H3.out.1,o3,H3.out.2.1⟩⟩,?_⟩
          simp only [intOf]
          clear w1i
          omega
    · have hlb:decide ((i:Int) < 6)=false:=decide_eq_false (by omega)
      have hi:i=6:=by have:=HI.out;omega
      subst hi
      have hno:R=none:=by
        rw [hex]
        exact HA.out
      have HN:=Aside0.mk (And.intro hno HB.out)
      clear hS h6 hnd hc6 hex hF ih hp hno HA HB
      go_wp2
      go_ret
      obtain ⟨hno,hb,o,ho⟩:=HN.out
      rw [hno]
      exact ⟨rfl,hb,o,ho,fun q hq=>by cases hq⟩
theorem ext_calls (ls:List (Tm × Tm)) (hls:LawsGood ls) (hln:ls.length≤1000):∀ n,ExtOk ls n
  | 0=>ext_base ls hls hln
  | n+1=>ext_step ls n (ext_calls ls hls hln n)
def orientT (rs:List S94):Int × ByteArray :=
  match newLawsT rs with
  | none=>(2,⟨#[]⟩)
  | some ls=>match extO ls 6 [] with
    | none=>(6,⟨#[]⟩)
    | some q=>(0,B8 q)
theorem enters85:∀ args w,(callFunc 85 args).run Tryz.prog w=.ok (.enter 85 args) w:=fun args w=>enters_ Tryz.func85 (by kernel_rfl) rfl args w
def StrAt (w':World) (bo:Nat) (r:Int × ByteArray):Prop:=∃ o,w'.heap[bo]?=some (.cells #[.string o] 9 (0,0))∧(r.1=0→o=r.2)
set_option maxRecDepth 100000 in
set_option maxHeartbeats 1000000 in
theorem orient1_calls (rs:List S94) (A0:Option Addr) (c0 b0 bo:Nat) (o:ByteArray) (w:World) (hC0:Kd.C k94 w A0 rs.length rs) (hb0:w.heap[b0]?=some (.cells #[.slice A0 rs.length c0] 35 (0,0))) (hbo:w.heap[bo]?=some (.cells #[.string o] 9 (0,0))) :
    Calls Tryz.prog 85 #[.pointer (some ⟨b0,0,none⟩),.pointer (some ⟨bo,0,none⟩)] w fun e w'=>e=endE (orientT rs).1∧But bo w w'∧StrAt w' bo (orientT rs):=by
  have hx0:=blk_cell hb0 0
  have hnl:=newLaws_calls rs A0 c0 w hC0
  cases hL:newLawsT rs with
  | none =>
    have e:orientT rs=(2,⟨#[]⟩):=by unfold orientT;rw [hL]
    rw [e]
    rw [hL] at hnl
    have HC:=Aside0.mk hnl
    have HB:=Aside0.mk hbo
    clear hnl hC0 hb0 hbo hL e
    go_enter Tryz.func85,Tryz.ntmps85
    go_wp2_with (go_at_call 77;refine HC.out.mono ?_;rintro e w1 ⟨hb,rfl⟩;have H1:=Aside0.mk hb;clear hb)
    exact ⟨rfl,rfl,But.of_below H1.out,o,blk_below HB.out H1.out,fun h=>by cases h⟩
  | some ls =>
    have hlg:=newLawsT_good hL
    rw [hL] at hnl
    have hext:=ext_calls ls hlg.1 (by omega) 6 [] 
    have hor:orientT rs=((match extO ls 6 [] with|none=>(6,⟨#[]⟩)|some q=>(0,B8 q):Int × ByteArray)):=by unfold orientT;rw [hL]
    obtain ⟨R,hR⟩:∃ R,R=extO ls 6 []:=⟨_,rfl⟩
    rw [←hR] at hext hor
    rw [hor]
    clear hor
    have HC:=Aside0.mk hnl
    have HB:=Aside0.mk (And.intro hbo (gl_ hbo))
    have HX:=Aside0.mk hext
    have e0:B8 []=⟨#[]⟩:=rfl
    clear hnl hC0 hb0 hbo hL hR hext hlg
    cases R with
    | some q =>
      go_enter Tryz.func85,Tryz.ntmps85
      go_wp2_with (first
        | (go_at_call 77;refine HC.out.mono ?_;rintro e w1 ⟨hb,A2,c2,rfl,hW⟩;have H1:=Aside0.mk (And.intro hb hW);clear hb hW)
        | (go_at_call 86;refine (HX.out _ bo _ _ A2 c2 rfl List.nodup_nil (fun x hx=>by cases hx) ⟨⟨o,blk_alloc (blk_alloc (blk_below HB.out.1 H1.out.1) _) _⟩,blk_alloc (blk_new w1 _) _,blk_new1' w1 _ _,(H1.out.2.step (ok':=fun k=>k≠bo) (fun k hk hl=>⟨by have:=HB.out.2;omega,rfl⟩)).below (below_alloc (below_alloc (Below.refl _ _) _) _)⟩).mono ?_;rintro e w4 ⟨rfl,hb4,o4,ho4,hq4⟩;have H4:=Aside0.mk (And.intro ((But.of_below (H1.out.1.trans ((below_alloc (below_alloc (Below.refl w1.heap.size w1) _) _).mono H1.out.1.size))).trans hb4) (And.intro ho4 hq4));clear hb4 ho4 hq4)
        | (go_at_call 67;refine (demand_ok 6 _).mono ?_;rintro e w8 ⟨rfl,h8⟩;subst w8))
      simp [bodyPost,results,Tryz.results85]
      exact ⟨rfl,H4.out.1,o4,H4.out.2.1,fun _=>H4.out.2.2 q rfl⟩
    | none =>
      go_enter Tryz.func85,Tryz.ntmps85
      go_wp2_with (first
        | (go_at_call 77;refine HC.out.mono ?_;rintro e w1 ⟨hb,A2,c2,rfl,hW⟩;have H1:=Aside0.mk (And.intro hb hW);clear hb hW)
        | (go_at_call 86;refine (HX.out _ bo _ _ A2 c2 rfl List.nodup_nil (fun x hx=>by cases hx) ⟨⟨o,blk_alloc (blk_alloc (blk_below HB.out.1 H1.out.1) _) _⟩,blk_alloc (blk_new w1 _) _,blk_new1' w1 _ _,(H1.out.2.step (ok':=fun k=>k≠bo) (fun k hk hl=>⟨by have:=HB.out.2;omega,rfl⟩)).below (below_alloc (below_alloc (Below.refl _ _) _) _)⟩).mono ?_;rintro e w4 ⟨rfl,hb4,o4,ho4,hq4⟩;have H4:=Aside0.mk (And.intro ((But.of_below (H1.out.1.trans ((below_alloc (below_alloc (Below.refl w1.heap.size w1) _) _).mono H1.out.1.size))).trans hb4) (And.intro ho4 hq4));clear hb4 ho4 hq4)
        | (go_at_call 67;refine (demand_no 6 _).mono ?_;rintro e w8 ⟨rfl,h8⟩;subst w8))
      exact ⟨rfl,rfl,H4.out.1,o4,H4.out.2.1,fun h=>by cases h⟩
set_option maxRecDepth 100000 in
theorem orient_calls (rs:List S94) (A0:Option Addr) (c0:Nat) (w:World) (hC0:Kd.C k94 w A0 rs.length rs) :
    Calls Tryz.prog 36 #[.slice A0 rs.length c0] w fun e w'=>e=.returned (.tuple #[.string (orientT rs).2,.int .i64 (orientT rs).1])∧Below w.heap.size w w':=by
  obtain ⟨r,l,hv⟩:∃ r l,orientT rs=(r,l):=⟨_,_,rfl⟩
  have hzl:r≠0→l=⟨#[]⟩:=by
    intro hr
    unfold orientT at hv
    split at hv
    · injection hv with h1 h2
      exact h2.symm
    · split at hv
      · injection hv with h1 h2
        exact h2.symm
      · injection hv with h1 h2
        exact absurd h1.symm hr
  have h1:=fun b0 bo o w' hC=>orient1_calls rs A0 c0 b0 bo o w' hC
  rw [hv] at h1 ⊢
  dsimp only at h1 ⊢
  obtain ⟨w3,hw3⟩:∃ w3,w3=(w.alloc (.cells #[.slice A0 rs.length c0] 35)).alloc (.cells #[.string ⟨#[]⟩] 9):=⟨_,rfl⟩
  have hB3:Below w.heap.size w w3:=by rw [hw3];exact below_alloc (below_alloc (Below.refl _ _) _) _
  have hsz:w3.heap.size=w.heap.size+2:=by rw [hw3];simp
  have hk0:w3.heap[w.heap.size]?=some (.cells #[.slice A0 rs.length c0] 35 (0,0)):=by rw [hw3];exact blk_alloc (blk_new w _) _
  have hk1:w3.heap[w.heap.size+1]?=some (.cells #[.string ⟨#[]⟩] 9 (0,0)):=by rw [hw3];exact blk_new1' w _ _
  have hg:=guard_keeps 85 enters85 #[.pointer (some ⟨w.heap.size,0,none⟩),.pointer (some ⟨w.heap.size+1,0,none⟩)] w3 (fun c w1=>c=r∧But (w.heap.size+1) w3 w1∧StrAt w1 (w.heap.size+1) (r,l)) ((h1 w.heap.size (w.heap.size+1) ⟨#[]⟩ (w3.alloc (.cells #[.int .i64 0] 26)) (Kd.C_below hC0 (below_alloc hB3 _)) (blk_alloc hk0 _) (blk_alloc hk1 _)).mono (fun e w1 hh=>by
    obtain ⟨rfl,hb,hv1⟩:=hh
    have hbt:But (w.heap.size+1) w3 w1:=(But.of_below (below_alloc (Below.refl _ _) _)).trans hb
    refine ⟨(hb.block _ (by simp) (by omega)).trans (blk_new w3 _),?_⟩
    by_cases hr:r=0
    · subst hr
      exact .inl ⟨rfl,rfl,hbt,hv1⟩
    · exact .inr ⟨r,endE_no hr,rfl,hbt,hv1⟩))
  have HG:=Aside0.mk hg
  have HB:=Aside0.mk hB3
  have HZ:=Aside0.mk hsz
  have HL:=Aside0.mk hzl
  clear hg hB3 hsz hk0 hk1 hC0 h1 hv hzl
  subst hw3
  by_cases hr0:r=0
  · subst hr0
    go_enter Tryz.func36,Tryz.ntmps36
    go_wp2_with (go_at_call 65;refine HG.out.mono ?_;rintro e w1 ⟨c,w2,rfl,⟨rfl,hb,o,hv1,hv3⟩,hb2⟩;have hv2:=(hb2.block _ (gl_ hv1) (by have:=HZ.out;omega)).trans hv1;have hz0:=blk_frozen hv2 0;have hd0:w1.cell? ⟨w.heap.size+1,0,none⟩=some (.string o):=blk_cell hv2 0;have HH:=Aside0.mk (And.intro hb (And.intro hb2 (And.intro hv2 hv3)));clear hb hb2 hv2 hv3)
    have hz:=HZ.out
    have b1:=HB.out
    obtain ⟨b2,b3,hv2,hv3⟩:=HH.out
    have b4:Below w.heap.size w w1:=(b1.trans (b2.below (Nat.le_add_right _ _) (by omega))).trans (b3.below (by omega) (by have:=b2.size;omega))
    have hv9:(w1.setCell ⟨w.heap.size+1,0,none⟩ (.string o)).heap[w.heap.size+1]?=some (.cells #[.string o] 9 (0,0)):=blk_setCell hv2 _
    have hcc:(w1.setCell ⟨w.heap.size+1,0,none⟩ (.string o)).cell? ⟨w.heap.size+1,0,none⟩=some (.string o):=blk_cell hv9 0
    have b5:Below w.heap.size w (w1.setCell ⟨w.heap.size+1,0,none⟩ (.string o)):=below_set b4 (by omega)
    have hol:o=l:=by first|exact hv3 rfl|exact hv3 trivial|exact hv3
    generalize w1.setCell ⟨w.heap.size+1,0,none⟩ (.string o)=w9 at *
    simp [bodyPost,results,Tryz.results36,go_sem,hcc]
    exact ⟨hol,b5⟩
  · have hrb:(r != 0)=true:=by simp [hr0]
    go_enter Tryz.func36,Tryz.ntmps36
    go_wp2_with (go_at_call 65;refine HG.out.mono ?_;rintro e w1 ⟨c,w2,rfl,⟨rfl,hb,o,hv1,hv3⟩,hb2⟩;have hv2:=(hb2.block _ (gl_ hv1) (by have:=HZ.out;omega)).trans hv1;have hz0:=blk_frozen hv2 0;have hd0:w1.cell? ⟨w.heap.size+1,0,none⟩=some (.string o):=blk_cell hv2 0;have HH:=Aside0.mk (And.intro hb (And.intro hb2 (And.intro hv2 hv3)));clear hb hb2 hv2 hv3)
    have hz:=HZ.out
    have b1:=HB.out
    obtain ⟨b2,b3,hv2,hv3⟩:=HH.out
    have b4:Below w.heap.size w w1:=(b1.trans (b2.below (Nat.le_add_right _ _) (by omega))).trans (b3.below (by omega) (by have:=b2.size;omega))
    have hv9:(w1.setCell ⟨w.heap.size+1,0,none⟩ (.string ⟨#[]⟩)).heap[w.heap.size+1]?=some (.cells #[.string ⟨#[]⟩] 9 (0,0)):=blk_setCell hv2 _
    have hcc:(w1.setCell ⟨w.heap.size+1,0,none⟩ (.string ⟨#[]⟩)).cell? ⟨w.heap.size+1,0,none⟩=some (.string ⟨#[]⟩):=blk_cell hv9 0
    have b5:Below w.heap.size w (w1.setCell ⟨w.heap.size+1,0,none⟩ (.string ⟨#[]⟩)):=below_set b4 (by omega)
    have hol:⟨#[]⟩=l:=(HL.out hr0).symm
    generalize w1.setCell ⟨w.heap.size+1,0,none⟩ (.string ⟨#[]⟩)=w9 at *
    simp [bodyPost,results,Tryz.results36,go_sem,hcc]
    exact ⟨hol,b5⟩
end Go.Proofs.YtaafeallcaiooaaGreat.Pr
