/- text: a term as a string. -/
import Derived.Shelf.Strings.Builder1
import Derived.Shelf.Strings.Builder2
import Derived.Shelf.Strings.OnBuilder
import Derived.Shelf.Small.Bits
import Derived.Shelf.Strconv.Itoa0
import Derived.Ground.SlgnProg
import Derived.Shelf.SlicesE.Clone
import Derived.Test.YtaafeallcaiooaaGreatProg
import Derived.Test.YtaafeallcaiooaaGreatHWi
/-
  DERIVED: THE SHELF's CONTRACTS AT THIS DUMP, IN PLAIN WORDS (tools/lay-plain.mjs out of 'TryzShelf.lean', which tools/lay-shelf.mjs wrote): THE SAME DECLARATIONS UNDER THE SAME NAMES: 'import', 'namespace', 'open', 'def', 'theorem' AND NOTHING ELSE: no command of the shelf's: FOR A HAND-IN. Each laying: the table of numbers ('.._ren') and one theorem, a field a fact of the dump's own or the kernel's comparison; each contract: ONE APPLICATION.
-/
namespace Go.Proofs
open Go.Shelf
def Tryz.lays156_ren:Go.Shelf.Ren:=⟨fun|156=>195|165=>196|166=>197|169=>198|240=>199|241=>200|276=>201|277=>202|n=>n,fun|31=>36|9=>9|3=>3|4=>4|0=>0|20=>20|72=>228|76=>232|70=>226|37=>124|75=>231|127=>220|164=>234|5=>5|80=>132|n=>n,fun|n=>n⟩
theorem Tryz.lays156:Go.Proofs.Lays.n156 Tryz.prog Tryz.lays156_ren:={
  mixed:=by kernel_rfl
  f156:=Tryz.func195.trans (congrArg some (by kernel_rfl))
  f165:=Tryz.func196.trans (congrArg some (by kernel_rfl))
  f166:=Tryz.func197.trans (congrArg some (by kernel_rfl))
  f169:=Tryz.func198.trans (congrArg some (by kernel_rfl))
  f240:=Tryz.func199.trans (congrArg some (by kernel_rfl))
  f241:=Tryz.func200.trans (congrArg some (by kernel_rfl))
  f276:=Tryz.func201.trans (congrArg some (by kernel_rfl))
  f277:=Tryz.func202.trans (congrArg some (by kernel_rfl))
  t0:=Tryz.underlying0
  a0:=Tryz.isAgg0
  z0:=Tryz.sizeOf0
  v0:=Tryz.zeroValue0
  t3:=Tryz.underlying3
  a3:=Tryz.isAgg3
  z3:=Tryz.sizeOf3
  v3:=Tryz.zeroValue3
  t4:=Tryz.underlying4
  a4:=Tryz.isAgg4
  z4:=Tryz.sizeOf4
  v4:=Tryz.zeroValue4
  t9:=Tryz.underlying9
  a9:=Tryz.isAgg9
  z9:=Tryz.sizeOf9
  v9:=Tryz.zeroValue9
  t20:=Tryz.underlying20
  a20:=Tryz.isAgg20
  z20:=Tryz.sizeOf20
  v20:=Tryz.zeroValue20
  t31:=Tryz.underlying36
  a31:=Tryz.isAgg36
  z31:=Tryz.sizeOf36
  v31:=Tryz.zeroValue36
  t37:=Tryz.underlying124
  a37:=Tryz.isAgg124
  z37:=Tryz.sizeOf124
  v37:=Tryz.zeroValue124
  t70:=Tryz.underlying226
  a70:=Tryz.isAgg226
  z70:=Tryz.sizeOf226
  v70:=Tryz.zeroValue226
  t72:=Tryz.underlying228
  a72:=Tryz.isAgg228
  z72:=Tryz.sizeOf228
  v72:=Tryz.zeroValue228
  t75:=Tryz.underlying231
  a75:=Tryz.isAgg231
  z75:=Tryz.sizeOf231
  v75:=Tryz.zeroValue231
  t76:=Tryz.underlying232
  a76:=Tryz.isAgg232
  z76:=Tryz.sizeOf232
  v76:=Tryz.zeroValue232
  t127:=Tryz.underlying220
  a127:=Tryz.isAgg220
  z127:=Tryz.sizeOf220
  v127:=Tryz.zeroValue220
  t164:=Tryz.underlying234
  a164:=Tryz.isAgg234
  z164:=Tryz.sizeOf234
  v164:=Tryz.zeroValue234 }
theorem Tryz.Builder_Extra_156:Builder.Extra Tryz.prog Tryz.lays156_ren:={
  sizeBuilder:=by kernel_rfl
  liesBuilder:=by kernel_rfl
  t5:=Tryz.underlying5
  a5:=Tryz.isAgg5
  z5:=Tryz.sizeOf5
  v5:=Tryz.zeroValue5
  infoByte:=by kernel_rfl
  cellsByte:=by kernel_rfl
  sizeByte:=by kernel_rfl
  neB5:=by decide }
open Go.RowKit in
theorem Tryz.strings_Join (bk o c:Nat) (xs:List ByteArray) (sep:ByteArray) (w:World) (hcells:∀ (j:Nat) x,xs[j]?=some x→w.cell? ⟨bk,o+j,none⟩=some (.string x)) (hbk:bk < w.heap.size) (hN:xs.length≤140737488355328) (hcap:xs.length≤c) (hlen:(Lib.join (xs.map (·.data.toList)) sep.data.toList).length≤140737488355328) :
    Calls Tryz.prog 195 #[.slice (some ⟨bk,o,none⟩) xs.length c,.string sep] w fun e w'=>e=.returned (.string ⟨(Lib.join (xs.map (·.data.toList)) sep.data.toList).toArray⟩)∧Below w.heap.size w w':=Any.strings_Join Tryz.lays156 Tryz.Builder_Extra_156 bk o c xs sep w hcells hbk hN hcap hlen
end Go.Proofs
namespace Go.Proofs.YtaafeallcaiooaaGreat.Pr
open Go.RowKit Go.Proofs.Zw Go.Proofs.Zl Go.Proofs.Zm
set_option linter.unusedVariables false
set_option linter.unusedSimpArgs false
theorem encode_one {c:Int} (hc:97≤c∧c≤122):Utf8.encode c=⟨#[UInt8.ofNat c.toNat]⟩:=by
  have h:c=97∨c=98∨c=99∨c=100∨c=101∨c=102∨c=103∨c=104∨c=105∨c=106∨c=107∨c=108∨c=109∨c=110∨c=111∨c=112∨c=113∨c=114∨c=115∨c=116∨c=117∨c=118∨c=119∨c=120∨c=121∨c=122:=by omega
  rcases h with rfl|rfl|rfl|rfl|rfl|rfl|rfl|rfl|rfl|rfl|rfl|rfl|rfl|rfl|rfl|rfl|rfl|rfl|rfl|rfl|rfl|rfl|rfl|rfl|rfl|rfl<;>(clear hc;first|rfl|decide)
def ch (c:Int):UInt8:=UInt8.ofNat c.toNat
mutual
def Tm.tx:Tm→List UInt8
  | .var c=>[ch c]
  | .app s l=>if l.isEmpty then [ch s] else [ch s]++[40]++Lib.join (Tm.txs l) [44]++[41]
def Tm.txs:List Tm→List (List UInt8)
  | []=>[]
  | t :: l=>t.tx :: Tm.txs l
end
theorem txs_map:∀ l,Tm.txs l=l.map Tm.tx
  | []=>by rw [Tm.txs];rfl
  | t :: l=>by rw [Tm.txs,txs_map l];rfl
def Tm.text (t:Tm):ByteArray:=⟨t.tx.toArray⟩
theorem join_le (x:List UInt8):∀ (l:List (List UInt8)),(Lib.join l x).length≤(l.map List.length).sum+x.length * l.length
  | []=>by simp [Lib.join]
  | [a]=>by simp [Lib.join]
  | a :: b :: l=>by
    have:=join_le x (b :: l)
    simp [Lib.join,Nat.mul_add] at this ⊢
    omega
mutual
theorem tx_le:∀ t:Tm,(t.tx.length:Int)+1≤4 * t.size
  | .var c=>by simp [Tm.tx,Tm.size]
  | .app s l=>by
    have h1:=txs_le l
    have h2:=join_le [44] (Tm.txs l)
    have h3:(Tm.txs l).length=l.length:=by rw [txs_map];simp
    rw [Tm.tx,Tm.size]
    have:=Tm.sizes_nn l
    split
    · simp;omega
    · simp at h2 ⊢;omega
theorem txs_le:∀ l:List Tm,(((Tm.txs l).map List.length).sum:Int)+l.length≤4 * Tm.sizes l
  | []=>by simp [Tm.txs,Tm.sizes]
  | t :: l=>by
    have h1:=tx_le t
    have h2:=txs_le l
    rw [Tm.txs,Tm.sizes]
    simp at h2 ⊢
    omega
end
def txF (q:Nat × Value):Nat:=if q.1=131 then 190 else 193
theorem meth_text {w:World} {ok:Nat→Prop} {t:Tm} {tid:Nat} {pv:Value} (h:Has w ok t (tid,pv)) (w':World):(method 337 tid pv "numnah/rules.text").run Tryz.prog w'=.ok (txF (tid,pv),pv) w':=by
  cases t with
  | var c=>rw [Has.var_] at h;cases h;kernel_rfl
  | app s l=>rw [Has.app_] at h;obtain ⟨A,cap,h,_⟩:=h;cases h;kernel_rfl
theorem enters_text {w:World} {ok:Nat→Prop} {t:Tm} {tid:Nat} {pv:Value} (h:Has w ok t (tid,pv)) (args:Array Value) (w':World):(callFunc (txF (tid,pv)) args).run Tryz.prog w'=.ok (.enter (txF (tid,pv)) args) w':=by
  cases t with
  | var c=>rw [Has.var_] at h;cases h;exact enters_ Tryz.func190 (by kernel_rfl) rfl _ _
  | app s l=>rw [Has.app_] at h;obtain ⟨A,cap,h,_⟩:=h;cases h;exact enters_ Tryz.func193 (by kernel_rfl) rfl _ _
theorem var_text (c:Int) (hc:97≤c∧c≤122) (w:World):Calls Tryz.prog 190 #[.int .u8 c] w fun e w'=>e=.returned (.string ⟨#[ch c]⟩)∧w'=w:=by
  have h:=encode_one hc
  go_enter Tryz.func190,Tryz.ntmps190
  go_wp2
  go_ret
  exact ⟨rfl,rfl⟩
def TxOk (t:Tm):Prop:=∀ (q:Nat × Value) (w:World) (ok:Nat→Prop),Has w ok t q→t.good→t.size≤1000000→Calls Tryz.prog (txF q) #[q.2] w fun e w'=>e=.returned (.string t.text)∧Below w.heap.size w w'
set_option maxRecDepth 100000 in
theorem comp_text0 (s:Int) (hs:97≤s∧s≤122) (A:Option Addr) (cap:Nat) (w:World) :
    Calls Tryz.prog 193 #[.agg #[.int .u8 s,.slice A 0 cap]] w fun e w'=>e=.returned (.string ⟨#[ch s]⟩)∧Below w.heap.size w w':=by
  have h:=encode_one hs
  have hb:=below_alloc (Below.refl w.heap.size w) (.cells #[.int .u8 s,.slice A 0 cap] 149)
  go_enter Tryz.func193,Tryz.ntmps193
  go_wp2
  go_ret
  exact ⟨rfl,hb⟩
theorem strs_of_R {w:World} {base:Nat} {okr:Nat→Prop} {v:Value} {xs:List ByteArray} (h:Kd.R Kd.string 9 w base okr v xs) (hz:0 < xs.length) :
    ∃ g cap,v=.slice (some ⟨g,0,none⟩) xs.length cap∧xs.length≤cap∧g < w.heap.size∧base≤g∧∀ j x,xs[j]?=some x→w.cell? ⟨g,0+j,none⟩=some (.string x):=by
  obtain ⟨g,cap,rfl,hb,hlt,cells,hc⟩:=Kd.R_form h hz
  obtain ⟨e1,e2,hC⟩:=Kd.R_reads' h
  refine ⟨g,cap,rfl,by omega,(gl_ hc),Kd.R_base h g rfl,fun j x hx=>?_⟩
  have hj2:j < xs.length:=(List.getElem?_eq_some_iff.1 hx).1
  obtain ⟨ad,c,ea,_,hK,hget⟩:=Kd.C_get hC ⟨#[]⟩ (j:Int) (by omega) (by omega)
  have ea2:ad=⟨g,0,none⟩:=by injection ea with ea;exact ea.symm
  subst ea2
  have hK2:c=[.string (xs.getD ((j:Int)).toNat ⟨#[]⟩)]:=hK
  have hxj:xs.getD ((j:Int)).toNat ⟨#[]⟩=x:=by rw [Int.toNat_natCast,List.getD_eq_getElem?_getD,hx];rfl
  rw [hxj] at hK2
  have:=hget 0 (.string x) (by rw [hK2];rfl)
  simp [Addr.add,Kd.string,Kd.scalar] at this
  rw [Nat.zero_add]
  by_cases hj0:j=0
  · subst hj0
    simpa using this
  · simpa [hj0] using this
theorem app_text (s:Int) (l:List Tm) (hl:0 < l.length):Tm.text (.app s l)=⟨#[ch s]++#[40]++(Lib.join (Tm.txs l) [44]).toArray++#[41]⟩:=by
  unfold Tm.text
  rw [Tm.tx,if_neg (by rw [List.isEmpty_iff];intro h;rw [h] at hl;simp at hl)]
  simp
set_option maxHeartbeats 2000000 in
set_option maxRecDepth 100000 in
theorem comp_text (s:Int) (hs:97≤s∧s≤122) (l:List Tm) (ih:∀ x,x∈l→TxOk x) (A:Option Addr) (cap:Nat) (w:World) (ok:Nat→Prop) (hL:HasL w ok l A 0) (hsz:Tm.sizes l≤1000000) (hln:l.length≤1000) (hne:0 < l.length) (hgo:Tm.goods l) :
    Calls Tryz.prog 193 #[.agg #[.int .u8 s,.slice A l.length cap]] w fun e w'=>e=.returned (.string (Tm.text (.app s l)))∧Below w.heap.size w w':=by
  have hBk:(w.alloc (.cells #[.int .u8 s,.slice A l.length cap] 149)).heap[w.heap.size]?=some (.cells #[.int .u8 s,.slice A l.length cap] 149 (0,0)):=blk_new w _
  have hz:((l.length:Int) == 0)=false:=beq_eq_false_iff_ne.2 (by omega)
  have henc:=encode_one hs
  have h32:wrap32 s=s:=by unfold wrap32;omega
  have HP:=Aside0.mk (And.intro hBk (And.intro ih (And.intro hL (And.intro hsz (And.intro hln (And.intro hgo hne))))))
  clear hBk ih hL hsz hln hgo hne
  go_enter Tryz.func193,Tryz.ntmps193
  go_wp2
  go_loopw [3,17] (fun v3 v17 wr=>∃ (i:Nat) (acc:List ByteArray),v17=.int .i64 (i:Int)∧Aside0 (i≤l.length∧l.length≤1000∧acc.length=i)∧Aside0 (acc=(l.take i).map Tm.text)∧Aside0 (Kd.R Kd.string 9 wr (w.heap.size+1) (fun _=>True) v3 acc)∧Aside0 (Below (w.heap.size+1) (w.alloc (.cells #[.int .u8 s,.slice A l.length cap] 149)) wr)) (fun _ v17 _=>l.length - (intOf v17).toNat)
  case atStart =>
    obtain ⟨hBk,ih,hL,hsz,hln,hgo,hne⟩:=HP.out
    exact ⟨0,[],rfl,⟨Nat.zero_le _,hln,rfl⟩,⟨by simp⟩,⟨Kd.R_nil _ _ _ _ _⟩,⟨Below.refl _ _⟩⟩
  case round =>
    obtain ⟨i,acc,rfl,HI,HA,HO,HB⟩:=hrel
    by_cases hlt:i < l.length
    · have hlb:decide ((i:Int) < (l.length:Int))=true:=decide_eq_true (by omega)
      obtain ⟨hBk,ih,hL,hsz,hln,hgo,hne⟩:=HP.out
      obtain ⟨g,cs,⟨tid,pv⟩,rfl,_,hg,hcs,hq⟩:=hL.get i hlt
      rw [Nat.zero_add] at hcs
      have hgl:=(gl_ hg)
      have hg0:=(HB.out.block g (by omega)).trans (blk_alloc hg _)
      have hq2:Has wr ok l[i] (tid,pv):=Has.step (fun k hk hl=>⟨hk,(HB.out.block k (by omega)).trans ((below_alloc (Below.refl _ _) _).block k hl)⟩) hq
      have hcell:wr.cell? ⟨g,i,none⟩=some (encI (tid,pv)):=(blk_cell hg0 i).trans hcs
      have hst:=sizes_take l i hlt
      have hsp:=Tm.size_pos l[i]
      have hcall:=ih l[i] (List.getElem_mem hlt) (tid,pv) wr ok hq2 (goods_mem hgo (List.getElem_mem hlt)) (by have:=Tm.sizes_nn (l.take i);omega)
      obtain ⟨F,hF⟩:∃ F,F=txF (tid,pv):=⟨_,rfl⟩
      have hm1:∀ w,(method 337 tid pv "numnah/rules.text").run Tryz.prog w=.ok (F,pv) w:=hF ▸ meth_text hq2
      have hm2:∀ args w,(callFunc F args).run Tryz.prog w=.ok (.enter F args) w:=hF ▸ enters_text hq2
      rw [←hF] at hcall
      have e1:(l.take (i+1)).map Tm.text=(l.take i).map Tm.text++[l[i].text]:=by rw [List.take_succ_eq_append_getElem hlt,List.map_append];rfl
      have hbs:w.heap.size+1≤wr.heap.size:=by have:=HB.out.size;simp at this;omega
      have HC:=Aside0.mk hcall
      have HE:=Aside0.mk e1
      have HS:=Aside0.mk hbs
      generalize l[i]=x at *
      obtain ⟨X,hX⟩:∃ X,X=x.text:=⟨_,rfl⟩
      have HX:=Aside0.mk hX
      rw [←hX] at HC
      have w1i:wrap64 ((i:Int)+1)=(i:Int)+1:=wrp i (by omega)
      clear hcall hF hq2 hq hg hg0 hgl hcs hL ih hsz hln hgo hne hBk e1 hst hsp hX hbs
      unfold encI at hcell
      go_wp2_with (first
        | (refine HC.out.mono ?_;rintro e w5 ⟨rfl,hb⟩;have n0_:=Aside0.mk (Kd.R_below HO.out hb);have n1_:=Aside0.mk (below_then HB.out HS.out hb);have n2_:=Aside0.mk (Nat.le_trans HS.out hb.size);clear HO HB HS hb;have HO:=n0_;have HB:=n1_;have HS:=n2_;clear n0_ n1_ n2_)
        | ((with_reducible refine gate_builtin (b:=.append) (xs:=#[.tmp 21,.tmp 24]) rfl ?_);at_builtin;refine Kd.R_append Kd.string (w0:=?w0) (w.heap.size+1) rfl (.tmp 21) (.tmp 24) 36 9 (.string ⟨#[]⟩) 16 rfl Tryz.underlying36 info9 rfl (by decide) (by omega) u3 acc X [.string X] (fun _=>True) (fun _=>False) rfl rfl ?aP (fun _ hk=>hk.elim) ?aF ?aO ?aB ?aS ?aL ?_;(case aP=>exact rfl);(case aB=>exact HB.out);(case aF=>exact (fun _ _=>trivial));(case aO=>exact HO.out);(case aS=>exact HS.out);(case aL=>have:=HI.out;omega);intro v616 w7 ho hb hg hat;have n1_:=Aside0.mk (hb);have n2_:=Aside0.mk (ho);clear HB HO;have HB:=n1_;have HO:=n2_;clear n1_ n2_;clear ho hb hg hat))
      rw [w1i]
      refine ⟨⟨i+1,acc++[X],by simp,⟨by omega,HI.out.2.1,by rw [List.length_append,HI.out.2.2];rfl⟩,⟨by rw [HE.out,HA.out,HX.out]⟩,HO,HB⟩,?_⟩
      simp only [intOf]
      omega
    · have hlb:decide ((i:Int) < (l.length:Int))=false:=decide_eq_false (by omega)
      obtain ⟨hBk,ih,hL,hsz,hln,hgo,hne⟩:=HP.out
      have ei:i=l.length:=by have:=HI.out;omega
      have ea:acc=l.map Tm.text:=by rw [HA.out,List.take_of_length_le (by omega)]
      have hblk:=(HB.out.block w.heap.size (by omega)).trans hBk
      have hlt0:=(gl_ hblk)
      have hal:acc.length=l.length:=by have:=HI.out;omega
      obtain ⟨g3,cap3,hv3,hcap3,hg3,hgb3,hcs3⟩:=strs_of_R HO.out (by omega)
      subst hv3
      have hj1:acc.map (·.data.toList)=Tm.txs l:=by rw [ea,txs_map,List.map_map];rfl
      have hj2:(Lib.join (acc.map (·.data.toList)) (⟨#[44]⟩:ByteArray).data.toList).length≤140737488355328:=by
        rw [hj1]
        have h1:=join_le [44] (Tm.txs l)
        have h2:=txs_le l
        have h3:(Tm.txs l).length=l.length:=by rw [txs_map];simp
        simp at h1 h2 ⊢
        omega
      have hlenJ:=Aside0.mk hj2
      have hfin:Tm.text (.app s l)=⟨#[ch s]++#[40]++(Lib.join (acc.map (·.data.toList)) (⟨#[44]⟩:ByteArray).data.toList).toArray++#[41]⟩:=by rw [hj1];exact app_text s l hne
      have HFIN:=Aside0.mk hfin
      clear hfin
      have HB9:Aside0 (Below w.heap.size w wr):=⟨(below_alloc (Below.refl _ _) _).trans (HB.out.mono (Nat.le_succ _))⟩
      clear HP hBk ih hL hsz hgo hj2 hj1 hal ea ei
      go_wp2
      refine start_ (n:=10) (S:=fun w'=>w'.cell? ⟨w.heap.size,0,none⟩=some (.int .u8 s)) (ds:=[]) (bm 10 0) (by kernel_rfl) rfl rfl ((blk_cell (blk_drew hblk) 0)) (fun hHeld=>?_)
      refine pk_ 0 27 (bm 10 1) ?_
      refine pk_ 5 32 (bm 10 33) ?_
      refine take_ (i:=1) (N:=some 28) (v:=?_) (a':=?_) (bm 10 35) rfl rfl (by kernel_rfl) (fun _ _ _ h=>h) (Or.inl ⟨by rfl,?_⟩) hHeld ?_ ?_;rotate_left
      · intro w' s0
        go_simp
        with_reducible rfl
      rotate_left;exact tP_
      refine pk_ 2 29 (bm 10 39) ?_
      refine pk_ 3 30 (bm 10 47) ?_
      refine pk_ 4 31 (bm 10 63) ?_
      refine one_ (i:=6) (N:=some 33) (bm 10 127) rfl rfl (by kernel_rfl) (by decide) (fun K hK=>?_)
      refine goesD_ Tryz.func195 (by kernel_rfl) rfl #[.slice (some ⟨g3,0,none⟩) acc.length cap3,.string ⟨#[44]⟩] (by rfl) rfl rfl (by simp only [List.map_toArray,List.map_cons,List.map_nil];rfl) ?_
      refine (Tryz.strings_Join g3 0 cap3 acc ⟨#[44]⟩ wr.drew (fun j x hx=>(hcs3 j x hx)) hg3 (by have:=HI.out;omega) hcap3 hlenJ.out).mono ?_
      rintro e w5 ⟨rfl,hb5⟩
      obtain ⟨J,hJ⟩:∃ J:ByteArray,J=⟨(Lib.join (acc.map (·.data.toList)) (⟨#[44]⟩:ByteArray).data.toList).toArray⟩:=⟨_,rfl⟩
      rw [←hJ]
      have hJs:J.size≤140737488355328:=by rw [hJ];exact hlenJ.out
      have hl1:¬ 9223372036854775807 < 2+J.size:=by omega
      have hl2:¬ 9223372036854775807 < 2+J.size+1:=by omega
      have HJ:=Aside0.mk hJ
      clear hJ
      refine .inl ⟨_,rfl,?_⟩
      have hb5w:Below wr.heap.size wr w5:=⟨hb5.os,hb5.tape,hb5.output,hb5.size,hb5.block⟩
      have hblk5:=(hb5w.block _ hlt0).trans hblk
      have hc1:=blk_cell hblk5 0
      refine hK.out _ _ (hc1) (fun hHeld=>?_)
      clear hK K
      refine norm_ (a':=?_) ?_ ?_;rotate_left;(show Act.put _ (some 33) _=_;exact tP_)
      refine pk_ 7 34 (bm 10 255) ?_
      refine pk_ 8 35 (bm 10 511) ?_
      refine pk_ 9 2 (bm 10 1023) ?_
      refine done_ (by kernel_rfl) ?_
      go_wp2
      have hout:Tm.text (.app s l)=⟨#[UInt8.ofNat s.toNat]⟩++⟨#[40]⟩++J++⟨#[41]⟩:=by
        rw [HFIN.out,HJ.out]
        apply ByteArray.ext
        simp [ch]
      rw [hout]
      go_ret
      exact ⟨rfl,below_step HB9.out hb5w⟩
theorem text_calls:∀ t,TxOk t:=by
  refine Tm.ind (fun c q w ok h hg hs=>?_) (fun s l ih q w ok h hg hs=>?_)
  · rw [Has.var_] at h
    subst h
    rw [Tm.good] at hg
    refine (var_text c (by omega) w).mono (fun e w' hh=>?_)
    rw [hh.1,hh.2]
    exact ⟨by rw [Tm.text,Tm.tx],Below.refl _ _⟩
  · rw [Has.app_] at h
    obtain ⟨A,cap,rfl,hc,hL⟩:=h
    have hl2:=good_len hg
    rw [Tm.good] at hg
    rw [Tm.size] at hs
    by_cases hl:0 < l.length
    · exact comp_text s (by omega) l ih A cap w ok hL (by omega) (by omega) hl hg.2.2
    · have e0:l=[]:=List.length_eq_zero_iff.1 (by omega)
      subst e0
      refine (comp_text0 s (by omega) A cap w).mono (fun e w' hh=>?_)
      rw [hh.1]
      exact ⟨by rw [Tm.text,Tm.tx];rfl,hh.2⟩
end Go.Proofs.YtaafeallcaiooaaGreat.Pr
