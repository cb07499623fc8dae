/- Next. -/
import Derived.Test.YtaafeallcaiooaaGreatHLp
import Derived.Maps.OwnSet
import Derived.Shelf.Sort.Plain
import Derived.Shelf.SlIter.Nil
import Derived.Maps.OwnOps
import Derived.Maps.Own
import Derived.Test.YtaafeallcaiooaaGreatIter
import Derived.Test.YtaafeallcaiooaaGreatHOf
namespace Go.Proofs.YtaafeallcaiooaaGreat.Pr
open Go.RowKit Go.WideMaps Go.Sort Go.Maps Go.Proofs.Zw Go.Proofs.Zl Go.Proofs.Zm
set_option linter.unusedVariables false
set_option linter.unusedSimpArgs false
def leS (x y:ByteArray):Prop:=x.data.toList≤y.data.toList
theorem less_iff (x y:ByteArray):Op.bytesLess x.toList y.toList=true↔x.data.toList < y.data.toList:=by
  rw [bytesLess_eq,ByteArray.toList_eq,ByteArray.toList_eq,decide_eq_true_iff]
theorem not_less_iff (x y:ByteArray):¬ Op.bytesLess x.toList y.toList=true↔leS y x:=by
  rw [less_iff];exact List.not_lt
theorem leS_antisymm {x y:ByteArray} (h:leS x y) (k:leS y x):x=y:=by
  have:=List.le_antisymm h k
  cases x;cases y
  simp at this
  rw [this]
def bytesS (x:ByteArray):List UInt8:=x.data.toList
def ofBytes (l:List UInt8):ByteArray:=⟨l.toArray⟩
theorem ofBytes_bytes (x:ByteArray):ofBytes (bytesS x)=x:=by cases x;rfl
def insD (x:ByteArray):List ByteArray→List ByteArray
  | []=>[x]
  | y :: l=>if Op.bytesLess y.toList x.toList=true then y :: insD x l else if y=x then y :: l else x :: y :: l
def ltS (x y:ByteArray):Prop:=Op.bytesLess x.toList y.toList=true
theorem ltS_iff (x y:ByteArray):ltS x y↔leS x y∧x≠y:=by
  unfold ltS leS
  rw [less_iff]
  constructor
  · intro h
    exact ⟨List.le_of_lt h,fun e=>by subst e;exact List.lt_irrefl _ h⟩
  · rintro ⟨h,hne⟩
    refine Decidable.byContradiction fun hn=>hne ?_
    exact leS_antisymm h (List.not_lt.1 hn)
theorem ltS_trans {x y z:ByteArray} (h:ltS x y) (k:ltS y z):ltS x z:=by
  unfold ltS at *
  rw [less_iff] at *
  exact List.lt_trans h k
theorem mem_insD {t x:ByteArray}:∀ {l:List ByteArray},t∈insD x l↔t=x∨t∈l
  | []=>by simp [insD]
  | y :: l=>by
    rw [insD]
    split
    · rw [List.mem_cons,mem_insD,List.mem_cons]
      constructor
      · rintro (h|h|h)<;>simp [h]
      · rintro (h|h|h)<;>simp [h]
    · split
      · rename_i e
        subst e
        simp only [List.mem_cons]
        constructor
        · exact .inr
        · rintro (h|h)
          · exact .inl h
          · exact h
      · simp only [List.mem_cons]
theorem insD_sorted (x:ByteArray):∀ {l:List ByteArray},l.Pairwise ltS→(insD x l).Pairwise ltS
  | [],_=>by simp [insD]
  | y :: l,h=>by
    have hy:=List.pairwise_cons.1 h
    rw [insD]
    split
    · rename_i hlt
      refine List.pairwise_cons.2 ⟨fun z hz=>?_,insD_sorted x hy.2⟩
      rcases mem_insD.1 hz with rfl|hz
      · exact hlt
      · exact hy.1 z hz
    · split
      · exact h
      · rename_i hlt hne
        have hxy:ltS x y:=(ltS_iff _ _).2 ⟨(not_less_iff _ _).1 hlt,fun e=>hne e.symm⟩
        refine List.pairwise_cons.2 ⟨fun z hz=>?_,h⟩
        rcases List.mem_cons.1 hz with rfl|hz
        · exact hxy
        · exact ltS_trans hxy (hy.1 z hz)
theorem insD_len (x:ByteArray):∀ l:List ByteArray,(insD x l).length≤l.length+1
  | []=>by simp [insD]
  | y :: l=>by
    have:=insD_len x l
    rw [insD]
    split
    · simp only [List.length_cons];omega
    · split<;>simp
theorem law9:Keyed Tryz.prog 9:=string_keyed Tryz.underlying9
def keyS (t:ByteArray):Lit:=.string t.data.toList
theorem keyS_ok (t:ByteArray) (h:t.size≤maxLen):keyOf Tryz.prog 9 (.string t)=some (keyS t):=keyOf_string_mk Tryz.underlying9 h
theorem keyS_inj {t u:ByteArray} (h:keyS t=keyS u):t=u:=by
  unfold keyS at h
  injection h with h
  exact Go.WideShapes.bytes_inj h
theorem keyLit (t:ByteArray):Go.WideAt.IsKeyLit (keyS t):=trivial
def textsT:List Tm→List ByteArray
  | []=>[]
  | t :: l=>insD t.text (textsT l)
theorem textsT_sorted:∀ l,(textsT l).Pairwise ltS
  | []=>.nil
  | t :: l=>insD_sorted _ (textsT_sorted l)
theorem mem_textsT {x:ByteArray}:∀ {l:List Tm},x∈textsT l↔∃ t,t∈l∧t.text=x
  | []=>by simp [textsT]
  | t :: l=>by
    rw [textsT,mem_insD,mem_textsT]
    constructor
    · rintro (h|⟨u,hu,h⟩)
      · exact ⟨t,List.mem_cons_self,h.symm⟩
      · exact ⟨u,List.mem_cons_of_mem _ hu,h⟩
    · rintro ⟨u,hu,h⟩
      rcases List.mem_cons.1 hu with rfl|hu
      · exact .inl h.symm
      · exact .inr ⟨u,hu,h⟩
theorem textsT_len:∀ l,(textsT l).length≤l.length
  | []=>by simp [textsT]
  | t :: l=>by
    have:=textsT_len l
    have:=insD_len t.text (textsT l)
    rw [textsT,List.length_cons];omega
def txG {H:Type} (l:List Tm):Nat→DataW H
  | 0=>.map []
  | k+1=>(txG l k).put (keyS (l.getD k (.var 0)).text) (.lit (.bool true))
theorem txG_isMap {H:Type} (l:List Tm):∀ k,IsMap (txG (H:=H) l k)
  | 0=>⟨_,rfl⟩
  | k+1=>(txG_isMap l k).put _ _
theorem txG_has {H:Type} (l:List Tm) (x:ByteArray):∀ k,Maps.has (txG (H:=H) l k) (keyS x)=true↔∃ j,j < k∧(l.getD j (.var 0)).text=x
  | 0=>by
    constructor
    · intro h;cases h
    · rintro ⟨j,hj,_⟩;omega
  | k+1=>by
    rw [txG]
    by_cases e:(l.getD k (.var 0)).text=x
    · subst e
      rw [has_put_same (txG_isMap l k) (keyLit _)]
      exact ⟨fun _=>⟨k,by omega,rfl⟩,fun _=>rfl⟩
    · rw [has_put_other (fun h=>e (keyS_inj h).symm),txG_has l x k]
      constructor
      · rintro ⟨j,hj,h⟩;exact ⟨j,by omega,h⟩
      · rintro ⟨j,hj,h⟩
        have:j≠k:=fun h'=>e (h' ▸ h)
        exact ⟨j,by omega,h⟩
theorem keys_perm {H:Type} {w:World} {R:Value→Option (DataW H × List MemPlace)} {b nn:Nat} {l:List Tm} (hown:w.ownsMap Tryz.prog 9 R b nn (txG l l.length)):((textsT l).map bytesS).Perm (strKeys (txG (H:=H) l l.length)):=by
  have hC:Collected (txG (H:=H) l l.length) (fun _=>false) ((textsT l).map bytesS):=by
    refine ⟨List.pairwise_map.2 ((textsT_sorted l).imp (fun {a b} h e=>?_)),fun x=>?_⟩
    · exact ((ltS_iff _ _).1 h).2 (by have:=congrArg ofBytes e;rwa [ofBytes_bytes,ofBytes_bytes] at this)
    · have hk:(Lit.string x)=keyS (ofBytes x):=rfl
      rw [hk,txG_has,List.mem_map]
      constructor
      · rintro ⟨t,ht,rfl⟩
        obtain ⟨u,hu,h⟩:=mem_textsT.1 ht
        obtain ⟨j,hj,rfl⟩:=List.getElem_of_mem hu
        exact ⟨⟨j,hj,by rw [ofBytes_bytes,List.getD_eq_getElem?_getD,List.getElem?_eq_getElem hj];exact h⟩,rfl⟩
      · rintro ⟨⟨j,hj,h⟩,_⟩
        rw [List.getD_eq_getElem?_getD,List.getElem?_eq_getElem hj] at h
        exact ⟨ofBytes x,mem_textsT.2 ⟨_,List.getElem_mem hj,h⟩,rfl⟩
  exact hC.perm hown law9 Tryz.underlying9 (fun _=>rfl)
theorem size_txG {H:Type} {w:World} {R:Value→Option (DataW H × List MemPlace)} {b nn:Nat} {l:List Tm} (hown:w.ownsMap Tryz.prog 9 R b nn (txG l l.length)):Maps.size (txG (H:=H) l l.length)=(textsT l).length:=by
  have:=(keys_perm hown).length_eq
  rw [List.length_map] at this
  rw [this]
  obtain ⟨es,e⟩:=txG_isMap (H:=H) l l.length
  rw [e]
  simp [Maps.size,strKeys]
theorem sort_texts {l:List Tm} {ss:List (List UInt8)} (h:ss.Perm ((textsT l).map bytesS)):ss.mergeSort (fun x y=>decide (x≤y))=(textsT l).map bytesS:=by
  have h1:=List.pairwise_mergeSort (le:=fun x y:List UInt8=>decide (x≤y)) (fun a b c h1 h2=>by simp at h1 h2 ⊢;exact List.le_trans h1 h2) (fun a b=>by simp;exact List.le_total a b) ss
  have h2:(ss.mergeSort (fun x y=>decide (x≤y))).Pairwise (fun x y:List UInt8=>x≤y):=h1.imp (fun h=>by simpa using h)
  have h3:((textsT l).map bytesS).Pairwise (fun x y:List UInt8=>x≤y):=List.pairwise_map.2 ((textsT_sorted l).imp (fun h=>((ltS_iff _ _).1 h).1))
  exact List.Perm.eq_of_pairwise (le:=fun x y:List UInt8=>x≤y) (fun a b _ _ h1 h2=>List.le_antisymm h1 h2) h2 h3 ((List.mergeSort_perm _ _).trans h)
open Go.Shelf
theorem text_size_le (t:Tm) (h:t.size≤1000):t.text.size≤4000:=by
  have:=tx_le t
  have e:t.text.size=t.tx.length:=by simp [Tm.text,ByteArray.size]
  rw [e]
  omega
def SortsKeys (l:List Tm):Prop:=∀ (b nn:Nat) (w:World),w.ownsMap (H:=Unit) Tryz.prog 9 (plainElem Tryz.prog 4) b nn (txG l l.length) →
  Calls Tryz.prog 132 #[.func (.func 151) #[] #[.pointer (some ⟨w.heap.size,0,none⟩)]] (w.alloc (.cells #[.map (some b)] 141)) fun e w'=>∃ v:Value,e=.returned v∧Kd.R Kd.string 9 w' (w.heap.size+1) (fun _=>True) v (textsT l)∧Below (w.heap.size+1) (w.alloc (.cells #[.map (some b)] 141)) w'
def KeysOf:Prop:=∀ (b:Nat) (w:World),Calls Tryz.prog 133 #[.map (some b)] w fun e w'=>e=.returned (.func (.func 151) #[] #[.pointer (some ⟨w.heap.size,0,none⟩)])∧w'=w.alloc (.cells #[.map (some b)] 141)
set_option maxHeartbeats 1000000 in
set_option maxRecDepth 100000 in
theorem texts_calls0 (l:List Tm) (hK:KeysOf) (hS:SortsKeys l) (hg:∀ t,t∈l→t.good∧t.size≤1000) (hln:l.length≤1000000) (A:Option Addr) (cap:Nat) (w:World) (ok:Nat→Prop) (hL:HasL w ok l A 0) :
    Calls Tryz.prog 98 #[.slice A l.length cap] w fun e w'=>∃ v,e=.returned v∧Kd.R Kd.string 9 w' w.heap.size (fun k=>w.heap.size≤k) v (textsT l)∧Below w.heap.size w w':=by
  have hmm:=@run_makeMap Tryz.prog
  have HP:=Aside0.mk (And.intro hK (And.intro hS (And.intro hg (And.intro hln hL))))
  clear hK hS hg hln hL
  go_enter Tryz.func98,Tryz.ntmps98
  go_wp2
  go_loopw [9] (fun v9 wr=>∃ i:Nat,v9=.int .i64 (i:Int)∧Aside0 (i≤l.length)∧Aside0 (wr.ownsMap (H:=Unit) Tryz.prog 9 (plainElem Tryz.prog 4) w.heap.size i (txG l i))∧Aside0 (Below w.heap.size w wr)) (fun v9 _=>l.length - (intOf v9).toNat)
  case atStart=>exact ⟨0,rfl,⟨Nat.zero_le _⟩,⟨World.ownsMap_made _ _ _ _⟩,⟨below_alloc (Below.refl _ _) _⟩⟩
  case round =>
    obtain ⟨i,rfl,HI,HO,HB⟩:=hrel
    obtain ⟨hK,hS,hg,hln,hL⟩:=HP.out
    by_cases hlt:i < l.length
    · have hlb:decide ((i:Int) < (l.length:Int))=true:=decide_eq_true (by omega)
      obtain ⟨g,cs,q,rfl,_,hgc,hcs,hq⟩:=hL.get i hlt
      rw [Nat.zero_add] at hcs
      have hgb:=(HB.out.block g (gl_ hgc)).trans hgc
      have hcell:wr.cell? ⟨g,i,none⟩=some (encI q):=(blk_cell hgb i).trans hcs
      have hq2:=hq.below HB.out
      obtain ⟨hg1,hg2⟩:=hg _ (List.getElem_mem hlt)
      have hgd:l.getD i (.var 0)=l[i]:=by rw [List.getD_eq_getElem?_getD,List.getElem?_eq_getElem hlt];rfl
      have HG:=Aside0.mk (show txG (H:=Unit) l (i+1)=(txG l i).put (keyS l[i].text) (.lit (.bool true)) by rw [txG,hgd])
      have HC:=Aside0.mk (text_calls l[i] q wr ok hq2 hg1 (by omega))
      have HK:=Aside0.mk (keyS_ok l[i].text (Nat.le_trans (text_size_le _ hg2) (by unfold maxLen;decide)))
      have HN:=Aside0.mk (show i < maxLen by unfold maxLen;omega)
      have hw1:wrap64 ((i:Int)+1)=(i:Int)+1:=wrS (by omega) (by omega)
      clear hK hS hg hln hL hgc hcs hq hgb hg1 hg2 hgd HI
      generalize l[i]=x at *
      obtain ⟨tid,pv⟩:=q
      obtain ⟨F,hF⟩:∃ F,F=txF (tid,pv):=⟨_,rfl⟩
      have hm1:∀ w,(method 337 tid pv "numnah/rules.text").run Tryz.prog w=.ok (F,pv) w:=hF ▸ meth_text hq2
      have hm2:∀ args w,(callFunc F args).run Tryz.prog w=.ok (.enter F args) w:=hF ▸ enters_text hq2
      clear hq2
      rw [←hF] at HC
      clear hF
      unfold encI at hcell
      generalize x.text=xt at *
      go_wp2_with (first
        | (at_mapUpdate;refine wpList_mapUpdate_own _ rfl _ _ _ 141 rfl 9 4 law9 Tryz.underlying141 (plainElem Tryz.prog 4) w.heap.size i (txG l i) rfl HM.out HN.out _ _ (keyS xt) rfl rfl HK.out (.lit (.bool true)) [] (plainElem_bool Tryz.underlying4 true) ?_;intro w3 hown hgrow;have H3:=Aside0.mk (And.intro hown hgrow);clear hown hgrow)
        | (refine HC.out.mono ?_;rintro e w2 ⟨rfl,hb⟩;have HM:=Aside0.mk (HO.out.kept (Go.Proofs.Zw.grown_of_below hb none) (by simp));have HB2:=Aside0.mk (below_on HB.out hb);clear hb))
      rw [hw1]
      refine ⟨⟨i+1,rfl,⟨hlt⟩,⟨?_⟩,⟨HB2.out.grown H3.out.2 (by have:=HB2.out.size;exact this) (fun j hj=>by cases hj;exact Nat.le_refl _)⟩⟩,?_⟩
      · rw [HG.out]
        exact H3.out.1
      · simp only [intOf]
        clear hw1
        omega
    · have hlb:decide ((i:Int) < (l.length:Int))=false:=decide_eq_false (by omega)
      have e:i=l.length:=by have:=HI.out;omega
      subst e
      have HK:=Aside0.mk (hK w.heap.size wr)
      have HS:=Aside0.mk (hS w.heap.size _ wr HO.out)
      clear hK hS hg hln hL hlb hlt
      go_wp2_with (first
        | (go_at_call 133;refine HK.out.mono ?_;rintro e w2 ⟨rfl,h2⟩;subst w2)
        | (go_at_call 132;refine HS.out.mono ?_;rintro e w3 ⟨v,rfl,hr,hb⟩;have H3:=Aside0.mk (And.intro hr hb);clear hr hb))
      go_ret
      have hs:=HB.out.size
      have hb3:Below w.heap.size w w3:=HB.out.trans (((below_alloc (Below.refl _ _) (.cells #[.map (some w.heap.size)] 141)).mono hs).trans (H3.out.2.mono (by omega)))
      have ho:=own_weaken (Kd.own_of_R H3.out.1) (show w.heap.size≤wr.heap.size+1 by omega)
      exact ⟨v,rfl,Kd.R_of_own ho (fun k hk=>own_base ho k hk),hb3⟩
theorem keysOf_holds:KeysOf:=fun b w=>callsIn_wide.1 (Tryz.maps_Keys_133 (some b) w)
theorem sortsKeys_holds (l:List Tm) (hln:l.length≤1000000):SortsKeys l:=by
  intro b nn w hm
  have hsz:=size_txG hm
  have hl:=textsT_len l
  refine (callsIn_wide.1 (Tryz.slices_Sorted_keys_132_133 b nn _ _ w hm (by unfold maxLen;omega) (by omega))).mono ?_
  rintro e w' ⟨v,ss,rfl,hp,hrow,_,hb⟩
  have hs2:=sort_texts (hp.trans (keys_perm hm).symm)
  have hlen:ss.length=(textsT l).length:=by rw [(hp.trans (keys_perm hm).symm).length_eq,List.length_map]
  rw [hs2,hlen,List.map_map,show (fun l=>encStr l) ∘ bytesS=Value.string from rfl] at hrow
  rw [World.size_alloc] at hrow hb
  exact ⟨v,rfl,Kd.R_of_own (enc:=Value.string) (h1:=fun _=>rfl) hrow (fun _ _=>trivial),hb⟩
theorem texts_calls (l:List Tm) (hg:∀ t,t∈l→t.good∧t.size≤1000) (hln:l.length≤1000000) (A:Option Addr) (cap:Nat) (w:World) (ok:Nat→Prop) (hL:HasL w ok l A 0) :
    Calls Tryz.prog 98 #[.slice A l.length cap] w fun e w'=>∃ v,e=.returned v∧Kd.R Kd.string 9 w' w.heap.size (fun k=>w.heap.size≤k) v (textsT l)∧Below w.heap.size w w' :=
  texts_calls0 l keysOf_holds (sortsKeys_holds l hln) hg hln A cap w ok hL
def valT (l:List (List Int)) (s:ByteArray):Int × (Nat→Int) :=
  if isRd l then match readT s with
    | none=>(4,fun _=>0)
    | some t=>if t.size≤12 then (0,ofT l t) else (5,fun _=>0)
  else (2,fun _=>0)
def Z4:Nat→Int:=fun _=>0
theorem vals_set425 {w:World} {g:Nat} {f0:Nat→Int} (f:Nat→Int) (h:w.heap[g]?=some (.cells (vals f0) 25 (0,0))):((((w.setCell ⟨g,0,none⟩ (.int .i64 (f 0))).setCell ⟨g,1,none⟩ (.int .i64 (f 1))).setCell ⟨g,2,none⟩ (.int .i64 (f 2))).setCell ⟨g,3,none⟩ (.int .i64 (f 3))).heap[g]?=some (.cells (vals f) 25 (0,0)):=by
  simp [World.setCell,Array.getElem?_modify,h,vals]
theorem enters66:∀ args w,(callFunc 66 args).run Tryz.prog w=.ok (.enter 66 args) w:=fun args w=>enters_ Tryz.func66 (by kernel_rfl) rfl args w
set_option maxRecDepth 100000 in
set_option maxHeartbeats 1000000 in
theorem val1_calls (l:List (List Int)) (s:ByteArray) (A0:Option Addr) (c0 b0 b1 b2:Nat) (w:World) (hC0:Kd.C (Kd.slice 3 (Kd.int .i64)) w A0 l.length l) (hb0:w.heap[b0]?=some (.cells #[.slice A0 l.length c0] 22 (0,0))) (hb1:w.heap[b1]?=some (.cells #[.string s] 9 (0,0))) (hb2:w.heap[b2]?=some (.cells (vals Z4) 25 (0,0))) :
    Calls Tryz.prog 66 #[.pointer (some ⟨b0,0,none⟩),.pointer (some ⟨b1,0,none⟩),.pointer (some ⟨b2,0,none⟩)] w fun e w'=>e=endE (valT l s).1∧But b2 w w'∧w'.heap[b2]?=some (.cells (vals (valT l s).2) 25 (0,0)):=by
  have hx0:=blk_cell hb0 0
  have hx1:=blk_cell hb1 0
  have hrd:=isReading_calls l A0 c0 w hC0
  have hrc:=read_calls (fun _=>True) s w (fun _ _=>trivial)
  by_cases h:isRd l=true
  · cases hR:readT s with
    | none =>
      have e:valT l s=(4,Z4):=by unfold valT;rw [if_pos h,hR];rfl
      rw [e]
      rw [h] at hrd
      rw [hR] at hrc
      have HC:=Aside0.mk hrd
      have HR:=Aside0.mk hrc
      have HB2:=Aside0.mk hb2
      clear hrd hrc hC0 hb0 hb1 hb2 h hR e
      go_enter Tryz.func66,Tryz.ntmps66
      go_wp2_with (first|(go_at_call 68;refine HC.out.mono ?_;rintro e w1 ⟨rfl,h1⟩;subst w1)|(go_at_call 67;refine (demand_ok 2 _).mono ?_;rintro e w2 ⟨rfl,h2⟩;subst w2)|(go_at_call 69;refine HR.out.mono ?_;rintro e w3 ⟨hb,rfl⟩;have H3:=Aside0.mk hb;clear hb))
      exact ⟨rfl,rfl,But.of_below H3.out,blk_below HB2.out H3.out⟩
    | some t =>
      have hgd:=readT_good hR
      rw [h] at hrd
      rw [hR] at hrc
      have hsz:=fun (q:Nat × Value) (w':World) (hq:Has w' (fun _=>True) t q)=>size_calls t q w' (fun _=>True) hq (by omega)
      have hof:=fun (q:Nat × Value) (w':World) (hC:Kd.C (Kd.slice 3 (Kd.int .i64)) w' A0 l.length l) (hq:Has w' (fun _=>True) t q)=>of_calls l h t A0 c0 q w' (fun _=>True) hC hq hgd.1
      have HC:=Aside0.mk hrd
      have HR:=Aside0.mk hrc
      have HS:=Aside0.mk hsz
      have HO:=Aside0.mk hof
      have HB2:=Aside0.mk hb2
      have HK:=Aside0.mk (And.intro hC0 (And.intro hb0 hb1))
      by_cases hle:t.size≤12
      · have e:valT l s=(0,ofT l t):=by unfold valT;rw [if_pos h,hR];exact if_pos hle
        rw [e]
        have e0:endE (0,ofT l t).1=.returned (.tuple #[]):=rfl
        rw [e0]
        clear hrd hrc hC0 hb0 hb1 hb2 h hR e e0 hgd hsz hof
        generalize ofT l t=f at *
        generalize t.size=n at *
        go_enter Tryz.func66,Tryz.ntmps66
        go_wp2_with (first
          | (go_at_call 68;refine HC.out.mono ?_;rintro e w1 ⟨rfl,h1⟩;subst w1)
          | (go_at_call 67;refine (demand_ok _ _).mono ?_;rintro e w2 ⟨rfl,h2⟩;subst w2)
          | (go_at_call 69;refine HR.out.mono ?_;rintro e w3 ⟨hb,⟨tid,pv⟩,he,hp⟩;obtain rfl:e=.returned (.iface tid pv):=he;obtain ⟨F,hF⟩:∃ F,F=szF (tid,pv):=⟨_,rfl⟩;have hm1:∀ w,(method 337 tid pv "numnah/rules.size").run Tryz.prog w=.ok (F,pv) w:=hF ▸ meth_size hp;have hm2:∀ args w,(callFunc F args).run Tryz.prog w=.ok (.enter F args) w:=hF ▸ enters_size hp;have HS2:=Aside0.mk (HS.out _ _ hp);rw [←hF] at HS2;have HP:=Aside0.mk (And.intro hb hp);clear hF hb hp)
          | (go_at_call 70;refine (HO.out _ _ (Kd.C_below HK.out.1 (below_on HP.out.1 H4.out)) (HP.out.2.below H4.out)).mono ?_;rintro e w5 ⟨he5,h5⟩;obtain rfl:e=.returned (.agg #[.int .i64 (f 0),.int .i64 (f 1),.int .i64 (f 2),.int .i64 (f 3)]):=he5;have H5:=Aside0.mk (blk_below (blk_below (blk_below HB2.out HP.out.1) H4.out) h5);have H6:=Aside0.mk (below_on (below_on HP.out.1 H4.out) h5);clear h5;have hz0:=blk_frozen H5.out 0;have hz1:=blk_frozen H5.out 1;have hz2:=blk_frozen H5.out 2;have hz3:=blk_frozen H5.out 3;have hd0:w5.cell? ⟨b2,0,none⟩=some (.int .i64 0):=blk_cell H5.out 0;have hd1:w5.cell? ⟨b2,1,none⟩=some (.int .i64 0):=blk_cell H5.out 1;have hd2:w5.cell? ⟨b2,2,none⟩=some (.int .i64 0):=blk_cell H5.out 2;have hd3:w5.cell? ⟨b2,3,none⟩=some (.int .i64 0):=blk_cell H5.out 3)
          | (refine HS2.out.mono ?_;rintro e w4 ⟨rfl,h4⟩;have H4:=Aside0.mk h4;have hx0:=blk_cell (blk_below (blk_below HK.out.2.1 HP.out.1) h4) 0;clear h4))
        have hf1:But b2 w ((((w5.setCell ⟨b2,0,none⟩ (.int .i64 (f 0))).setCell ⟨b2,1,none⟩ (.int .i64 (f 1))).setCell ⟨b2,2,none⟩ (.int .i64 (f 2))).setCell ⟨b2,3,none⟩ (.int .i64 (f 3))):=(But.of_below H6.out).trans ((((But.set _ 0 _).trans (But.set _ 1 _)).trans (But.set _ 2 _)).trans (But.set _ 3 _))
        have hf2:=vals_set425 f H5.out
        generalize (((w5.setCell ⟨b2,0,none⟩ (.int .i64 (f 0))).setCell ⟨b2,1,none⟩ (.int .i64 (f 1))).setCell ⟨b2,2,none⟩ (.int .i64 (f 2))).setCell ⟨b2,3,none⟩ (.int .i64 (f 3))=w9 at *
        simp [bodyPost,results,Tryz.results66]
        exact ⟨hf1,hf2⟩
      · have e:valT l s=(5,Z4):=by unfold valT;rw [if_pos h,hR];exact if_neg hle
        rw [e]
        clear hrd hrc hC0 hb0 hb1 hb2 h hR e hgd hsz hof
        generalize t.size=n at *
        go_enter Tryz.func66,Tryz.ntmps66
        go_wp2_with (first
          | (go_at_call 68;refine HC.out.mono ?_;rintro e w1 ⟨rfl,h1⟩;subst w1)
          | (go_at_call 67;refine (demand_ok 2 _).mono ?_;rintro e w2 ⟨rfl,h2⟩;subst w2)
          | (go_at_call 67;rw [show decide (n≤12)=false from decide_eq_false (Int.not_le.2 hle)];refine (demand_no 5 _).mono ?_;rintro e w2 ⟨rfl,h2⟩;subst w2)
          | (go_at_call 69;refine HR.out.mono ?_;rintro e w3 ⟨hb,⟨tid,pv⟩,he,hp⟩;obtain rfl:e=.returned (.iface tid pv):=he;obtain ⟨F,hF⟩:∃ F,F=szF (tid,pv):=⟨_,rfl⟩;have hm1:∀ w,(method 337 tid pv "numnah/rules.size").run Tryz.prog w=.ok (F,pv) w:=hF ▸ meth_size hp;have hm2:∀ args w,(callFunc F args).run Tryz.prog w=.ok (.enter F args) w:=hF ▸ enters_size hp;have HS2:=Aside0.mk (HS.out _ _ hp);rw [←hF] at HS2;have HP:=Aside0.mk (And.intro hb hp);clear hF hb hp)
          | (refine HS2.out.mono ?_;rintro e w4 ⟨rfl,h4⟩;have H4:=Aside0.mk h4;have hx0:=blk_cell (blk_below (blk_below HK.out.2.1 HP.out.1) h4) 0;clear h4))
        exact ⟨rfl,rfl,But.of_below (below_on HP.out.1 H4.out),blk_below (blk_below HB2.out HP.out.1) H4.out⟩
  · have e:valT l s=(2,Z4):=by unfold valT;rw [if_neg h];rfl
    have h0:isRd l=false:=by simpa using h
    rw [e]
    rw [h0] at hrd
    have HC:=Aside0.mk hrd
    have HB2:=Aside0.mk hb2
    clear hrd hrc hC0 hb0 hb1 hb2 h h0 e
    go_enter Tryz.func66,Tryz.ntmps66
    go_wp2_with (first|(go_at_call 68;refine HC.out.mono ?_;rintro e w1 ⟨rfl,h1⟩;subst w1)|(go_at_call 67;refine (demand_no 2 _).mono ?_;rintro e w2 ⟨rfl,h2⟩;subst w2))
    exact ⟨rfl,rfl,But.refl _ _,HB2.out⟩
set_option maxRecDepth 100000 in
theorem val_calls (l:List (List Int)) (s:ByteArray) (A0:Option Addr) (c0:Nat) (w:World) (hC0:Kd.C (Kd.slice 3 (Kd.int .i64)) w A0 l.length l) :
    Calls Tryz.prog 22 #[.slice A0 l.length c0,.string s] w fun e w'=>e=.returned (.tuple #[.agg (vals (valT l s).2),.int .i64 (valT l s).1])∧Below w.heap.size w w':=by
  obtain ⟨r,v,hv⟩:∃ r v,valT l s=(r,v):=⟨_,_,rfl⟩
  have h1:=fun b0 b1 b2 w' hC=>val1_calls l s A0 c0 b0 b1 b2 w' hC
  rw [hv] at h1 ⊢
  dsimp only at h1 ⊢
  obtain ⟨w3,hw3⟩:∃ w3,w3=((w.alloc (.cells #[.slice A0 l.length c0] 22)).alloc (.cells #[.string s] 9)).alloc (.cells (vals Z4) 25):=⟨_,rfl⟩
  have hB3:Below w.heap.size w w3:=by rw [hw3];exact below_alloc (below_alloc (below_alloc (Below.refl _ _) _) _) _
  have hsz:w3.heap.size=w.heap.size+3:=by rw [hw3];simp
  have hk0:w3.heap[w.heap.size]?=some (.cells #[.slice A0 l.length c0] 22 (0,0)):=by rw [hw3];exact blk_alloc (blk_alloc (blk_new w _) _) _
  have hk1:w3.heap[w.heap.size+1]?=some (.cells #[.string s] 9 (0,0)):=by rw [hw3];exact blk_alloc (blk_new1 w _ _) _
  have hk2:w3.heap[w.heap.size+2]?=some (.cells (vals Z4) 25 (0,0)):=by
    rw [hw3]
    have:=blk_new ((w.alloc (.cells #[.slice A0 l.length c0] 22)).alloc (.cells #[.string s] 9)) (.cells (vals Z4) 25)
    rwa [World.size_alloc,World.size_alloc] at this
  have hg:=guard_keeps 66 enters66 #[.pointer (some ⟨w.heap.size,0,none⟩),.pointer (some ⟨w.heap.size+1,0,none⟩),.pointer (some ⟨w.heap.size+2,0,none⟩)] w3 (fun c w1=>c=r∧But (w.heap.size+2) w3 w1∧w1.heap[w.heap.size+2]?=some (.cells (vals v) 25 (0,0))) ((h1 w.heap.size (w.heap.size+1) (w.heap.size+2) (w3.alloc (.cells #[.int .i64 0] 26)) (Kd.C_below hC0 (below_alloc hB3 _)) (blk_alloc hk0 _) (blk_alloc hk1 _) (blk_alloc hk2 _)).mono (fun e w1 hh=>by
    obtain ⟨rfl,hb,hv1⟩:=hh
    have hbt:But (w.heap.size+2) w3 w1:=(But.of_below (below_alloc (Below.refl _ _) _)).trans hb
    refine ⟨(hb.block _ (by simp) (by omega)).trans (blk_new w3 _),?_⟩
    by_cases hr:r=0
    · subst hr
      exact .inl ⟨rfl,rfl,hbt,hv1⟩
    · exact .inr ⟨r,endE_no hr,rfl,hbt,hv1⟩))
  have HG:=Aside0.mk hg
  have HB:=Aside0.mk hB3
  have HZ:=Aside0.mk hsz
  clear hg hB3 hsz hk0 hk1 hk2 hC0 h1 hv
  subst hw3
  unfold vals Z4 at HG HB HZ
  go_enter Tryz.func22,Tryz.ntmps22
  go_wp2_with (go_at_call 65;refine HG.out.mono ?_;rintro e w1 ⟨c,w2,rfl,⟨rfl,hb,hv1⟩,hb2⟩;have hv2:=(hb2.block _ (gl_ hv1) (by have:=HZ.out;omega)).trans hv1;have hz0:=blk_frozen hv2 0;have hz1:=blk_frozen hv2 1;have hz2:=blk_frozen hv2 2;have hz3:=blk_frozen hv2 3;have hd0:w1.cell? ⟨w.heap.size+2,0,none⟩=some (.int .i64 (v 0)):=blk_cell hv2 0;have hd1:w1.cell? ⟨w.heap.size+2,1,none⟩=some (.int .i64 (v 1)):=blk_cell hv2 1;have hd2:w1.cell? ⟨w.heap.size+2,2,none⟩=some (.int .i64 (v 2)):=blk_cell hv2 2;have hd3:w1.cell? ⟨w.heap.size+2,3,none⟩=some (.int .i64 (v 3)):=blk_cell hv2 3;have HH:=Aside0.mk (And.intro hb (And.intro hb2 hv2));clear hb hb2 hv2)
  refine bodyPost_ret (results_ct (P:=Tryz.prog) rfl _ _ (w.heap.size+1+1) 25 (vals v) (0,0) _ rfl (vals_set425 (f0:=v) v HH.out.2.2) Tryz.underlying25 rfl (by kernel_rfl)) rfl ?_
  refine ⟨rfl,?_⟩
  have hz:=HZ.out
  have b1:=HB.out
  have b2:=HH.out.1
  have b3:=HH.out.2.1
  have b4:Below w.heap.size w w1:=(b1.trans (b2.below (Nat.le_add_right _ _) (by omega))).trans (b3.below (by omega) (by have:=b2.size;omega))
  have hle:w.heap.size≤w.heap.size+1+1:=by omega
  exact below_set (below_set (below_set (below_set b4 hle) hle) hle) hle
mutual
theorem nextT_good {ls:List (Tm × Tm)} (hls:LawsGood ls):∀ (T:Tm) (r:List Tm),T.good→T.size≤60→nextT ls T=some r→∀ t,t∈r→t.good
 | .var c,r,hg,hs,h,t,ht=>by
  rw [nextT] at h
  obtain ⟨rfl,_⟩:=chk_some h
  exact rootT_good hls hg (by omega) ht
 | .app s l,r,hg,hs,h,t,ht=>by
  rw [nextT] at h
  cases hn:nextL ls s [] l with
  | none=>rw [hn] at h;cases h
  | some r2 =>
   rw [hn,Option.bind_some] at h
   obtain ⟨rfl,_⟩:=chk_some h
   rcases List.mem_append.1 ht with ht|ht
   ·exact rootT_good hls hg (by omega) ht
   ·have hg2:=hg
    rw [Tm.good] at hg2
    rw [Tm.size] at hs
    exact nextL_good hls s [] l r2 hg2.1 (by simpa using hg2.2.1) (by rw [Tm.goods];trivial) hg2.2.2 (by omega) hn t ht
theorem nextL_good {ls:List (Tm × Tm)} (hls:LawsGood ls) (s:Int):∀ (pre us r:List Tm),(97≤s∧s≤102)→((pre.length:Int)+us.length=nParts s)→Tm.goods pre→Tm.goods us→Tm.sizes us≤60→nextL ls s pre us=some r→∀ t,t∈r→t.good
 | pre,[],r,h1,h2,h3,h4,h5,h,t,ht=>by
  rw [nextL] at h
  injection h with h
  subst h
  cases ht
 | pre,u :: us,r,h1,h2,h3,h4,h5,h,t,ht=>by
  rw [nextL] at h
  rw [Tm.goods] at h4
  rw [Tm.sizes] at h5
  have hp:=Tm.sizes_nn us
  have hp2:=Tm.size_pos u
  cases hv:nextT ls u with
  | none=>rw [hv] at h;cases h
  | some vs =>
   rw [hv,Option.bind_some] at h
   cases hr:nextL ls s (pre++[u]) us with
   | none=>rw [hr] at h;cases h
   | some r2 =>
    rw [hr,Option.map_some] at h
    injection h with h
    subst h
    rcases List.mem_append.1 ht with ht|ht
    ·obtain ⟨v,hv2,rfl⟩:=List.mem_map.1 ht
     have hvg:=nextT_good hls u vs h4.1 (by omega) hv v hv2
     rw [Tm.good]
     refine ⟨h1,?_,?_⟩
     ·rw [List.length_append,List.length_cons]
      rw [List.length_cons] at h2
      omega
     ·rw [goods_app]
      exact ⟨h3,by rw [Tm.goods];exact ⟨hvg,h4.2⟩⟩
    ·refine nextL_good hls s (pre++[u]) us r2 h1 ?_ ?_ h4.2 (by omega) hr t ht
     ·rw [List.length_append,List.length_cons,List.length_nil]
      rw [List.length_cons] at h2
      omega
     ·rw [goods_app]
      exact ⟨h3,by rw [Tm.goods,Tm.goods];exact ⟨h4.1,trivial⟩⟩
end
def nextsT (rs:List S94) (s:ByteArray):Int × List ByteArray :=
 match newLawsT rs with
 | none=>(2,[])
 | some ls=>match readT s with
  | none=>(4,[])
  | some t=>match nextT ls t with
   | none=>(5,[])
   | some r=>(0,textsT r)
theorem enters97:∀ args w,(callFunc 97 args).run Tryz.prog w=.ok (.enter 97 args) w:=fun args w=>enters_ Tryz.func97 (by kernel_rfl) rfl args w
def StrsAt (w w':World) (b2:Nat) (l:List ByteArray):Prop:=∃ v,w'.heap[b2]?=some (.cells #[v] 36 (0,0))∧Kd.R Kd.string 9 w' w.heap.size (fun k=>w.heap.size≤k) v l
theorem StrsAt.nil {w:World} {b2:Nat} (h:w.heap[b2]?=some (.cells #[.slice none 0 0] 36 (0,0))) {w':World} (hb:Below w.heap.size w w'):StrsAt w w' b2 []:=⟨_,blk_below h hb,Kd.R_nil _ _ _ _ _⟩
set_option maxRecDepth 100000 in
set_option maxHeartbeats 1000000 in
theorem next1_calls (rs:List S94) (s:ByteArray) (A0:Option Addr) (c0 b0 b1 b2:Nat) (w:World) (hC0:Kd.C k94 w A0 rs.length rs) (hb0:w.heap[b0]?=some (.cells #[.slice A0 rs.length c0] 35 (0,0))) (hb1:w.heap[b1]?=some (.cells #[.string s] 9 (0,0))) (hb2:w.heap[b2]?=some (.cells #[.slice none 0 0] 36 (0,0))) :
  Calls Tryz.prog 97 #[.pointer (some ⟨b0,0,none⟩),.pointer (some ⟨b1,0,none⟩),.pointer (some ⟨b2,0,none⟩)] w fun e w'=>e=endE (nextsT rs s).1∧But b2 w w'∧StrsAt w w' b2 (nextsT rs s).2:=by
 have hx0:=blk_cell hb0 0
 have hnl:=newLaws_calls rs A0 c0 w hC0
 cases hL:newLawsT rs with
 | none =>
  have e:nextsT rs s=(2,[]):=by unfold nextsT;rw [hL]
  rw [e]
  rw [hL] at hnl
  have HC:=Aside0.mk hnl
  have HB2:=Aside0.mk hb2
  clear hnl hC0 hb0 hb1 hb2 hL e
  go_enter Tryz.func97,Tryz.ntmps97
  go_wp2_with (go_at_call 77;refine HC.out.mono ?_;rintro e w1 ⟨hb,rfl⟩;have H1:=Aside0.mk hb;clear hb)
  exact ⟨rfl,rfl,But.of_below H1.out,StrsAt.nil HB2.out H1.out⟩
 | some ls =>
  have hlg:=newLawsT_good hL
  rw [hL] at hnl
  have hrc:=fun w':World=>read_calls (fun _=>True) s w' (fun _ _=>trivial)
  cases hR:readT s with
  | none =>
   have e:nextsT rs s=(4,[]):=by unfold nextsT;rw [hL];dsimp only;rw [hR]
   rw [e]
   rw [hR] at hrc
   have HC:=Aside0.mk hnl
   have HR:=Aside0.mk hrc
   have HB2:=Aside0.mk (And.intro hb2 hb1)
   clear hnl hC0 hb0 hb1 hb2 hL hR e hrc hlg
   go_enter Tryz.func97,Tryz.ntmps97
   go_wp2_with (first
    | (go_at_call 77;refine HC.out.mono ?_;rintro e w1 ⟨hb,A2,c2,rfl,hW⟩;have hx1:=blk_cell (blk_below HB2.out.2 hb) 0;have H1:=Aside0.mk (And.intro hb hW);clear hb hW)
    | (go_at_call 69;refine (HR.out _).mono ?_;rintro e w2 ⟨hb,rfl⟩;have H2:=Aside0.mk (below_on H1.out.1 hb);clear hb))
   exact ⟨rfl,rfl,But.of_below H2.out,StrsAt.nil HB2.out.1 H2.out⟩
  | some t =>
   have hgd:=readT_good hR
   have hnx:=fun (q:Nat × Value) (w':World) (okL:Nat→Prop) (A2:Option Addr) (c2:Nat) (hW:HasW w' okL ls A2) (hq:Has w' (fun _=>True) t q)=>next_calls ls hlg.1 (by omega) t q w' (fun _=>True) okL A2 c2 hW hq hgd.1 hgd.2 (fun _ _=>trivial)
   rw [hR] at hrc
   cases hN:nextT ls t with
   | none =>
    have e:nextsT rs s=(5,[]):=by unfold nextsT;rw [hL];dsimp only;rw [hR];dsimp only;rw [hN]
    rw [e]
    rw [hN] at hnx
    have HC:=Aside0.mk hnl
    have HR:=Aside0.mk hrc
    have HX:=Aside0.mk hnx
    have HB2:=Aside0.mk (And.intro hb2 hb1)
    clear hnl hC0 hb0 hb1 hb2 hL hR e hrc hlg hnx hN hgd
    go_enter Tryz.func97,Tryz.ntmps97
    go_wp2_with (first
     | (go_at_call 77;refine HC.out.mono ?_;rintro e w1 ⟨hb,A2,c2,rfl,hW⟩;have hx1:=blk_cell (blk_below HB2.out.2 hb) 0;have H1:=Aside0.mk (And.intro hb hW);clear hb hW)
     | (go_at_call 69;refine (HR.out _).mono ?_;rintro e w2 ⟨hb,⟨tid,pv⟩,he,hp⟩;obtain rfl:e=.returned (.iface tid pv):=he;have H2:=Aside0.mk (And.intro (below_on H1.out.1 hb) (And.intro (H1.out.2.below hb) hp));clear hb hp)
     | (go_at_call 99;refine (HX.out (tid,pv) _ _ _ _ H2.out.2.1 H2.out.2.2).mono ?_;rintro e w3 ⟨hb,rfl⟩;have H3:=Aside0.mk (below_on H2.out.1 hb);clear hb))
    exact ⟨rfl,rfl,But.of_below H3.out,StrsAt.nil HB2.out.1 H3.out⟩
   | some r =>
    have e:nextsT rs s=(0,textsT r):=by unfold nextsT;rw [hL];dsimp only;rw [hR];dsimp only;rw [hN]
    rw [e]
    have e0:endE (0,textsT r).1=.returned (.tuple #[]):=rfl
    rw [e0]
    rw [hN] at hnx
    have hrl:=nextT_len ls t r hN
    have hrg:=nextT_good hlg.1 t r hgd.1 hgd.2 hN
    have hrs:=nextT_size hN
    have hl6:=hlg.2
    have hmul:(ls.length:Int) * t.size≤6 * 60:=Int.mul_le_mul (by omega) hgd.2 (by have:=Tm.size_pos t;omega) (by omega)
    have htx:=fun (A:Option Addr) (cap:Nat) (w':World) (hL:HasL w' (fun _=>True) r A 0)=>texts_calls r (fun t ht=>⟨hrg t ht,by have:=hrs t ht;omega⟩) (by omega) A cap w' (fun _=>True) hL
    have HC:=Aside0.mk hnl
    have HR:=Aside0.mk hrc
    have HX:=Aside0.mk hnx
    have HT:=Aside0.mk htx
    have HB2:=Aside0.mk (And.intro hb2 hb1)
    clear hnl hC0 hb0 hb1 hb2 hL hR e e0 hrc hlg hnx hN hgd hrl hrg hrs hl6 hmul htx
    go_enter Tryz.func97,Tryz.ntmps97
    go_wp2_with (first
     | (go_at_call 77;refine HC.out.mono ?_;rintro e w1 ⟨hb,A2,c2,rfl,hW⟩;have hx1:=blk_cell (blk_below HB2.out.2 hb) 0;have H1:=Aside0.mk (And.intro hb hW);clear hb hW)
     | (go_at_call 69;refine (HR.out _).mono ?_;rintro e w2 ⟨hb,⟨tid,pv⟩,he,hp⟩;obtain rfl:e=.returned (.iface tid pv):=he;have H2:=Aside0.mk (And.intro (below_on H1.out.1 hb) (And.intro (H1.out.2.below hb) hp));clear hb hp)
     | (go_at_call 99;refine (HX.out (tid,pv) _ _ _ _ H2.out.2.1 H2.out.2.2).mono ?_;rintro e w3 ⟨hb,v3,rfl,hrow⟩;obtain ⟨A3,c3,rfl,_,hL3⟩:=hrow.read (fun _ _=>trivial);have H3:=Aside0.mk (And.intro (below_on H2.out.1 hb) hL3);clear hb hrow hL3)
     | (go_at_call 98;refine (HT.out _ _ _ H3.out.2).mono ?_;rintro e w4 ⟨v4,rfl,hr4,hb⟩;obtain ⟨A4,c4,rfl⟩:=own_slice (Kd.own_of_R hr4);have H5:=Aside0.mk (blk_below (blk_below HB2.out.1 H3.out.1) hb);have H4:=Aside0.mk (And.intro (below_on H3.out.1 hb) hr4);clear hb hr4;have hz:=blk_frozen H5.out 0;have hd:w4.cell? ⟨b2,0,none⟩=some (.slice none 0 0):=blk_cell H5.out 0))
    have hf1:But b2 w (w4.setCell ⟨b2,0,none⟩ (.slice A4 (textsT r).length c4)):=(But.of_below H4.out.1).trans (But.set _ 0 _)
    have hf2:(w4.setCell ⟨b2,0,none⟩ (.slice A4 (textsT r).length c4)).heap[b2]?=some (.cells #[.slice A4 (textsT r).length c4] 36 (0,0)):=blk_setCell H5.out _
    have hf3:Kd.R Kd.string 9 (w4.setCell ⟨b2,0,none⟩ (.slice A4 (textsT r).length c4)) w.heap.size (fun k=>w.heap.size≤k) (.slice A4 (textsT r).length c4) (textsT r):=by
     have ho:=own_weaken (Kd.own_of_R H4.out.2) (show w.heap.size≤w3.heap.size from H3.out.1.size)
     exact Kd.R_of_own (own_setCell ho (own_ne ho H5.out (by decide)) _) (fun k hk=>own_base ho k hk)
    generalize (w4.setCell ⟨b2,0,none⟩ (.slice A4 (textsT r).length c4))=w9 at *
    simp [bodyPost,results,Tryz.results97]
    exact ⟨hf1,_,hf2,hf3⟩
set_option maxRecDepth 100000 in
theorem nexts_calls (rs:List S94) (s:ByteArray) (A0:Option Addr) (c0:Nat) (w:World) (hC0:Kd.C k94 w A0 rs.length rs) :
  Calls Tryz.prog 49 #[.slice A0 rs.length c0,.string s] w fun e w'=>∃ v,e=.returned (.tuple #[v,.int .i64 (nextsT rs s).1])∧Kd.R Kd.string 9 w' w.heap.size (fun k=>w.heap.size≤k) v (nextsT rs s).2∧Below w.heap.size w w':=by
 obtain ⟨r,l,hv⟩:∃ r l,nextsT rs s=(r,l):=⟨_,_,rfl⟩
 have h1:=fun b0 b1 b2 w' hC=>next1_calls rs s A0 c0 b0 b1 b2 w' hC
 rw [hv] at h1 ⊢
 dsimp only at h1 ⊢
 obtain ⟨w3,hw3⟩:∃ w3,w3=((w.alloc (.cells #[.slice A0 rs.length c0] 35)).alloc (.cells #[.string s] 9)).alloc (.cells #[.slice none 0 0] 36):=⟨_,rfl⟩
 have hB3:Below w.heap.size w w3:=by rw [hw3];exact below_alloc (below_alloc (below_alloc (Below.refl _ _) _) _) _
 have hsz:w3.heap.size=w.heap.size+3:=by rw [hw3];simp
 have hk0:w3.heap[w.heap.size]?=some (.cells #[.slice A0 rs.length c0] 35 (0,0)):=by rw [hw3];exact blk_alloc (blk_alloc (blk_new w _) _) _
 have hk1:w3.heap[w.heap.size+1]?=some (.cells #[.string s] 9 (0,0)):=by rw [hw3];exact blk_alloc (blk_new1 w _ _) _
 have hk2:w3.heap[w.heap.size+2]?=some (.cells #[.slice none 0 0] 36 (0,0)):=by
  rw [hw3]
  have:=blk_new ((w.alloc (.cells #[.slice A0 rs.length c0] 35)).alloc (.cells #[.string s] 9)) (.cells #[.slice none 0 0] 36)
  rwa [World.size_alloc,World.size_alloc] at this
 have hg:=guard_keeps 97 enters97 #[.pointer (some ⟨w.heap.size,0,none⟩),.pointer (some ⟨w.heap.size+1,0,none⟩),.pointer (some ⟨w.heap.size+2,0,none⟩)] w3 (fun c w1=>c=r∧But (w.heap.size+2) w3 w1∧StrsAt (w3.alloc (.cells #[.int .i64 0] 26)) w1 (w.heap.size+2) l) ((h1 w.heap.size (w.heap.size+1) (w.heap.size+2) (w3.alloc (.cells #[.int .i64 0] 26)) (Kd.C_below hC0 (below_alloc hB3 _)) (blk_alloc hk0 _) (blk_alloc hk1 _) (blk_alloc hk2 _)).mono (fun e w1 hh=>by
  obtain ⟨rfl,hb,hv1⟩:=hh
  have hbt:But (w.heap.size+2) w3 w1:=(But.of_below (below_alloc (Below.refl _ _) _)).trans hb
  refine ⟨(hb.block _ (by simp) (by omega)).trans (blk_new w3 _),?_⟩
  by_cases hr:r=0
  ·subst hr
   exact .inl ⟨rfl,rfl,hbt,hv1⟩
  ·exact .inr ⟨r,endE_no hr,rfl,hbt,hv1⟩))
 have HG:=Aside0.mk hg
 have HB:=Aside0.mk hB3
 have HZ:=Aside0.mk hsz
 clear hg hB3 hsz hk0 hk1 hk2 hC0 h1 hv
 subst hw3
 go_enter Tryz.func49,Tryz.ntmps49
 go_wp2_with (go_at_call 65;refine HG.out.mono ?_;rintro e w1 ⟨c,w2,rfl,⟨rfl,hb,v,hv1,hv3⟩,hb2⟩;obtain ⟨A4,c4,rfl⟩:=own_slice (Kd.own_of_R hv3);have hv2:=(hb2.block _ (gl_ hv1) (by have:=HZ.out;omega)).trans hv1;have hz0:=blk_frozen hv2 0;have hd0:w1.cell? ⟨w.heap.size+2,0,none⟩=some (.slice A4 l.length c4):=blk_cell hv2 0;have HH:=Aside0.mk (And.intro hb (And.intro hb2 (And.intro hv2 hv3)));clear hb hb2 hv2 hv3)
 have hz:=HZ.out
 have b1:=HB.out
 obtain ⟨b2,b3,hv2,hv3⟩:=HH.out
 have b4:Below w.heap.size w w1:=(b1.trans (b2.below (Nat.le_add_right _ _) (by omega))).trans (b3.below (by omega) (by have:=b2.size;omega))
 have ho:=Kd.own_of_R hv3
 have hg2:w1.ownsRow w.heap.size 9 1 (.slice A4 l.length c4) l.length (l.map Value.string):=own_weaken (own_move ho (fun k hk=>b3.block k (own_lt ho k hk) (by have:=own_base ho k hk;rw [World.size_alloc] at this;omega))) (by rw [World.size_alloc];omega)
 have hv9:(w1.setCell ⟨w.heap.size+1+1,0,none⟩ (.slice A4 l.length c4)).heap[w.heap.size+1+1]?=some (.cells #[.slice A4 l.length c4] 36 (0,0)):=blk_setCell hv2 _
 have hcc:(w1.setCell ⟨w.heap.size+1+1,0,none⟩ (.slice A4 l.length c4)).cell? ⟨w.heap.size+1+1,0,none⟩=some (.slice A4 l.length c4):=blk_cell hv9 0
 have b5:Below w.heap.size w (w1.setCell ⟨w.heap.size+1+1,0,none⟩ (.slice A4 l.length c4)):=below_set b4 (by omega)
 have hr5:Kd.R Kd.string 9 (w1.setCell ⟨w.heap.size+1+1,0,none⟩ (.slice A4 l.length c4)) w.heap.size (fun k=>w.heap.size≤k) (.slice A4 l.length c4) l:=Kd.R_of_own (own_setCell hg2 (own_ne hg2 (show w1.heap[w.heap.size+1+1]?=_ from hv2) (by decide)) _) (fun k hk=>own_base hg2 k hk)
 generalize w1.setCell ⟨w.heap.size+1+1,0,none⟩ (.slice A4 l.length c4)=w9 at *
 simp [bodyPost,results,Tryz.results49,go_sem,hcc]
 exact ⟨hr5,b5⟩
end Go.Proofs.YtaafeallcaiooaaGreat.Pr
