/-
  DERIVED: THE SHELF's CONTRACTS AT THIS DUMP, IN PLAIN WORDS (tools/lay-plain.mjs out of 'TryzItS.lean', which tools/lay-shelf.mjs wrote): THE SAME DECLARATIONS UNDER THE SAME NAMES: 'import', 'namespace', 'open', 'def', 'theorem' AND NOTHING ELSE: no command of the shelf's: FOR A HAND-IN. Each laying: the table of numbers ('.._ren') and one theorem, a field a fact of the dump's own or the kernel's comparison; each contract: ONE APPLICATION.
-/
import Derived.Shelf.SlGeneric
import Derived.Shelf.SlIter.Nil
import Derived.Shelf.SortM.Plain
import Derived.Shelf.SortM.SortNone
import Derived.Ground.GgzProg
import Derived.Ground.SlgmProg
import Derived.Test.YtaafeallcaiooaaGreatProg
namespace Go.Proofs
open Go.Shelf
def Tryz.keys133_ren:Go.Shelf.Ren:=⟨fun|7=>133|10=>151|n=>n,fun|23=>141|26=>9|3=>4|28=>174|0=>0|27=>173|33=>31|4=>4|n=>n,fun|n=>n⟩
theorem Tryz.keys133:Go.Proofs.SlLaysZ.n7 Tryz.prog Tryz.keys133_ren:={
  mixed:=by kernel_rfl
  f7:=⟨Tryz.f133.name,by decide,Tryz.func133.trans (congrArg some (by kernel_rfl))⟩
  f10:=⟨Tryz.f151.name,by decide,Tryz.func151.trans (congrArg some (by kernel_rfl))⟩
  t0:=Tryz.underlying0
  a0:=Tryz.isAgg0
  z0:=Tryz.sizeOf0
  v0:=Tryz.zeroValue0
  t4:=Tryz.underlying4
  a4:=Tryz.isAgg4
  z4:=Tryz.sizeOf4
  v4:=Tryz.zeroValue4
  t23:=Tryz.underlying141
  a23:=Tryz.isAgg141
  z23:=Tryz.sizeOf141
  v23:=Tryz.zeroValue141
  t26:=Tryz.underlying9
  a26:=Tryz.isAgg9
  z26:=Tryz.sizeOf9
  v26:=Tryz.zeroValue9
  t27:=Tryz.underlying173
  a27:=Tryz.isAgg173
  z27:=Tryz.sizeOf173
  v27:=Tryz.zeroValue173
  t28:=Tryz.underlying174
  a28:=Tryz.isAgg174
  z28:=Tryz.sizeOf174
  v28:=Tryz.zeroValue174
  t33:=Tryz.underlying31
  a33:=Tryz.isAgg31
  z33:=Tryz.sizeOf31
  v33:=Tryz.zeroValue31 }
def Tryz.sorted132_ren:Go.Shelf.Ren:=⟨fun|6=>132|8=>149|9=>150|11=>153|13=>155|12=>154|23=>165|24=>166|14=>156|15=>157|16=>158|17=>159|18=>160|19=>161|20=>162|21=>163|22=>164|25=>167|26=>168|27=>169|28=>170|29=>171|30=>172|31=>173|n=>n,fun|26=>9|28=>174|24=>36|0=>0|3=>3|37=>139|48=>200|50=>202|4=>4|40=>194|39=>193|45=>167|5=>5|9=>9|51=>203|55=>207|57=>209|58=>210|33=>31|n=>n,fun|n=>n⟩
theorem Tryz.sorted132:Go.Proofs.SlLaysZ.n6 Tryz.prog Tryz.sorted132_ren:={
  mixed:=by kernel_rfl
  f6:=⟨Tryz.f132.name,by decide,Tryz.func132.trans (congrArg some (by kernel_rfl))⟩
  f8:=⟨Tryz.f149.name,by decide,Tryz.func149.trans (congrArg some (by kernel_rfl))⟩
  f11:=⟨Tryz.f153.name,by decide,Tryz.func153.trans (congrArg some (by kernel_rfl))⟩
  t0:=Tryz.underlying0
  a0:=Tryz.isAgg0
  z0:=Tryz.sizeOf0
  v0:=Tryz.zeroValue0
  t24:=Tryz.underlying36
  a24:=Tryz.isAgg36
  z24:=Tryz.sizeOf36
  v24:=Tryz.zeroValue36
  t26:=Tryz.underlying9
  a26:=Tryz.isAgg9
  z26:=Tryz.sizeOf9
  v26:=Tryz.zeroValue9
  t28:=Tryz.underlying174
  a28:=Tryz.isAgg174
  z28:=Tryz.sizeOf174
  v28:=Tryz.zeroValue174
  i26:=by kernel_rfl }
def Tryz.sort150_ren:Go.Shelf.Ren:=⟨fun|6=>150|8=>155|9=>154|19=>165|20=>166|21=>156|22=>157|23=>158|24=>159|25=>160|26=>161|27=>162|28=>163|29=>164|36=>167|31=>168|32=>169|37=>170|38=>171|39=>172|41=>173|n=>n,fun|27=>36|29=>9|3=>3|32=>139|26=>36|0=>0|44=>200|46=>202|4=>4|36=>194|35=>193|41=>167|5=>5|9=>9|53=>203|57=>207|63=>209|64=>210|n=>n,fun|n=>n⟩
theorem Tryz.sort150:Go.Proofs.SlLaysM.n6 Tryz.prog Tryz.sort150_ren:={
  mixed:=by kernel_rfl
  f6:=⟨Tryz.f150.name,by decide,Tryz.func150.trans (congrArg some (by kernel_rfl))⟩
  f8:=Tryz.func155.trans (congrArg some (by kernel_rfl))
  f9:=⟨Tryz.f154.name,by decide,Tryz.func154.trans (congrArg some (by kernel_rfl))⟩
  f19:=Tryz.func165.trans (congrArg some (by kernel_rfl))
  f20:=Tryz.func166.trans (congrArg some (by kernel_rfl))
  f21:=⟨Tryz.f156.name,by decide,Tryz.func156.trans (congrArg some (by kernel_rfl))⟩
  f22:=⟨Tryz.f157.name,by decide,Tryz.func157.trans (congrArg some (by kernel_rfl))⟩
  f23:=⟨Tryz.f158.name,by decide,Tryz.func158.trans (congrArg some (by kernel_rfl))⟩
  f24:=⟨Tryz.f159.name,by decide,Tryz.func159.trans (congrArg some (by kernel_rfl))⟩
  f25:=⟨Tryz.f160.name,by decide,Tryz.func160.trans (congrArg some (by kernel_rfl))⟩
  f26:=⟨Tryz.f161.name,by decide,Tryz.func161.trans (congrArg some (by kernel_rfl))⟩
  f27:=⟨Tryz.f162.name,by decide,Tryz.func162.trans (congrArg some (by kernel_rfl))⟩
  f28:=⟨Tryz.f163.name,by decide,Tryz.func163.trans (congrArg some (by kernel_rfl))⟩
  f29:=⟨Tryz.f164.name,by decide,Tryz.func164.trans (congrArg some (by kernel_rfl))⟩
  f31:=Tryz.func168.trans (congrArg some (by kernel_rfl))
  f32:=Tryz.func169.trans (congrArg some (by kernel_rfl))
  f36:=⟨Tryz.f167.name,by decide,Tryz.func167.trans (congrArg some (by kernel_rfl))⟩
  f37:=⟨Tryz.f170.name,by decide,Tryz.func170.trans (congrArg some (by kernel_rfl))⟩
  f38:=⟨Tryz.f171.name,by decide,Tryz.func171.trans (congrArg some (by kernel_rfl))⟩
  f39:=⟨Tryz.f172.name,by decide,Tryz.func172.trans (congrArg some (by kernel_rfl))⟩
  f41:=⟨Tryz.f173.name,by decide,Tryz.func173.trans (congrArg some (by kernel_rfl))⟩
  t0:=Tryz.underlying0
  a0:=Tryz.isAgg0
  z0:=Tryz.sizeOf0
  v0:=Tryz.zeroValue0
  t3:=Tryz.underlying3
  a3:=Tryz.isAgg3
  z3:=Tryz.sizeOf3
  v3:=Tryz.zeroValue3
  t4:=Tryz.underlying4
  a4:=Tryz.isAgg4
  z4:=Tryz.sizeOf4
  v4:=Tryz.zeroValue4
  t5:=Tryz.underlying5
  a5:=Tryz.isAgg5
  z5:=Tryz.sizeOf5
  v5:=Tryz.zeroValue5
  t9:=Tryz.underlying9
  a9:=Tryz.isAgg9
  z9:=Tryz.sizeOf9
  v9:=Tryz.zeroValue9
  t26:=Tryz.underlying36
  a26:=Tryz.isAgg36
  z26:=Tryz.sizeOf36
  v26:=Tryz.zeroValue36
  t27:=Tryz.underlying36
  a27:=Tryz.isAgg36
  z27:=Tryz.sizeOf36
  v27:=Tryz.zeroValue36
  t29:=Tryz.underlying9
  a29:=Tryz.isAgg9
  z29:=Tryz.sizeOf9
  v29:=Tryz.zeroValue9
  t32:=Tryz.underlying139
  a32:=Tryz.isAgg139
  z32:=Tryz.sizeOf139
  v32:=Tryz.zeroValue139
  t35:=Tryz.underlying193
  a35:=Tryz.isAgg193
  z35:=Tryz.sizeOf193
  v35:=Tryz.zeroValue193
  t36:=Tryz.underlying194
  a36:=Tryz.isAgg194
  z36:=Tryz.sizeOf194
  v36:=Tryz.zeroValue194
  t41:=Tryz.underlying167
  a41:=Tryz.isAgg167
  z41:=Tryz.sizeOf167
  v41:=Tryz.zeroValue167
  t44:=Tryz.underlying200
  a44:=Tryz.isAgg200
  z44:=Tryz.sizeOf200
  v44:=Tryz.zeroValue200
  t46:=Tryz.underlying202
  a46:=Tryz.isAgg202
  z46:=Tryz.sizeOf202
  v46:=Tryz.zeroValue202
  t53:=Tryz.underlying203
  a53:=Tryz.isAgg203
  z53:=Tryz.sizeOf203
  v53:=Tryz.zeroValue203
  t57:=Tryz.underlying207
  a57:=Tryz.isAgg207
  z57:=Tryz.sizeOf207
  v57:=Tryz.zeroValue207
  t63:=Tryz.underlying209
  a63:=Tryz.isAgg209
  z63:=Tryz.sizeOf209
  v63:=Tryz.zeroValue209
  t64:=Tryz.underlying210
  a64:=Tryz.isAgg210
  z64:=Tryz.sizeOf210
  v64:=Tryz.zeroValue210 }
open Go.RowKit Go.Maps Go.Sort in
theorem Tryz.sorts132 (m:Nat):AnyZ.SortsIn Tryz.prog Tryz.sorted132_ren Fence.wide m :=
  ⟨fun blk off cap ss W hH hblk hsz=>callsIn_wide.2 (AnyM.slices_Sort_string Tryz.sort150 blk off cap ss W hH hblk hsz),
   fun p cap W=>callsIn_wide.2 (AnyM.slices_Sort_string_none Tryz.sort150 p cap W)⟩
open Go.RowKit Go.Maps Go.Sort in
theorem Tryz.maps_Keys_133 (mb:Option Nat) (W:World):CallsIn Fence.wide 5 Tryz.prog 133 #[.map mb] W fun e w'=>e=.returned (.func (.func 151) #[] #[.pointer (some ⟨W.heap.size,0,none⟩)])∧w'=W.alloc (.cells #[.map mb] 141) :=
  AnyZ.keys_in Tryz.keys133 Fence.wide 5 trivial rfl mb W
open Go.RowKit Go.Maps Go.Sort in
theorem Tryz.slices_Sorted_keys_132_133 {H:Type} (b nn:Nat) (D0:DataW H) (R:Value→Option (DataW H × List MemPlace)) (w:World) (hown:w.ownsMap Tryz.prog 9 R b nn D0) (hmax:Maps.size D0≤maxLen) (hbytes:Maps.size D0 * 16≤140737488355328) :
    CallsIn Fence.wide 5 Tryz.prog 132 #[.func (.func 151) #[] #[.pointer (some ⟨w.heap.size,0,none⟩)]] (w.alloc (.cells #[.map (some b)] 141)) fun e w'=>∃ (v:Value) (ss:List (List UInt8)),e=.returned v∧ss.Perm (strKeys D0) ∧
      w'.ownsRow (w.alloc (.cells #[.map (some b)] 141)).heap.size 9 1 v ss.length ((ss.mergeSort (fun x y=>decide (x≤y))).map encStr)∧(v=.slice none 0 0↔ss=[])∧Below (w.alloc (.cells #[.map (some b)] 141)).heap.size (w.alloc (.cells #[.map (some b)] 141)) w':=by
  have hbl:=hown.lt
  have hseq:SeqGives Fence.wide 2 Tryz.prog 151 #[.pointer (some ⟨w.heap.size,0,none⟩)] encStr (fun ss=>ss.Perm (strKeys D0)) (Maps.size D0) (w.alloc (.cells #[.map (some b)] 141)) :=
    AnyZ.keys_gives (ρ:=Tryz.keys133_ren) { Tryz.keys133 with } Fence.wide _ trivial rfl (by omega) w.heap.size b nn D0 _ (by simp) (by simp) (by
      obtain ⟨es,clock,hb,Ft,hs,hD⟩:=hown
      exact ⟨es,clock,(Below.heap_alloc _ _ b hbl).trans hb,Ft,hs,hD⟩)
  exact AnyZ.sorted_in Tryz.sorted132 Fence.wide 5 trivial trivial trivial trivial rfl (by omega) (Tryz.sorts132 _) (enters_of Tryz.func150 (by kernel_rfl) rfl) 151 #[.pointer (some ⟨w.heap.size,0,none⟩)] trivial (enters_of Tryz.func151 (by kernel_rfl) rfl) _ _ hmax hbytes _ hseq
end Go.Proofs
