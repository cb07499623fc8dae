/- texts: the texts of terms, sorted, each once. -/
import Derived.Shelf.SlGeneric
import Derived.Shelf.SlIter.Nil
import Derived.Shelf.SortM.Plain
import Derived.Shelf.SortM.SortNone
import Derived.Ground.GgzProg
import Derived.Ground.SlgmProg
import Derived.Test.YtaafeallcaiooaaGreatProg
import Derived.Test.YtaafeallcaiooaaGreatHLp
import Derived.Maps.OwnSet
import Derived.Shelf.Sort.Plain
import Derived.Maps.OwnOps
import Derived.Maps.Own
/-
  DERIVED: THE SHELF's CONTRACTS AT THIS DUMP, IN PLAIN WORDS (tools/lay-plain.mjs out of 'TryzItS.lean', which tools/lay-shelf.mjs wrote): THE SAME DECLARATIONS UNDER THE SAME NAMES: 'import', 'namespace', 'open', 'def', 'theorem' AND NOTHING ELSE: no command of the shelf's: FOR A HAND-IN. Each laying: the table of numbers ('.._ren') and one theorem, a field a fact of the dump's own or the kernel's comparison; each contract: ONE APPLICATION.
-/
namespace Go.Proofs
open Go.Shelf
def Tryz.keys133_ren : Go.Shelf.Ren := ⟨fun | 7 => 133 | 10 => 151 | n => n, fun | 23 => 141 | 26 => 9 | 3 => 4 | 28 => 174 | 0 => 0 | 27 => 173 | 33 => 31 | 4 => 4 | n => n, fun | n => n⟩
theorem Tryz.keys133 : Go.Proofs.SlLaysZ.n7 Tryz.prog Tryz.keys133_ren := {
  mixed := by kernel_rfl
  f7 := ⟨Tryz.f133.name, by decide, Tryz.func133.trans (congrArg some (by kernel_rfl))⟩
  f10 := ⟨Tryz.f151.name, by decide, Tryz.func151.trans (congrArg some (by kernel_rfl))⟩
  t0 := Tryz.underlying0
  a0 := Tryz.isAgg0
  z0 := Tryz.sizeOf0
  v0 := Tryz.zeroValue0
  t4 := Tryz.underlying4
  a4 := Tryz.isAgg4
  z4 := Tryz.sizeOf4
  v4 := Tryz.zeroValue4
  t23 := Tryz.underlying141
  a23 := Tryz.isAgg141
  z23 := Tryz.sizeOf141
  v23 := Tryz.zeroValue141
  t26 := Tryz.underlying9
  a26 := Tryz.isAgg9
  z26 := Tryz.sizeOf9
  v26 := Tryz.zeroValue9
  t27 := Tryz.underlying173
  a27 := Tryz.isAgg173
  z27 := Tryz.sizeOf173
  v27 := Tryz.zeroValue173
  t28 := Tryz.underlying174
  a28 := Tryz.isAgg174
  z28 := Tryz.sizeOf174
  v28 := Tryz.zeroValue174
  t33 := Tryz.underlying31
  a33 := Tryz.isAgg31
  z33 := Tryz.sizeOf31
  v33 := Tryz.zeroValue31 }
def Tryz.sorted132_ren : Go.Shelf.Ren := ⟨fun | 6 => 132 | 8 => 149 | 9 => 150 | 11 => 153 | 13 => 155 | 12 => 154 | 23 => 165 | 24 => 166 | 14 => 156 | 15 => 157 | 16 => 158 | 17 => 159 | 18 => 160 | 19 => 161 | 20 => 162 | 21 => 163 | 22 => 164 | 25 => 167 | 26 => 168 | 27 => 169 | 28 => 170 | 29 => 171 | 30 => 172 | 31 => 173 | n => n, fun | 26 => 9 | 28 => 174 | 24 => 36 | 0 => 0 | 3 => 3 | 37 => 139 | 48 => 200 | 50 => 202 | 4 => 4 | 40 => 194 | 39 => 193 | 45 => 167 | 5 => 5 | 9 => 9 | 51 => 203 | 55 => 207 | 57 => 209 | 58 => 210 | 33 => 31 | n => n, fun | n => n⟩
theorem Tryz.sorted132 : Go.Proofs.SlLaysZ.n6 Tryz.prog Tryz.sorted132_ren := {
  mixed := by kernel_rfl
  f6 := ⟨Tryz.f132.name, by decide, Tryz.func132.trans (congrArg some (by kernel_rfl))⟩
  f8 := ⟨Tryz.f149.name, by decide, Tryz.func149.trans (congrArg some (by kernel_rfl))⟩
  f11 := ⟨Tryz.f153.name, by decide, Tryz.func153.trans (congrArg some (by kernel_rfl))⟩
  t0 := Tryz.underlying0
  a0 := Tryz.isAgg0
  z0 := Tryz.sizeOf0
  v0 := Tryz.zeroValue0
  t24 := Tryz.underlying36
  a24 := Tryz.isAgg36
  z24 := Tryz.sizeOf36
  v24 := Tryz.zeroValue36
  t26 := Tryz.underlying9
  a26 := Tryz.isAgg9
  z26 := Tryz.sizeOf9
  v26 := Tryz.zeroValue9
  t28 := Tryz.underlying174
  a28 := Tryz.isAgg174
  z28 := Tryz.sizeOf174
  v28 := Tryz.zeroValue174
  i26 := by kernel_rfl }
def Tryz.sort150_ren : Go.Shelf.Ren := ⟨fun | 6 => 150 | 8 => 155 | 9 => 154 | 19 => 165 | 20 => 166 | 21 => 156 | 22 => 157 | 23 => 158 | 24 => 159 | 25 => 160 | 26 => 161 | 27 => 162 | 28 => 163 | 29 => 164 | 36 => 167 | 31 => 168 | 32 => 169 | 37 => 170 | 38 => 171 | 39 => 172 | 41 => 173 | n => n, fun | 27 => 36 | 29 => 9 | 3 => 3 | 32 => 139 | 26 => 36 | 0 => 0 | 44 => 200 | 46 => 202 | 4 => 4 | 36 => 194 | 35 => 193 | 41 => 167 | 5 => 5 | 9 => 9 | 53 => 203 | 57 => 207 | 63 => 209 | 64 => 210 | n => n, fun | n => n⟩
theorem Tryz.sort150 : Go.Proofs.SlLaysM.n6 Tryz.prog Tryz.sort150_ren := {
  mixed := by kernel_rfl
  f6 := ⟨Tryz.f150.name, by decide, Tryz.func150.trans (congrArg some (by kernel_rfl))⟩
  f8 := Tryz.func155.trans (congrArg some (by kernel_rfl))
  f9 := ⟨Tryz.f154.name, by decide, Tryz.func154.trans (congrArg some (by kernel_rfl))⟩
  f19 := Tryz.func165.trans (congrArg some (by kernel_rfl))
  f20 := Tryz.func166.trans (congrArg some (by kernel_rfl))
  f21 := ⟨Tryz.f156.name, by decide, Tryz.func156.trans (congrArg some (by kernel_rfl))⟩
  f22 := ⟨Tryz.f157.name, by decide, Tryz.func157.trans (congrArg some (by kernel_rfl))⟩
  f23 := ⟨Tryz.f158.name, by decide, Tryz.func158.trans (congrArg some (by kernel_rfl))⟩
  f24 := ⟨Tryz.f159.name, by decide, Tryz.func159.trans (congrArg some (by kernel_rfl))⟩
  f25 := ⟨Tryz.f160.name, by decide, Tryz.func160.trans (congrArg some (by kernel_rfl))⟩
  f26 := ⟨Tryz.f161.name, by decide, Tryz.func161.trans (congrArg some (by kernel_rfl))⟩
  f27 := ⟨Tryz.f162.name, by decide, Tryz.func162.trans (congrArg some (by kernel_rfl))⟩
  f28 := ⟨Tryz.f163.name, by decide, Tryz.func163.trans (congrArg some (by kernel_rfl))⟩
  f29 := ⟨Tryz.f164.name, by decide, Tryz.func164.trans (congrArg some (by kernel_rfl))⟩
  f31 := Tryz.func168.trans (congrArg some (by kernel_rfl))
  f32 := Tryz.func169.trans (congrArg some (by kernel_rfl))
  f36 := ⟨Tryz.f167.name, by decide, Tryz.func167.trans (congrArg some (by kernel_rfl))⟩
  f37 := ⟨Tryz.f170.name, by decide, Tryz.func170.trans (congrArg some (by kernel_rfl))⟩
  f38 := ⟨Tryz.f171.name, by decide, Tryz.func171.trans (congrArg some (by kernel_rfl))⟩
  f39 := ⟨Tryz.f172.name, by decide, Tryz.func172.trans (congrArg some (by kernel_rfl))⟩
  f41 := ⟨Tryz.f173.name, by decide, Tryz.func173.trans (congrArg some (by kernel_rfl))⟩
  t0 := Tryz.underlying0
  a0 := Tryz.isAgg0
  z0 := Tryz.sizeOf0
  v0 := Tryz.zeroValue0
  t3 := Tryz.underlying3
  a3 := Tryz.isAgg3
  z3 := Tryz.sizeOf3
  v3 := Tryz.zeroValue3
  t4 := Tryz.underlying4
  a4 := Tryz.isAgg4
  z4 := Tryz.sizeOf4
  v4 := Tryz.zeroValue4
  t5 := Tryz.underlying5
  a5 := Tryz.isAgg5
  z5 := Tryz.sizeOf5
  v5 := Tryz.zeroValue5
  t9 := Tryz.underlying9
  a9 := Tryz.isAgg9
  z9 := Tryz.sizeOf9
  v9 := Tryz.zeroValue9
  t26 := Tryz.underlying36
  a26 := Tryz.isAgg36
  z26 := Tryz.sizeOf36
  v26 := Tryz.zeroValue36
  t27 := Tryz.underlying36
  a27 := Tryz.isAgg36
  z27 := Tryz.sizeOf36
  v27 := Tryz.zeroValue36
  t29 := Tryz.underlying9
  a29 := Tryz.isAgg9
  z29 := Tryz.sizeOf9
  v29 := Tryz.zeroValue9
  t32 := Tryz.underlying139
  a32 := Tryz.isAgg139
  z32 := Tryz.sizeOf139
  v32 := Tryz.zeroValue139
  t35 := Tryz.underlying193
  a35 := Tryz.isAgg193
  z35 := Tryz.sizeOf193
  v35 := Tryz.zeroValue193
  t36 := Tryz.underlying194
  a36 := Tryz.isAgg194
  z36 := Tryz.sizeOf194
  v36 := Tryz.zeroValue194
  t41 := Tryz.underlying167
  a41 := Tryz.isAgg167
  z41 := Tryz.sizeOf167
  v41 := Tryz.zeroValue167
  t44 := Tryz.underlying200
  a44 := Tryz.isAgg200
  z44 := Tryz.sizeOf200
  v44 := Tryz.zeroValue200
  t46 := Tryz.underlying202
  a46 := Tryz.isAgg202
  z46 := Tryz.sizeOf202
  v46 := Tryz.zeroValue202
  t53 := Tryz.underlying203
  a53 := Tryz.isAgg203
  z53 := Tryz.sizeOf203
  v53 := Tryz.zeroValue203
  t57 := Tryz.underlying207
  a57 := Tryz.isAgg207
  z57 := Tryz.sizeOf207
  v57 := Tryz.zeroValue207
  t63 := Tryz.underlying209
  a63 := Tryz.isAgg209
  z63 := Tryz.sizeOf209
  v63 := Tryz.zeroValue209
  t64 := Tryz.underlying210
  a64 := Tryz.isAgg210
  z64 := Tryz.sizeOf210
  v64 := Tryz.zeroValue210 }
open Go.RowKit Go.Maps Go.Sort in
theorem Tryz.sorts132 (m : Nat) : AnyZ.SortsIn Tryz.prog Tryz.sorted132_ren Fence.wide m :=
  ⟨fun blk off cap ss W hH hblk hsz => callsIn_wide.2 (AnyM.slices_Sort_string Tryz.sort150 blk off cap ss W hH hblk hsz),
   fun p cap W => callsIn_wide.2 (AnyM.slices_Sort_string_none Tryz.sort150 p cap W)⟩
open Go.RowKit Go.Maps Go.Sort in
theorem Tryz.maps_Keys_133 (mb : Option Nat) (W : World) : CallsIn Fence.wide 5 Tryz.prog 133 #[.map mb] W fun e w' => e = .returned (.func (.func 151) #[] #[.pointer (some ⟨W.heap.size, 0, none⟩)]) ∧ w' = W.alloc (.cells #[.map mb] 141) :=
  AnyZ.keys_in Tryz.keys133 Fence.wide 5 trivial rfl mb W
open Go.RowKit Go.Maps Go.Sort in
theorem Tryz.slices_Sorted_keys_132_133 {H : Type} (b nn : Nat) (D0 : DataW H) (R : Value → Option (DataW H × List MemPlace)) (w : World) (hown : w.ownsMap Tryz.prog 9 R b nn D0) (hmax : Maps.size D0 ≤ maxLen) (hbytes : Maps.size D0 * 16 ≤ 140737488355328) :
    CallsIn Fence.wide 5 Tryz.prog 132 #[.func (.func 151) #[] #[.pointer (some ⟨w.heap.size, 0, none⟩)]] (w.alloc (.cells #[.map (some b)] 141)) fun e w' => ∃ (v : Value) (ss : List (List UInt8)), e = .returned v ∧ ss.Perm (strKeys D0) ∧
      w'.ownsRow (w.alloc (.cells #[.map (some b)] 141)).heap.size 9 1 v ss.length ((ss.mergeSort (fun x y => decide (x ≤ y))).map encStr) ∧ (v = .slice none 0 0 ↔ ss = []) ∧ Below (w.alloc (.cells #[.map (some b)] 141)).heap.size (w.alloc (.cells #[.map (some b)] 141)) w' := by
  have hbl := hown.lt
  have hseq : SeqGives Fence.wide 2 Tryz.prog 151 #[.pointer (some ⟨w.heap.size, 0, none⟩)] encStr (fun ss => ss.Perm (strKeys D0)) (Maps.size D0) (w.alloc (.cells #[.map (some b)] 141)) :=
    AnyZ.keys_gives (ρ := Tryz.keys133_ren) { Tryz.keys133 with } Fence.wide _ trivial rfl (by omega) w.heap.size b nn D0 _ (by simp) (by simp) (by
      obtain ⟨es, clock, hb, Ft, hs, hD⟩ := hown
      exact ⟨es, clock, (Below.heap_alloc _ _ b hbl).trans hb, Ft, hs, hD⟩)
  exact AnyZ.sorted_in Tryz.sorted132 Fence.wide 5 trivial trivial trivial trivial rfl (by omega) (Tryz.sorts132 _) (enters_of Tryz.func150 (by kernel_rfl) rfl) 151 #[.pointer (some ⟨w.heap.size, 0, none⟩)] trivial (enters_of Tryz.func151 (by kernel_rfl) rfl) _ _ hmax hbytes _ hseq
end Go.Proofs
/- strings in ascending order, each once. -/
namespace Go.Proofs.YtaafeallcaiooaaGreat.Pr
open Go.RowKit Go.WideMaps Go.Sort Go.Maps Go.Proofs.YtaafeallcaiooaaGreatW.PrintWords Go.Proofs.YtaafeallcaiooaaGreatW.PrintLast Go.Proofs.YtaafeallcaiooaaGreatW.PrintMore
set_option linter.unusedVariables false
set_option linter.unusedSimpArgs false
/-- the order of strings -/
def leS (x y : ByteArray) : Prop := x.data.toList ≤ y.data.toList
theorem less_iff (x y : ByteArray) : Op.bytesLess x.toList y.toList = true ↔ x.data.toList < y.data.toList := by
  rw [bytesLess_eq, ByteArray.toList_eq, ByteArray.toList_eq, decide_eq_true_iff]
theorem not_less_iff (x y : ByteArray) : ¬ Op.bytesLess x.toList y.toList = true ↔ leS y x := by
  rw [less_iff]; exact List.not_lt
theorem leS_antisymm {x y : ByteArray} (h : leS x y) (k : leS y x) : x = y := by
  have := List.le_antisymm h k
  cases x; cases y
  simp at this
  rw [this]
def bytesS (x : ByteArray) : List UInt8 := x.data.toList
def ofBytes (l : List UInt8) : ByteArray := ⟨l.toArray⟩
theorem ofBytes_bytes (x : ByteArray) : ofBytes (bytesS x) = x := by cases x; rfl
def insD (x : ByteArray) : List ByteArray → List ByteArray
  | [] => [x]
  | y :: l => if Op.bytesLess y.toList x.toList = true then y :: insD x l else if y = x then y :: l else x :: y :: l
def ltS (x y : ByteArray) : Prop := Op.bytesLess x.toList y.toList = true
theorem ltS_iff (x y : ByteArray) : ltS x y ↔ leS x y ∧ x ≠ y := by
  unfold ltS leS
  rw [less_iff]
  constructor
  · intro h
    exact ⟨List.le_of_lt h, fun e => by subst e; exact List.lt_irrefl _ h⟩
  · rintro ⟨h, hne⟩
    refine Decidable.byContradiction fun hn => hne ?_
    exact leS_antisymm h (List.not_lt.1 hn)
theorem ltS_trans {x y z : ByteArray} (h : ltS x y) (k : ltS y z) : ltS x z := by
  unfold ltS at *
  rw [less_iff] at *
  exact List.lt_trans h k
theorem mem_insD {t x : ByteArray} : ∀ {l : List ByteArray}, t ∈ insD x l ↔ t = x ∨ t ∈ l
  | [] => by simp [insD]
  | y :: l => by
    rw [insD]
    split
    · rw [List.mem_cons, mem_insD, List.mem_cons]
      constructor
      · rintro (h | h | h) <;> simp [h]
      · rintro (h | h | h) <;> simp [h]
    · split
      · rename_i e
        subst e
        simp only [List.mem_cons]
        constructor
        · exact .inr
        · rintro (h | h)
          · exact .inl h
          · exact h
      · simp only [List.mem_cons]
theorem insD_sorted (x : ByteArray) : ∀ {l : List ByteArray}, l.Pairwise ltS → (insD x l).Pairwise ltS
  | [], _ => by simp [insD]
  | y :: l, h => by
    have hy := List.pairwise_cons.1 h
    rw [insD]
    split
    · rename_i hlt
      refine List.pairwise_cons.2 ⟨fun z hz => ?_, insD_sorted x hy.2⟩
      rcases mem_insD.1 hz with rfl | hz
      · exact hlt
      · exact hy.1 z hz
    · split
      · exact h
      · rename_i hlt hne
        have hxy : ltS x y := (ltS_iff _ _).2 ⟨(not_less_iff _ _).1 hlt, fun e => hne e.symm⟩
        refine List.pairwise_cons.2 ⟨fun z hz => ?_, h⟩
        rcases List.mem_cons.1 hz with rfl | hz
        · exact hxy
        · exact ltS_trans hxy (hy.1 z hz)
theorem insD_len (x : ByteArray) : ∀ l : List ByteArray, (insD x l).length ≤ l.length + 1
  | [] => by simp [insD]
  | y :: l => by
    have := insD_len x l
    rw [insD]
    split
    · simp only [List.length_cons]; omega
    · split <;> simp
theorem law9 : Keyed Tryz.prog 9 := string_keyed Tryz.underlying9
def keyS (t : ByteArray) : Lit := .string t.data.toList
theorem keyS_ok (t : ByteArray) (h : t.size ≤ maxLen) : keyOf Tryz.prog 9 (.string t) = some (keyS t) := keyOf_string_mk Tryz.underlying9 h

theorem keyS_inj {t u : ByteArray} (h : keyS t = keyS u) : t = u := by
  unfold keyS at h
  injection h with h
  exact Go.WideShapes.bytes_inj h
theorem keyLit (t : ByteArray) : Go.WideAt.IsKeyLit (keyS t) := trivial
/-- the texts of terms, sorted, each once -/
def textsT : List Tm → List ByteArray
  | [] => []
  | t :: l => insD t.text (textsT l)
theorem textsT_sorted : ∀ l, (textsT l).Pairwise ltS
  | [] => .nil
  | t :: l => insD_sorted _ (textsT_sorted l)
theorem mem_textsT {x : ByteArray} : ∀ {l : List Tm}, x ∈ textsT l ↔ ∃ t, t ∈ l ∧ t.text = x
  | [] => by simp [textsT]
  | t :: l => by
    rw [textsT, mem_insD, mem_textsT]
    constructor
    · rintro (h | ⟨u, hu, h⟩)
      · exact ⟨t, List.mem_cons_self, h.symm⟩
      · exact ⟨u, List.mem_cons_of_mem _ hu, h⟩
    · rintro ⟨u, hu, h⟩
      rcases List.mem_cons.1 hu with rfl | hu
      · exact .inl h.symm
      · exact .inr ⟨u, hu, h⟩
theorem textsT_len : ∀ l, (textsT l).length ≤ l.length
  | [] => by simp [textsT]
  | t :: l => by
    have := textsT_len l
    have := insD_len t.text (textsT l)
    rw [textsT, List.length_cons]; omega
/-- the map of texts behind k terms -/
def txG {H : Type} (l : List Tm) : Nat → DataW H
  | 0 => .map []
  | k + 1 => (txG l k).put (keyS (l.getD k (.var 0)).text) (.lit (.bool true))
theorem txG_isMap {H : Type} (l : List Tm) : ∀ k, IsMap (txG (H := H) l k)
  | 0 => ⟨_, rfl⟩
  | k + 1 => (txG_isMap l k).put _ _
theorem txG_has {H : Type} (l : List Tm) (x : ByteArray) : ∀ k, Maps.has (txG (H := H) l k) (keyS x) = true ↔ ∃ j, j < k ∧ (l.getD j (.var 0)).text = x
  | 0 => by
    constructor
    · intro h; cases h
    · rintro ⟨j, hj, _⟩; omega
  | k + 1 => by
    rw [txG]
    by_cases e : (l.getD k (.var 0)).text = x
    · subst e
      rw [has_put_same (txG_isMap l k) (keyLit _)]
      exact ⟨fun _ => ⟨k, by omega, rfl⟩, fun _ => rfl⟩
    · rw [has_put_other (fun h => e (keyS_inj h).symm), txG_has l x k]
      constructor
      · rintro ⟨j, hj, h⟩; exact ⟨j, by omega, h⟩
      · rintro ⟨j, hj, h⟩
        have : j ≠ k := fun h' => e (h' ▸ h)
        exact ⟨j, by omega, h⟩
theorem keys_perm {H : Type} {w : World} {R : Value → Option (DataW H × List MemPlace)} {b nn : Nat} {l : List Tm} (hown : w.ownsMap Tryz.prog 9 R b nn (txG l l.length)) : ((textsT l).map bytesS).Perm (strKeys (txG (H := H) l l.length)) := by
  have hC : Collected (txG (H := H) l l.length) (fun _ => false) ((textsT l).map bytesS) := by
    refine ⟨List.pairwise_map.2 ((textsT_sorted l).imp (fun {a b} h e => ?_)), fun x => ?_⟩
    · exact ((ltS_iff _ _).1 h).2 (by have := congrArg ofBytes e; rwa [ofBytes_bytes, ofBytes_bytes] at this)
    · have hk : (Lit.string x) = keyS (ofBytes x) := rfl
      rw [hk, txG_has, List.mem_map]
      constructor
      · rintro ⟨t, ht, rfl⟩
        obtain ⟨u, hu, h⟩ := mem_textsT.1 ht
        obtain ⟨j, hj, rfl⟩ := List.getElem_of_mem hu
        exact ⟨⟨j, hj, by rw [ofBytes_bytes, List.getD_eq_getElem?_getD, List.getElem?_eq_getElem hj]; exact h⟩, rfl⟩
      · rintro ⟨⟨j, hj, h⟩, _⟩
        rw [List.getD_eq_getElem?_getD, List.getElem?_eq_getElem hj] at h
        exact ⟨ofBytes x, mem_textsT.2 ⟨_, List.getElem_mem hj, h⟩, rfl⟩
  exact hC.perm hown law9 Tryz.underlying9 (fun _ => rfl)
theorem size_txG {H : Type} {w : World} {R : Value → Option (DataW H × List MemPlace)} {b nn : Nat} {l : List Tm} (hown : w.ownsMap Tryz.prog 9 R b nn (txG l l.length)) : Maps.size (txG (H := H) l l.length) = (textsT l).length := by
  have := (keys_perm hown).length_eq
  rw [List.length_map] at this
  rw [this]
  obtain ⟨es, e⟩ := txG_isMap (H := H) l l.length
  rw [e]
  simp [Maps.size, strKeys]
theorem sort_texts {l : List Tm} {ss : List (List UInt8)} (h : ss.Perm ((textsT l).map bytesS)) : ss.mergeSort (fun x y => decide (x ≤ y)) = (textsT l).map bytesS := by
  have h1 := List.pairwise_mergeSort (le := fun x y : List UInt8 => decide (x ≤ y)) (fun a b c h1 h2 => by simp at h1 h2 ⊢; exact List.le_trans h1 h2) (fun a b => by simp; exact List.le_total a b) ss
  have h2 : (ss.mergeSort (fun x y => decide (x ≤ y))).Pairwise (fun x y : List UInt8 => x ≤ y) := h1.imp (fun h => by simpa using h)
  have h3 : ((textsT l).map bytesS).Pairwise (fun x y : List UInt8 => x ≤ y) := List.pairwise_map.2 ((textsT_sorted l).imp (fun h => ((ltS_iff _ _).1 h).1))
  exact List.Perm.eq_of_pairwise (le := fun x y : List UInt8 => x ≤ y) (fun a b _ _ h1 h2 => List.le_antisymm h1 h2) h2 h3 ((List.mergeSort_perm _ _).trans h)
end Go.Proofs.YtaafeallcaiooaaGreat.Pr
namespace Go.Proofs.YtaafeallcaiooaaGreat.Pr
open Go.RowKit Go.WideMaps Go.Maps Go.Sort Go.Shelf Go.Proofs.YtaafeallcaiooaaGreatW.PrintWords Go.Proofs.YtaafeallcaiooaaGreatW.PrintLast Go.Proofs.YtaafeallcaiooaaGreatW.PrintMore
set_option linter.unusedVariables false
set_option linter.unusedSimpArgs false
theorem text_size_le (t : Tm) (h : t.size ≤ 1000) : t.text.size ≤ 4000 := by
  have := tx_le t
  have e : t.text.size = t.tx.length := by simp [Tm.text, ByteArray.size]
  rw [e]
  omega
/-- what slices.Sorted(maps.Keys(m)) does -/
def SortsKeys (l : List Tm) : Prop := ∀ (b nn : Nat) (w : World), w.ownsMap (H := Unit) Tryz.prog 9 (plainElem Tryz.prog 4) b nn (txG l l.length) →
  Calls Tryz.prog 132 #[.func (.func 151) #[] #[.pointer (some ⟨w.heap.size, 0, none⟩)]] (w.alloc (.cells #[.map (some b)] 141)) fun e w' => ∃ v : Value, e = .returned v ∧ Kd.R Kd.string 9 w' (w.heap.size + 1) (fun _ => True) v (textsT l) ∧ Below (w.heap.size + 1) (w.alloc (.cells #[.map (some b)] 141)) w'
def KeysOf : Prop := ∀ (b : Nat) (w : World), Calls Tryz.prog 133 #[.map (some b)] w fun e w' => e = .returned (.func (.func 151) #[] #[.pointer (some ⟨w.heap.size, 0, none⟩)]) ∧ w' = w.alloc (.cells #[.map (some b)] 141)
set_option maxHeartbeats 1000000 in
set_option maxRecDepth 100000 in
theorem texts_calls0 (l : List Tm) (hK : KeysOf) (hS : SortsKeys l) (hg : ∀ t, t ∈ l → t.good ∧ t.size ≤ 1000) (hln : l.length ≤ 1000000) (A : Option Addr) (cap : Nat) (w : World) (ok : Nat → Prop) (hL : HasL w ok l A 0) :
    Calls Tryz.prog 98 #[.slice A l.length cap] w fun e w' => ∃ v, e = .returned v ∧ Kd.R Kd.string 9 w' w.heap.size (fun k => w.heap.size ≤ k) v (textsT l) ∧ Below w.heap.size w w' := by
  have hmm := @run_makeMap Tryz.prog
  have HP := Aside0.mk (And.intro hK (And.intro hS (And.intro hg (And.intro hln hL))))
  clear hK hS hg hln hL
  go_enter Tryz.func98, Tryz.ntmps98
  go_wp2
  go_loopw [9] (fun v9 wr => ∃ i : Nat, v9 = .int .i64 (i : Int) ∧ Aside0 (i ≤ l.length) ∧ Aside0 (wr.ownsMap (H := Unit) Tryz.prog 9 (plainElem Tryz.prog 4) w.heap.size i (txG l i)) ∧ Aside0 (Below w.heap.size w wr)) (fun v9 _ => l.length - (intOf v9).toNat)
  case atStart => exact ⟨0, rfl, ⟨Nat.zero_le _⟩, ⟨World.ownsMap_made _ _ _ _⟩, ⟨below_alloc (Below.refl _ _) _⟩⟩
  case round =>
    obtain ⟨i, rfl, HI, HO, HB⟩ := hrel
    obtain ⟨hK, hS, hg, hln, hL⟩ := HP.out
    by_cases hlt : i < l.length
    · have hlb : decide ((i : Int) < (l.length : Int)) = true := decide_eq_true (by omega)
      obtain ⟨g, cs, q, rfl, _, hgc, hcs, hq⟩ := hL.get i hlt
      rw [Nat.zero_add] at hcs
      have hgb := (HB.out.block g (Array.getElem?_eq_some_iff.1 hgc).1).trans hgc
      have hcell : wr.cell? ⟨g, i, none⟩ = some (encI q) := (blk_cell hgb i).trans hcs
      have hq2 := hq.below HB.out
      obtain ⟨hg1, hg2⟩ := hg _ (List.getElem_mem hlt)
      have hgd : l.getD i (.var 0) = l[i] := by rw [List.getD_eq_getElem?_getD, List.getElem?_eq_getElem hlt]; rfl
      have HG := Aside0.mk (show txG (H := Unit) l (i + 1) = (txG l i).put (keyS l[i].text) (.lit (.bool true)) by rw [txG, hgd])
      have HC := Aside0.mk (text_calls l[i] q wr ok hq2 hg1 (by omega))
      have HK := Aside0.mk (keyS_ok l[i].text (Nat.le_trans (text_size_le _ hg2) (by unfold maxLen; decide)))
      have HN := Aside0.mk (show i < maxLen by unfold maxLen; omega)
      have hw1 : wrap64 ((i : Int) + 1) = (i : Int) + 1 := wrS (by omega) (by omega)
      clear hK hS hg hln hL hgc hcs hq hgb hg1 hg2 hgd HI
      generalize l[i] = x at *
      obtain ⟨tid, pv⟩ := q
      obtain ⟨F, hF⟩ : ∃ F, F = txF (tid, pv) := ⟨_, rfl⟩
      have hm1 : ∀ w, (method 337 tid pv "numnah/rules.text").run Tryz.prog w = .ok (F, pv) w := hF ▸ meth_text hq2
      have hm2 : ∀ args w, (callFunc F args).run Tryz.prog w = .ok (.enter F args) w := hF ▸ enters_text hq2
      clear hq2
      rw [← hF] at HC
      clear hF
      unfold encI at hcell
      generalize x.text = xt at *
      go_wp2_with (first
        | (at_mapUpdate; refine wpList_mapUpdate_own _ rfl _ _ _ 141 rfl 9 4 law9 Tryz.underlying141 (plainElem Tryz.prog 4) w.heap.size i (txG l i) rfl HM.out HN.out _ _ (keyS xt) rfl rfl HK.out (.lit (.bool true)) [] (plainElem_bool Tryz.underlying4 true) ?_; intro w3 hown hgrow; have H3 := Aside0.mk (And.intro hown hgrow); clear hown hgrow)
        | (refine HC.out.mono ?_; rintro e w2 ⟨rfl, hb⟩; have HM := Aside0.mk (HO.out.kept (Go.Proofs.YtaafeallcaiooaaGreatW.PrintWords.grown_of_below hb none) (by simp)); have HB2 := Aside0.mk (below_on HB.out hb); clear hb))
      rw [hw1]
      refine ⟨⟨i + 1, rfl, ⟨hlt⟩, ⟨?_⟩, ⟨HB2.out.grown H3.out.2 (by have := HB2.out.size; exact this) (fun j hj => by cases hj; exact Nat.le_refl _)⟩⟩, ?_⟩
      · rw [HG.out]
        exact H3.out.1
      · simp only [intOf]
        clear hw1
        omega
    · have hlb : decide ((i : Int) < (l.length : Int)) = false := decide_eq_false (by omega)
      have e : i = l.length := by have := HI.out; omega
      subst e
      have HK := Aside0.mk (hK w.heap.size wr)
      have HS := Aside0.mk (hS w.heap.size _ wr HO.out)
      clear hK hS hg hln hL hlb hlt
      go_wp2_with (first
        | (go_at_call 133; refine HK.out.mono ?_; rintro e w2 ⟨rfl, h2⟩; subst w2)
        | (go_at_call 132; refine HS.out.mono ?_; rintro e w3 ⟨v, rfl, hr, hb⟩; have H3 := Aside0.mk (And.intro hr hb); clear hr hb))
      go_ret
      have hs := HB.out.size
      have hb3 : Below w.heap.size w w3 := HB.out.trans (((below_alloc (Below.refl _ _) (.cells #[.map (some w.heap.size)] 141)).mono hs).trans (H3.out.2.mono (by omega)))
      have ho := own_weaken (Kd.own_of_R H3.out.1) (show w.heap.size ≤ wr.heap.size + 1 by omega)
      exact ⟨v, rfl, Kd.R_of_own ho (fun k hk => own_base ho k hk), hb3⟩
theorem keysOf_holds : KeysOf := fun b w => callsIn_wide.1 (Tryz.maps_Keys_133 (some b) w)
theorem sortsKeys_holds (l : List Tm) (hln : l.length ≤ 1000000) : SortsKeys l := by
  intro b nn w hm
  have hsz := size_txG hm
  have hl := textsT_len l
  refine (callsIn_wide.1 (Tryz.slices_Sorted_keys_132_133 b nn _ _ w hm (by unfold maxLen; omega) (by omega))).mono ?_
  rintro e w' ⟨v, ss, rfl, hp, hrow, _, hb⟩
  have hs2 := sort_texts (hp.trans (keys_perm hm).symm)
  have hlen : ss.length = (textsT l).length := by rw [(hp.trans (keys_perm hm).symm).length_eq, List.length_map]
  rw [hs2, hlen, List.map_map, show (fun l => encStr l) ∘ bytesS = Value.string from rfl] at hrow
  rw [World.size_alloc] at hrow hb
  exact ⟨v, rfl, Kd.R_of_own (enc := Value.string) (h1 := fun _ => rfl) hrow (fun _ _ => trivial), hb⟩
theorem texts_calls (l : List Tm) (hg : ∀ t, t ∈ l → t.good ∧ t.size ≤ 1000) (hln : l.length ≤ 1000000) (A : Option Addr) (cap : Nat) (w : World) (ok : Nat → Prop) (hL : HasL w ok l A 0) :
    Calls Tryz.prog 98 #[.slice A l.length cap] w fun e w' => ∃ v, e = .returned v ∧ Kd.R Kd.string 9 w' w.heap.size (fun k => w.heap.size ≤ k) v (textsT l) ∧ Below w.heap.size w w' :=
  texts_calls0 l keysOf_holds (sortsKeys_holds l hln) hg hln A cap w ok hL
end Go.Proofs.YtaafeallcaiooaaGreat.Pr
