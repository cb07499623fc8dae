/- The map of substrings: its keys in ascending order, and the positions at each key. -/
import Derived.Shelf.SlGeneric
import Derived.Shelf.SlIter.Nil
import Derived.Shelf.SortM.Plain
import Derived.Shelf.SortM.SortNone
import Derived.Ground.GgzProg
import Derived.Ground.SlgmProg
import Derived.Test.YtpeeflkodpnbpaaDoorProg
import Derived.Test.YtpeeflkodpnbpaaDoorHSub
import Derived.Test.YtpeeflkodpnbpaaDoorHSort
import Derived.Maps.OwnSet
/-
  DERIVED: THE SHELF's CONTRACTS AT THIS DUMP, IN PLAIN WORDS (tools/lay-plain.mjs out of 'TrydIt.lean', which tools/lay-shelf.mjs wrote): THE SAME DECLARATIONS UNDER THE SAME NAMES: 'import', 'namespace', 'open', 'def', 'theorem' AND NOTHING ELSE: no command of the shelf's: FOR A HAND-IN. Each laying: the table of numbers ('.._ren') and one theorem, a field a fact of the dump's own or the kernel's comparison; each contract: ONE APPLICATION.
-/
namespace Go.Proofs
open Go.Shelf
def Tryd.keys78_ren : Go.Shelf.Ren := ⟨fun | 7 => 78 | 10 => 99 | n => n, fun | 23 => 92 | 26 => 9 | 3 => 34 | 28 => 100 | 0 => 0 | 27 => 99 | 33 => 27 | 4 => 4 | n => n, fun | n => n⟩
theorem Tryd.keys78 : Go.Proofs.SlLaysZ.n7 Tryd.prog Tryd.keys78_ren := {
  mixed := by kernel_rfl
  f7 := ⟨Tryd.f78.name, by decide, Tryd.func78.trans (congrArg some (by kernel_rfl))⟩
  f10 := ⟨Tryd.f99.name, by decide, Tryd.func99.trans (congrArg some (by kernel_rfl))⟩
  t0 := Tryd.underlying0
  a0 := Tryd.isAgg0
  z0 := Tryd.sizeOf0
  v0 := Tryd.zeroValue0
  t4 := Tryd.underlying4
  a4 := Tryd.isAgg4
  z4 := Tryd.sizeOf4
  v4 := Tryd.zeroValue4
  t23 := Tryd.underlying92
  a23 := Tryd.isAgg92
  z23 := Tryd.sizeOf92
  v23 := Tryd.zeroValue92
  t26 := Tryd.underlying9
  a26 := Tryd.isAgg9
  z26 := Tryd.sizeOf9
  v26 := Tryd.zeroValue9
  t27 := Tryd.underlying99
  a27 := Tryd.isAgg99
  z27 := Tryd.sizeOf99
  v27 := Tryd.zeroValue99
  t28 := Tryd.underlying100
  a28 := Tryd.isAgg100
  z28 := Tryd.sizeOf100
  v28 := Tryd.zeroValue100
  t33 := Tryd.underlying27
  a33 := Tryd.isAgg27
  z33 := Tryd.sizeOf27
  v33 := Tryd.zeroValue27 }
def Tryd.sorted77_ren : Go.Shelf.Ren := ⟨fun | 6 => 77 | 8 => 98 | 9 => 67 | 11 => 114 | 13 => 94 | 12 => 93 | 23 => 110 | 24 => 111 | 14 => 101 | 15 => 102 | 16 => 103 | 17 => 104 | 18 => 105 | 19 => 106 | 20 => 107 | 21 => 108 | 22 => 109 | 25 => 116 | 26 => 117 | 27 => 118 | 28 => 119 | 29 => 120 | 30 => 121 | 31 => 122 | n => n, fun | 26 => 9 | 28 => 100 | 24 => 87 | 0 => 0 | 3 => 3 | 37 => 91 | 48 => 129 | 50 => 131 | 4 => 4 | 40 => 123 | 39 => 122 | 45 => 114 | 5 => 5 | 9 => 9 | 51 => 136 | 55 => 140 | 57 => 142 | 58 => 143 | 33 => 27 | n => n, fun | n => n⟩
theorem Tryd.sorted77 : Go.Proofs.SlLaysZ.n6 Tryd.prog Tryd.sorted77_ren := {
  mixed := by kernel_rfl
  f6 := ⟨Tryd.f77.name, by decide, Tryd.func77.trans (congrArg some (by kernel_rfl))⟩
  f8 := ⟨Tryd.f98.name, by decide, Tryd.func98.trans (congrArg some (by kernel_rfl))⟩
  f11 := ⟨Tryd.f114.name, by decide, Tryd.func114.trans (congrArg some (by kernel_rfl))⟩
  t0 := Tryd.underlying0
  a0 := Tryd.isAgg0
  z0 := Tryd.sizeOf0
  v0 := Tryd.zeroValue0
  t24 := Tryd.underlying87
  a24 := Tryd.isAgg87
  z24 := Tryd.sizeOf87
  v24 := Tryd.zeroValue87
  t26 := Tryd.underlying9
  a26 := Tryd.isAgg9
  z26 := Tryd.sizeOf9
  v26 := Tryd.zeroValue9
  t28 := Tryd.underlying100
  a28 := Tryd.isAgg100
  z28 := Tryd.sizeOf100
  v28 := Tryd.zeroValue100
  i26 := by kernel_rfl }
def Tryd.sort67_ren : Go.Shelf.Ren := ⟨fun | 6 => 67 | 8 => 94 | 9 => 93 | 19 => 110 | 20 => 111 | 21 => 101 | 22 => 102 | 23 => 103 | 24 => 104 | 25 => 105 | 26 => 106 | 27 => 107 | 28 => 108 | 29 => 109 | 36 => 116 | 31 => 117 | 32 => 118 | 37 => 119 | 38 => 120 | 39 => 121 | 41 => 122 | n => n, fun | 27 => 87 | 29 => 9 | 3 => 3 | 32 => 91 | 26 => 87 | 0 => 0 | 44 => 129 | 46 => 131 | 4 => 4 | 36 => 123 | 35 => 122 | 41 => 114 | 5 => 5 | 9 => 9 | 53 => 136 | 57 => 140 | 63 => 142 | 64 => 143 | n => n, fun | n => n⟩
theorem Tryd.sort67 : Go.Proofs.SlLaysM.n6 Tryd.prog Tryd.sort67_ren := {
  mixed := by kernel_rfl
  f6 := ⟨Tryd.f67.name, by decide, Tryd.func67.trans (congrArg some (by kernel_rfl))⟩
  f8 := Tryd.func94.trans (congrArg some (by kernel_rfl))
  f9 := ⟨Tryd.f93.name, by decide, Tryd.func93.trans (congrArg some (by kernel_rfl))⟩
  f19 := Tryd.func110.trans (congrArg some (by kernel_rfl))
  f20 := Tryd.func111.trans (congrArg some (by kernel_rfl))
  f21 := ⟨Tryd.f101.name, by decide, Tryd.func101.trans (congrArg some (by kernel_rfl))⟩
  f22 := ⟨Tryd.f102.name, by decide, Tryd.func102.trans (congrArg some (by kernel_rfl))⟩
  f23 := ⟨Tryd.f103.name, by decide, Tryd.func103.trans (congrArg some (by kernel_rfl))⟩
  f24 := ⟨Tryd.f104.name, by decide, Tryd.func104.trans (congrArg some (by kernel_rfl))⟩
  f25 := ⟨Tryd.f105.name, by decide, Tryd.func105.trans (congrArg some (by kernel_rfl))⟩
  f26 := ⟨Tryd.f106.name, by decide, Tryd.func106.trans (congrArg some (by kernel_rfl))⟩
  f27 := ⟨Tryd.f107.name, by decide, Tryd.func107.trans (congrArg some (by kernel_rfl))⟩
  f28 := ⟨Tryd.f108.name, by decide, Tryd.func108.trans (congrArg some (by kernel_rfl))⟩
  f29 := ⟨Tryd.f109.name, by decide, Tryd.func109.trans (congrArg some (by kernel_rfl))⟩
  f31 := Tryd.func117.trans (congrArg some (by kernel_rfl))
  f32 := Tryd.func118.trans (congrArg some (by kernel_rfl))
  f36 := ⟨Tryd.f116.name, by decide, Tryd.func116.trans (congrArg some (by kernel_rfl))⟩
  f37 := ⟨Tryd.f119.name, by decide, Tryd.func119.trans (congrArg some (by kernel_rfl))⟩
  f38 := ⟨Tryd.f120.name, by decide, Tryd.func120.trans (congrArg some (by kernel_rfl))⟩
  f39 := ⟨Tryd.f121.name, by decide, Tryd.func121.trans (congrArg some (by kernel_rfl))⟩
  f41 := ⟨Tryd.f122.name, by decide, Tryd.func122.trans (congrArg some (by kernel_rfl))⟩
  t0 := Tryd.underlying0
  a0 := Tryd.isAgg0
  z0 := Tryd.sizeOf0
  v0 := Tryd.zeroValue0
  t3 := Tryd.underlying3
  a3 := Tryd.isAgg3
  z3 := Tryd.sizeOf3
  v3 := Tryd.zeroValue3
  t4 := Tryd.underlying4
  a4 := Tryd.isAgg4
  z4 := Tryd.sizeOf4
  v4 := Tryd.zeroValue4
  t5 := Tryd.underlying5
  a5 := Tryd.isAgg5
  z5 := Tryd.sizeOf5
  v5 := Tryd.zeroValue5
  t9 := Tryd.underlying9
  a9 := Tryd.isAgg9
  z9 := Tryd.sizeOf9
  v9 := Tryd.zeroValue9
  t26 := Tryd.underlying87
  a26 := Tryd.isAgg87
  z26 := Tryd.sizeOf87
  v26 := Tryd.zeroValue87
  t27 := Tryd.underlying87
  a27 := Tryd.isAgg87
  z27 := Tryd.sizeOf87
  v27 := Tryd.zeroValue87
  t29 := Tryd.underlying9
  a29 := Tryd.isAgg9
  z29 := Tryd.sizeOf9
  v29 := Tryd.zeroValue9
  t32 := Tryd.underlying91
  a32 := Tryd.isAgg91
  z32 := Tryd.sizeOf91
  v32 := Tryd.zeroValue91
  t35 := Tryd.underlying122
  a35 := Tryd.isAgg122
  z35 := Tryd.sizeOf122
  v35 := Tryd.zeroValue122
  t36 := Tryd.underlying123
  a36 := Tryd.isAgg123
  z36 := Tryd.sizeOf123
  v36 := Tryd.zeroValue123
  t41 := Tryd.underlying114
  a41 := Tryd.isAgg114
  z41 := Tryd.sizeOf114
  v41 := Tryd.zeroValue114
  t44 := Tryd.underlying129
  a44 := Tryd.isAgg129
  z44 := Tryd.sizeOf129
  v44 := Tryd.zeroValue129
  t46 := Tryd.underlying131
  a46 := Tryd.isAgg131
  z46 := Tryd.sizeOf131
  v46 := Tryd.zeroValue131
  t53 := Tryd.underlying136
  a53 := Tryd.isAgg136
  z53 := Tryd.sizeOf136
  v53 := Tryd.zeroValue136
  t57 := Tryd.underlying140
  a57 := Tryd.isAgg140
  z57 := Tryd.sizeOf140
  v57 := Tryd.zeroValue140
  t63 := Tryd.underlying142
  a63 := Tryd.isAgg142
  z63 := Tryd.sizeOf142
  v63 := Tryd.zeroValue142
  t64 := Tryd.underlying143
  a64 := Tryd.isAgg143
  z64 := Tryd.sizeOf143
  v64 := Tryd.zeroValue143 }
end Go.Proofs
namespace Go.Proofs
open Go.RowKit Go.Maps Go.Sort Go.Shelf


/-- slices.Sort's two contracts at this dump, at the fence that asks nothing. -/
theorem Tryd.sorts77 (m : Nat) : AnyZ.SortsIn Tryd.prog Tryd.sorted77_ren Fence.wide m :=
  ⟨fun blk off cap ss W hH hblk hsz => callsIn_wide.2 (AnyM.slices_Sort_string Tryd.sort67 blk off cap ss W hH hblk hsz),
   fun p cap W => callsIn_wide.2 (AnyM.slices_Sort_string_none Tryd.sort67 p cap W)⟩

/-- **maps.Keys[map[string][]int,string,[]int], at whatever map, the nil one too:** a function value over ONE NEW BLOCK, which holds the map. -/
theorem Tryd.maps_Keys_78 (mb : Option Nat) (W : World) : CallsIn Fence.wide 5 Tryd.prog 78 #[.map mb] W fun e w' => e = .returned (.func (.func 99) #[] #[.pointer (some ⟨W.heap.size, 0, none⟩)]) ∧ w' = W.alloc (.cells #[.map mb] 92) :=
  AnyZ.keys_in Tryd.keys78 Fence.wide 5 trivial rfl mb W

set_option maxHeartbeats 1000000 in
/-- **slices.Sorted[string] AT WHAT maps.Keys[map[string][]int,string,[]int] HANDED BACK FOR A MAP THAT IS NOT nil** ('w': the world AHEAD of maps.Keys' call): A NEW SLICE THAT HOLDS THE MAP's KEYS, SORTED; nil just where it has none; nothing that lay before has turned. -/
theorem Tryd.slices_Sorted_keys_77_78 {H : Type} (b nn : Nat) (D0 : DataW H) (R : Value → Option (DataW H × List MemPlace)) (w : World) (hown : w.ownsMap Tryd.prog 9 R b nn D0) (hmax : Maps.size D0 ≤ maxLen) (hbytes : Maps.size D0 * 16 ≤ 140737488355328) :
    CallsIn Fence.wide 5 Tryd.prog 77 #[.func (.func 99) #[] #[.pointer (some ⟨w.heap.size, 0, none⟩)]] (w.alloc (.cells #[.map (some b)] 92)) fun e w' => ∃ (v : Value) (ss : List (List UInt8)), e = .returned v ∧ ss.Perm (strKeys D0) ∧
      w'.ownsRow (w.alloc (.cells #[.map (some b)] 92)).heap.size 9 1 v ss.length ((ss.mergeSort (fun x y => decide (x ≤ y))).map encStr) ∧ (v = .slice none 0 0 ↔ ss = []) ∧ Below (w.alloc (.cells #[.map (some b)] 92)).heap.size (w.alloc (.cells #[.map (some b)] 92)) w' := by
  have hbl := hown.lt
  have hseq : SeqGives Fence.wide 2 Tryd.prog 99 #[.pointer (some ⟨w.heap.size, 0, none⟩)] encStr (fun ss => ss.Perm (strKeys D0)) (Maps.size D0) (w.alloc (.cells #[.map (some b)] 92)) :=
    AnyZ.keys_gives (ρ := Tryd.keys78_ren) { Tryd.keys78 with } Fence.wide _ trivial rfl (by omega) w.heap.size b nn D0 _ (by simp) (by simp) (by
      obtain ⟨es, clock, hb, Ft, hs, hD⟩ := hown
      exact ⟨es, clock, (Below.heap_alloc _ _ b hbl).trans hb, Ft, hs, hD⟩)
  exact AnyZ.sorted_in Tryd.sorted77 Fence.wide 5 trivial trivial trivial trivial rfl (by omega) (Tryd.sorts77 _) (enters_of Tryd.func67 (by kernel_rfl) rfl) 99 #[.pointer (some ⟨w.heap.size, 0, none⟩)] trivial (enters_of Tryd.func99 (by kernel_rfl) rfl) _ _ hmax hbytes _ hseq

end Go.Proofs
namespace Go.Proofs.YtpeeflkodpnbpaaDoor.Pr
open Go.RowKit Go.WideMaps Go.Maps Go.Proofs.YtpeeflkodpnbpaaDoorW.PrintWords Go.Proofs.YtpeeflkodpnbpaaDoorW.PrintLast Go.Proofs.YtpeeflkodpnbpaaDoorW.PrintMore
set_option linter.unusedVariables false
set_option linter.unusedSimpArgs false

/-! ### the different strings of a length, in ascending order -/
def insD (x : ByteArray) : List ByteArray → List ByteArray
  | [] => [x]
  | y :: l => if Op.bytesLess y.toList x.toList = true then y :: insD x l else if y = x then y :: l else x :: y :: l
def partsUp (s : ByteArray) (n : Nat) : Nat → List ByteArray
  | 0 => []
  | k + 1 => insD (subAt s n k) (partsUp s n k)
def partsS (s : ByteArray) (n : Nat) : List ByteArray := partsUp s n (s.size + 1 - n)
def ltS (x y : ByteArray) : Prop := Op.bytesLess x.toList y.toList = true
theorem ltS_iff (x y : ByteArray) : ltS x y ↔ leS x y ∧ x ≠ y := by
  unfold ltS leS
  rw [less_iff]
  constructor
  · intro h
    exact ⟨List.le_of_lt h, fun e => by subst e; exact List.lt_irrefl _ h⟩
  · rintro ⟨h, hne⟩
    refine Decidable.byContradiction fun hn => hne ?_
    exact leS_antisymm h (List.not_lt.1 hn)
theorem ltS_trans {x y z : ByteArray} (h : ltS x y) (k : ltS y z) : ltS x z := by
  unfold ltS at *
  rw [less_iff] at *
  exact List.lt_trans h k
theorem mem_insD {t x : ByteArray} : ∀ {l : List ByteArray}, t ∈ insD x l ↔ t = x ∨ t ∈ l
  | [] => by simp [insD]
  | y :: l => by
    rw [insD]
    split
    · rw [List.mem_cons, mem_insD, List.mem_cons]
      constructor
      · rintro (h | h | h) <;> simp [h]
      · rintro (h | h | h) <;> simp [h]
    · split
      · rename_i e
        subst e
        simp only [List.mem_cons]
        constructor
        · exact .inr
        · rintro (h | h)
          · exact .inl h
          · exact h
      · simp only [List.mem_cons]
theorem insD_sorted (x : ByteArray) : ∀ {l : List ByteArray}, l.Pairwise ltS → (insD x l).Pairwise ltS
  | [], _ => by simp [insD]
  | y :: l, h => by
    have hy := List.pairwise_cons.1 h
    rw [insD]
    split
    · rename_i hlt
      refine List.pairwise_cons.2 ⟨fun z hz => ?_, insD_sorted x hy.2⟩
      rcases mem_insD.1 hz with rfl | hz
      · exact hlt
      · exact hy.1 z hz
    · split
      · exact h
      · rename_i hlt hne
        have hxy : ltS x y := (ltS_iff _ _).2 ⟨(not_less_iff _ _).1 hlt, fun e => hne e.symm⟩
        refine List.pairwise_cons.2 ⟨fun z hz => ?_, h⟩
        rcases List.mem_cons.1 hz with rfl | hz
        · exact hxy
        · exact ltS_trans hxy (hy.1 z hz)
theorem partsUp_sorted (s : ByteArray) (n : Nat) : ∀ k, (partsUp s n k).Pairwise ltS
  | 0 => .nil
  | k + 1 => insD_sorted _ (partsUp_sorted s n k)
theorem mem_partsUp {s t : ByteArray} {n : Nat} : ∀ {k : Nat}, t ∈ partsUp s n k ↔ ∃ j, j < k ∧ subAt s n j = t
  | 0 => by simp [partsUp]
  | k + 1 => by
    rw [partsUp, mem_insD, mem_partsUp]
    constructor
    · rintro (h | ⟨j, hj, h⟩)
      · exact ⟨k, by omega, h.symm⟩
      · exact ⟨j, by omega, h⟩
    · rintro ⟨j, hj, h⟩
      by_cases e : j = k
      · subst e; exact .inl h.symm
      · exact .inr ⟨j, by omega, h⟩
theorem partsS_sorted (s : ByteArray) (n : Nat) : (partsS s n).Pairwise ltS := partsUp_sorted s n _
theorem mem_partsS {s t : ByteArray} {n : Nat} : t ∈ partsS s n ↔ ∃ j, j < s.size + 1 - n ∧ subAt s n j = t := mem_partsUp
theorem insD_len (x : ByteArray) : ∀ l : List ByteArray, (insD x l).length ≤ l.length + 1
  | [] => by simp [insD]
  | y :: l => by
    have := insD_len x l
    rw [insD]
    split
    · simp only [List.length_cons]; omega
    · split <;> simp
theorem partsUp_len (s : ByteArray) (n : Nat) : ∀ k, (partsUp s n k).length ≤ k
  | 0 => by simp [partsUp]
  | k + 1 => by
    have := partsUp_len s n k
    have := insD_len (subAt s n k) (partsUp s n k)
    rw [partsUp]; omega
theorem partsS_len (s : ByteArray) (n : Nat) : (partsS s n).length ≤ s.size + 1 - n := partsUp_len s n _

/-! ### the positions -/
def posUp (s : ByteArray) (n : Nat) (t : ByteArray) : Nat → List Int
  | 0 => []
  | k + 1 => posUp s n t k ++ (if subAt s n k = t then [(k : Int)] else [])
def posS (s : ByteArray) (n : Nat) (t : ByteArray) : List Int := posUp s n t (s.size + 1 - n)
theorem mem_posUp {s t : ByteArray} {n : Nat} {x : Int} : ∀ {k : Nat}, x ∈ posUp s n t k ↔ ∃ j : Nat, j < k ∧ x = j ∧ subAt s n j = t
  | 0 => by simp [posUp]
  | k + 1 => by
    rw [posUp, List.mem_append, mem_posUp]
    constructor
    · rintro (⟨j, h1, h2, h3⟩ | h)
      · exact ⟨j, by omega, h2, h3⟩
      · split at h
        · rename_i e
          rw [List.mem_singleton] at h
          exact ⟨k, by omega, h, e⟩
        · cases h
    · rintro ⟨j, h1, h2, h3⟩
      by_cases e : j = k
      · subst e
        right
        rw [if_pos h3, List.mem_singleton]; exact h2
      · exact .inl ⟨j, by omega, h2, h3⟩
theorem posUp_len (s : ByteArray) (n : Nat) (t : ByteArray) : ∀ k, (posUp s n t k).length ≤ k
  | 0 => by simp [posUp]
  | k + 1 => by
    have := posUp_len s n t k
    rw [posUp, List.length_append]
    split
    · simp only [List.length_singleton]; omega
    · simp only [List.length_nil]; omega

/-! ### the map reads as these -/
theorem subG_isMap {H : Type} (s : ByteArray) (n : Nat) : ∀ k, IsMap (subG (H := H) s n k)
  | 0 => ⟨_, rfl⟩
  | k + 1 => (subG_isMap s n k).put _ _
theorem subG_has {H : Type} (s : ByteArray) (n : Nat) (t : ByteArray) : ∀ k, Maps.has (subG (H := H) s n k) (keyS t) = true ↔ ∃ j, j < k ∧ subAt s n j = t
  | 0 => by
    constructor
    · intro h; cases h
    · rintro ⟨j, hj, _⟩; omega
  | k + 1 => by
    rw [subG]
    by_cases e : subAt s n k = t
    · subst e
      rw [has_put_same (subG_isMap s n k) (keyLit _)]
      exact ⟨fun _ => ⟨k, by omega, rfl⟩, fun _ => rfl⟩
    · rw [has_put_other (fun h => e (keyS_inj h).symm), subG_has s n t k]
      constructor
      · rintro ⟨j, hj, h⟩; exact ⟨j, by omega, h⟩
      · rintro ⟨j, hj, h⟩
        have : j ≠ k := fun h' => e (h' ▸ h)
        exact ⟨j, by omega, h⟩
def datI {H : Type} : List Int → DataW H
  | [] => .nil
  | zs => .slice (Go.ChangeShapes.lits .i64 zs) []
theorem datI_app {H : Type} (zs : List Int) (x : Int) : (DataW.slice (items9 (datI (H := H) zs) ++ [.lit (.int .i64 x)]) []) = datI (zs ++ [x]) := by
  cases zs with
  | nil => rfl
  | cons z zs => simp [datI, items9, Go.ChangeShapes.lits]
theorem subG_at {H : Type} (s : ByteArray) (n : Nat) (t : ByteArray) : ∀ k, (subG (H := H) s n k).atKey (keyS t) .nil = datI (posUp s n t k)
  | 0 => rfl
  | k + 1 => by
    rw [subG, posUp]
    by_cases e : subAt s n k = t
    · subst e
      rw [atKey_put_same (subG_isMap s n k) (keyLit _), if_pos rfl, subG_at s n (subAt s n k) k, datI_app]
    · rw [atKey_put_other (fun h => e (keyS_inj h).symm), if_neg e, List.append_nil, subG_at s n t k]
theorem lits_inj {H : Type} : ∀ {zs ys : List Int}, (Go.ChangeShapes.lits (H := H) .i64 zs) = Go.ChangeShapes.lits .i64 ys → zs = ys
  | [], [], _ => rfl
  | [], _ :: _, h => by simp [Go.ChangeShapes.lits] at h
  | _ :: _, [], h => by simp [Go.ChangeShapes.lits] at h
  | z :: zs, y :: ys, h => by
    simp only [Go.ChangeShapes.lits, List.map_cons, List.cons.injEq] at h
    obtain ⟨h1, h2⟩ := h
    injection h1 with h1
    injection h1 with _ h1
    rw [h1, lits_inj h2]
/-- what the walk is handed at a key -/
theorem at_pos {H : Type} {w : World} {base : Nat} {v : Value} {zs ps : List Int} (ho : w.ownsInts base 3 .i64 v zs) (h : datI (H := H) ps = rowDatum .i64 v zs) : zs = ps ∧ (v = .slice none 0 0 ↔ ps = []) := by
  rcases ho.1.2 with ⟨rfl, h0⟩ | ⟨g, cap, cur, rfl, _⟩
  · obtain rfl := List.length_eq_zero_iff.1 h0
    cases ps with
    | nil => exact ⟨rfl, by simp⟩
    | cons p ps => simp [datI, rowDatum] at h
  · have e : (rowDatum .i64 (.slice (some ⟨g, 0, none⟩) zs.length cap) zs : DataW H) = .slice (Go.ChangeShapes.lits .i64 zs) [] := rfl
    rw [e] at h
    cases ps with
    | nil => simp [datI] at h
    | cons p ps =>
      simp only [datI] at h
      injection h with h _
      exact ⟨(lits_inj h).symm, by simp⟩

/-! ### the map lies as it lay -/
theorem ints_below {w w' : World} {base : Nat} {v : Value} {zs : List Int} (h : w.ownsInts base 3 .i64 v zs) (hb : Below w.heap.size w w') : w'.ownsInts base 3 .i64 v zs :=
  ⟨own_move h.1 (fun k hk => hb.block k (h.1.lt k hk).2), h.2⟩
set_option maxRecDepth 1000000 in
theorem groups_below {H : Type} {w w' : World} {base b n : Nat} {D : DataW H} (h : w.ownsGroups Tryd.prog 9 base 3 .i64 b n D) (hb : Below w.heap.size w w') : w'.ownsGroups Tryd.prog 9 base 3 .i64 b n D := by
  obtain ⟨es, clock, hbk, F, hs, hD, hbb, hlen, hap⟩ := h
  obtain ⟨F1, hmap, _⟩ := F.stay (R' := rowElem (H := H) w' base 3 .i64) (fun x _ z hz => by
    obtain ⟨zs, ho, rfl⟩ := rowElem_inv hz
    exact rowElem_mk (ints_below ho hb))
  refine ⟨es, clock, blk_below hbk hb, F1, hs, by rw [hmap]; exact hD, hbb, fun x hx zs ho => ?_, hap⟩
  obtain ⟨y, hy⟩ := F.reads x hx
  obtain ⟨z, hz, _⟩ := Go.WideElems.rd_val hy
  obtain ⟨zs', ho', rfl⟩ := rowElem_inv hz
  have := (ints_below ho' hb).unique ho
  exact this ▸ hlen x hx zs' ho'
theorem groups_map {H : Type} {w : World} {base b n : Nat} {D : DataW H} (h : w.ownsGroups Tryd.prog 9 base 3 .i64 b n D) : w.ownsMap Tryd.prog 9 (rowElem (H := H) w base 3 .i64) b n D := by
  obtain ⟨es, clock, hb, F, hs, hD, _⟩ := h
  exact ⟨es, clock, hb, F, hs, hD⟩

/-- **slices.Sorted(maps.Keys(m))** -/
theorem keys_perm {H : Type} {w : World} {R : Value → Option (DataW H × List MemPlace)} {b nn : Nat} {s : ByteArray} {n : Nat} (hown : w.ownsMap Tryd.prog 9 R b nn (subG s n (s.size + 1 - n))) : ((partsS s n).map bytesS).Perm (strKeys (subG (H := H) s n (s.size + 1 - n))) := by
  have hC : Collected (subG (H := H) s n (s.size + 1 - n)) (fun _ => false) ((partsS s n).map bytesS) := by
    refine ⟨List.pairwise_map.2 ((partsS_sorted s n).imp (fun {a b} h e => ?_)), fun x => ?_⟩
    · exact ((ltS_iff _ _).1 h).2 (by have := congrArg ofBytes e; rwa [ofBytes_bytes, ofBytes_bytes] at this)
    · have hk : (Lit.string x) = keyS (ofBytes x) := rfl
      rw [hk, subG_has, List.mem_map]
      constructor
      · rintro ⟨t, ht, rfl⟩
        obtain ⟨j, hj, h⟩ := mem_partsS.1 ht
        exact ⟨⟨j, hj, by rw [ofBytes_bytes]; exact h⟩, rfl⟩
      · rintro ⟨⟨j, hj, h⟩, _⟩
        exact ⟨ofBytes x, mem_partsS.2 ⟨j, hj, h⟩, rfl⟩
  exact hC.perm hown law9 Tryd.underlying9 (fun _ => rfl)
theorem size_subG {H : Type} {w : World} {R : Value → Option (DataW H × List MemPlace)} {b nn : Nat} {s : ByteArray} {n : Nat} (hown : w.ownsMap Tryd.prog 9 R b nn (subG s n (s.size + 1 - n))) : Maps.size (subG (H := H) s n (s.size + 1 - n)) = (partsS s n).length := by
  have := (keys_perm hown).length_eq
  rw [List.length_map] at this
  rw [this]
  obtain ⟨es, e⟩ := subG_isMap (H := H) s n (s.size + 1 - n)
  rw [e]
  simp [Maps.size, strKeys]
theorem sort_parts {s : ByteArray} {n : Nat} {ss : List (List UInt8)} (h : ss.Perm ((partsS s n).map bytesS)) : ss.mergeSort (fun x y => decide (x ≤ y)) = (partsS s n).map bytesS := by
  have h1 := List.pairwise_mergeSort (le := fun x y : List UInt8 => decide (x ≤ y)) (fun a b c h1 h2 => by simp at h1 h2 ⊢; exact List.le_trans h1 h2) (fun a b => by simp; exact List.le_total a b) ss
  have h2 : (ss.mergeSort (fun x y => decide (x ≤ y))).Pairwise (fun x y : List UInt8 => x ≤ y) := h1.imp (fun h => by simpa using h)
  have h3 : ((partsS s n).map bytesS).Pairwise (fun x y : List UInt8 => x ≤ y) := List.pairwise_map.2 ((partsS_sorted s n).imp (fun h => ((ltS_iff _ _).1 h).1))
  exact List.Perm.eq_of_pairwise (le := fun x y : List UInt8 => x ≤ y) (fun a b _ _ h1 h2 => List.le_antisymm h1 h2) h2 h3 ((List.mergeSort_perm _ _).trans h)
theorem keys_calls (b : Nat) (w : World) : Calls Tryd.prog 78 #[.map (some b)] w fun e w' => e = .returned (.func (.func 99) #[] #[.pointer (some ⟨w.heap.size, 0, none⟩)]) ∧ w' = w.alloc (.cells #[.map (some b)] 92) :=
  callsIn_wide.1 (Tryd.maps_Keys_78 (some b) w)
theorem sorted_calls (s : ByteArray) (n : Nat) (hs : s.size ≤ 160) (base b nn : Nat) (w : World) (hown : w.ownsGroups (H := Unit) Tryd.prog 9 base 3 .i64 b nn (subG s n (s.size + 1 - n))) :
    Calls Tryd.prog 77 #[.func (.func 99) #[] #[.pointer (some ⟨w.heap.size, 0, none⟩)]] (w.alloc (.cells #[.map (some b)] 92)) fun e w' => ∃ v : Value, e = .returned v ∧ Kd.R Kd.string 9 w' (w.heap.size + 1) (fun _ => True) v (partsS s n) ∧ Below (w.heap.size + 1) (w.alloc (.cells #[.map (some b)] 92)) w' := by
  have hm := groups_map hown
  have hsz := size_subG hm
  have hl := partsS_len s n
  refine (callsIn_wide.1 (Tryd.slices_Sorted_keys_77_78 b nn _ _ w hm (by unfold maxLen; omega) (by omega))).mono ?_
  rintro e w' ⟨v, ss, rfl, hp, hrow, _, hb⟩
  have hs2 := sort_parts (hp.trans (keys_perm hm).symm)
  have hlen : ss.length = (partsS s n).length := by rw [(hp.trans (keys_perm hm).symm).length_eq, List.length_map]
  rw [hs2, hlen, List.map_map, show (fun l => encStr l) ∘ bytesS = Value.string from rfl] at hrow
  rw [World.size_alloc] at hrow hb
  exact ⟨v, rfl, Kd.R_of_own (enc := Value.string) (h1 := fun _ => rfl) hrow (fun _ _ => trivial), hb⟩
end Go.Proofs.YtpeeflkodpnbpaaDoor.Pr
