/- The map of substrings: its keys in ascending order, and the positions at each key. -/
import Derived.Test.YtpeeflkodpnbpaaDoorHSub
import Derived.Test.YtpeeflkodpnbpaaDoorHSort
import Derived.Test.YtpeeflkodpnbpaaDoorIter
import Derived.Maps.OwnSet
namespace Go.Proofs.YtpeeflkodpnbpaaDoor.Pr
open Go.RowKit Go.WideMaps Go.Maps Go.Proofs.YtpeeflkodpnbpaaDoorW.PrintWords Go.Proofs.YtpeeflkodpnbpaaDoorW.PrintLast Go.Proofs.YtpeeflkodpnbpaaDoorW.PrintMore
set_option linter.unusedVariables false
set_option linter.unusedSimpArgs false

/-! ### the different strings of a length, in ascending order -/
def insD (x : ByteArray) : List ByteArray → List ByteArray
  | [] => [x]
  | y :: l => if Op.bytesLess y.toList x.toList = true then y :: insD x l else if y = x then y :: l else x :: y :: l
def partsUp (s : ByteArray) (n : Nat) : Nat → List ByteArray
  | 0 => []
  | k + 1 => insD (subAt s n k) (partsUp s n k)
def partsS (s : ByteArray) (n : Nat) : List ByteArray := partsUp s n (s.size + 1 - n)
def ltS (x y : ByteArray) : Prop := Op.bytesLess x.toList y.toList = true
theorem ltS_iff (x y : ByteArray) : ltS x y ↔ leS x y ∧ x ≠ y := by
  unfold ltS leS
  rw [less_iff]
  constructor
  · intro h
    exact ⟨List.le_of_lt h, fun e => by subst e; exact List.lt_irrefl _ h⟩
  · rintro ⟨h, hne⟩
    refine Decidable.byContradiction fun hn => hne ?_
    exact leS_antisymm h (List.not_lt.1 hn)
theorem ltS_trans {x y z : ByteArray} (h : ltS x y) (k : ltS y z) : ltS x z := by
  unfold ltS at *
  rw [less_iff] at *
  exact List.lt_trans h k
theorem mem_insD {t x : ByteArray} : ∀ {l : List ByteArray}, t ∈ insD x l ↔ t = x ∨ t ∈ l
  | [] => by simp [insD]
  | y :: l => by
    rw [insD]
    split
    · rw [List.mem_cons, mem_insD, List.mem_cons]
      constructor
      · rintro (h | h | h) <;> simp [h]
      · rintro (h | h | h) <;> simp [h]
    · split
      · rename_i e
        subst e
        simp only [List.mem_cons]
        constructor
        · exact .inr
        · rintro (h | h)
          · exact .inl h
          · exact h
      · simp only [List.mem_cons]
theorem insD_sorted (x : ByteArray) : ∀ {l : List ByteArray}, l.Pairwise ltS → (insD x l).Pairwise ltS
  | [], _ => by simp [insD]
  | y :: l, h => by
    have hy := List.pairwise_cons.1 h
    rw [insD]
    split
    · rename_i hlt
      refine List.pairwise_cons.2 ⟨fun z hz => ?_, insD_sorted x hy.2⟩
      rcases mem_insD.1 hz with rfl | hz
      · exact hlt
      · exact hy.1 z hz
    · split
      · exact h
      · rename_i hlt hne
        have hxy : ltS x y := (ltS_iff _ _).2 ⟨(not_less_iff _ _).1 hlt, fun e => hne e.symm⟩
        refine List.pairwise_cons.2 ⟨fun z hz => ?_, h⟩
        rcases List.mem_cons.1 hz with rfl | hz
        · exact hxy
        · exact ltS_trans hxy (hy.1 z hz)
theorem partsUp_sorted (s : ByteArray) (n : Nat) : ∀ k, (partsUp s n k).Pairwise ltS
  | 0 => .nil
  | k + 1 => insD_sorted _ (partsUp_sorted s n k)
theorem mem_partsUp {s t : ByteArray} {n : Nat} : ∀ {k : Nat}, t ∈ partsUp s n k ↔ ∃ j, j < k ∧ subAt s n j = t
  | 0 => by simp [partsUp]
  | k + 1 => by
    rw [partsUp, mem_insD, mem_partsUp]
    constructor
    · rintro (h | ⟨j, hj, h⟩)
      · exact ⟨k, by omega, h.symm⟩
      · exact ⟨j, by omega, h⟩
    · rintro ⟨j, hj, h⟩
      by_cases e : j = k
      · subst e; exact .inl h.symm
      · exact .inr ⟨j, by omega, h⟩
theorem partsS_sorted (s : ByteArray) (n : Nat) : (partsS s n).Pairwise ltS := partsUp_sorted s n _
theorem mem_partsS {s t : ByteArray} {n : Nat} : t ∈ partsS s n ↔ ∃ j, j < s.size + 1 - n ∧ subAt s n j = t := mem_partsUp
theorem insD_len (x : ByteArray) : ∀ l : List ByteArray, (insD x l).length ≤ l.length + 1
  | [] => by simp [insD]
  | y :: l => by
    have := insD_len x l
    rw [insD]
    split
    · simp only [List.length_cons]; omega
    · split <;> simp
theorem partsUp_len (s : ByteArray) (n : Nat) : ∀ k, (partsUp s n k).length ≤ k
  | 0 => by simp [partsUp]
  | k + 1 => by
    have := partsUp_len s n k
    have := insD_len (subAt s n k) (partsUp s n k)
    rw [partsUp]; omega
theorem partsS_len (s : ByteArray) (n : Nat) : (partsS s n).length ≤ s.size + 1 - n := partsUp_len s n _

/-! ### the positions -/
def posUp (s : ByteArray) (n : Nat) (t : ByteArray) : Nat → List Int
  | 0 => []
  | k + 1 => posUp s n t k ++ (if subAt s n k = t then [(k : Int)] else [])
def posS (s : ByteArray) (n : Nat) (t : ByteArray) : List Int := posUp s n t (s.size + 1 - n)
theorem mem_posUp {s t : ByteArray} {n : Nat} {x : Int} : ∀ {k : Nat}, x ∈ posUp s n t k ↔ ∃ j : Nat, j < k ∧ x = j ∧ subAt s n j = t
  | 0 => by simp [posUp]
  | k + 1 => by
    rw [posUp, List.mem_append, mem_posUp]
    constructor
    · rintro (⟨j, h1, h2, h3⟩ | h)
      · exact ⟨j, by omega, h2, h3⟩
      · split at h
        · rename_i e
          rw [List.mem_singleton] at h
          exact ⟨k, by omega, h, e⟩
        · cases h
    · rintro ⟨j, h1, h2, h3⟩
      by_cases e : j = k
      · subst e
        right
        rw [if_pos h3, List.mem_singleton]; exact h2
      · exact .inl ⟨j, by omega, h2, h3⟩
theorem posUp_len (s : ByteArray) (n : Nat) (t : ByteArray) : ∀ k, (posUp s n t k).length ≤ k
  | 0 => by simp [posUp]
  | k + 1 => by
    have := posUp_len s n t k
    rw [posUp, List.length_append]
    split
    · simp only [List.length_singleton]; omega
    · simp only [List.length_nil]; omega

/-! ### the map reads as these -/
theorem subG_isMap {H : Type} (s : ByteArray) (n : Nat) : ∀ k, IsMap (subG (H := H) s n k)
  | 0 => ⟨_, rfl⟩
  | k + 1 => (subG_isMap s n k).put _ _
theorem subG_has {H : Type} (s : ByteArray) (n : Nat) (t : ByteArray) : ∀ k, Maps.has (subG (H := H) s n k) (keyS t) = true ↔ ∃ j, j < k ∧ subAt s n j = t
  | 0 => by
    constructor
    · intro h; cases h
    · rintro ⟨j, hj, _⟩; omega
  | k + 1 => by
    rw [subG]
    by_cases e : subAt s n k = t
    · subst e
      rw [has_put_same (subG_isMap s n k) (keyLit _)]
      exact ⟨fun _ => ⟨k, by omega, rfl⟩, fun _ => rfl⟩
    · rw [has_put_other (fun h => e (keyS_inj h).symm), subG_has s n t k]
      constructor
      · rintro ⟨j, hj, h⟩; exact ⟨j, by omega, h⟩
      · rintro ⟨j, hj, h⟩
        have : j ≠ k := fun h' => e (h' ▸ h)
        exact ⟨j, by omega, h⟩
def datI {H : Type} : List Int → DataW H
  | [] => .nil
  | zs => .slice (Go.ChangeShapes.lits .i64 zs) []
theorem datI_app {H : Type} (zs : List Int) (x : Int) : (DataW.slice (items9 (datI (H := H) zs) ++ [.lit (.int .i64 x)]) []) = datI (zs ++ [x]) := by
  cases zs with
  | nil => rfl
  | cons z zs => simp [datI, items9, Go.ChangeShapes.lits]
theorem subG_at {H : Type} (s : ByteArray) (n : Nat) (t : ByteArray) : ∀ k, (subG (H := H) s n k).atKey (keyS t) .nil = datI (posUp s n t k)
  | 0 => rfl
  | k + 1 => by
    rw [subG, posUp]
    by_cases e : subAt s n k = t
    · subst e
      rw [atKey_put_same (subG_isMap s n k) (keyLit _), if_pos rfl, subG_at s n (subAt s n k) k, datI_app]
    · rw [atKey_put_other (fun h => e (keyS_inj h).symm), if_neg e, List.append_nil, subG_at s n t k]
theorem lits_inj {H : Type} : ∀ {zs ys : List Int}, (Go.ChangeShapes.lits (H := H) .i64 zs) = Go.ChangeShapes.lits .i64 ys → zs = ys
  | [], [], _ => rfl
  | [], _ :: _, h => by simp [Go.ChangeShapes.lits] at h
  | _ :: _, [], h => by simp [Go.ChangeShapes.lits] at h
  | z :: zs, y :: ys, h => by
    simp only [Go.ChangeShapes.lits, List.map_cons, List.cons.injEq] at h
    obtain ⟨h1, h2⟩ := h
    injection h1 with h1
    injection h1 with _ h1
    rw [h1, lits_inj h2]
/-- what the walk is handed at a key -/
theorem at_pos {H : Type} {w : World} {base : Nat} {v : Value} {zs ps : List Int} (ho : w.ownsInts base 3 .i64 v zs) (h : datI (H := H) ps = rowDatum .i64 v zs) : zs = ps ∧ (v = .slice none 0 0 ↔ ps = []) := by
  rcases ho.1.2 with ⟨rfl, h0⟩ | ⟨g, cap, cur, rfl, _⟩
  · obtain rfl := List.length_eq_zero_iff.1 h0
    cases ps with
    | nil => exact ⟨rfl, by simp⟩
    | cons p ps => simp [datI, rowDatum] at h
  · have e : (rowDatum .i64 (.slice (some ⟨g, 0, none⟩) zs.length cap) zs : DataW H) = .slice (Go.ChangeShapes.lits .i64 zs) [] := rfl
    rw [e] at h
    cases ps with
    | nil => simp [datI] at h
    | cons p ps =>
      simp only [datI] at h
      injection h with h _
      exact ⟨(lits_inj h).symm, by simp⟩

/-! ### the map lies as it lay -/
theorem ints_below {w w' : World} {base : Nat} {v : Value} {zs : List Int} (h : w.ownsInts base 3 .i64 v zs) (hb : Below w.heap.size w w') : w'.ownsInts base 3 .i64 v zs :=
  ⟨own_move h.1 (fun k hk => hb.block k (h.1.lt k hk).2), h.2⟩
set_option maxRecDepth 1000000 in
theorem groups_below {H : Type} {w w' : World} {base b n : Nat} {D : DataW H} (h : w.ownsGroups Tryd.prog 9 base 3 .i64 b n D) (hb : Below w.heap.size w w') : w'.ownsGroups Tryd.prog 9 base 3 .i64 b n D := by
  obtain ⟨es, clock, hbk, F, hs, hD, hbb, hlen, hap⟩ := h
  obtain ⟨F1, hmap, _⟩ := F.stay (R' := rowElem (H := H) w' base 3 .i64) (fun x _ z hz => by
    obtain ⟨zs, ho, rfl⟩ := rowElem_inv hz
    exact rowElem_mk (ints_below ho hb))
  refine ⟨es, clock, blk_below hbk hb, F1, hs, by rw [hmap]; exact hD, hbb, fun x hx zs ho => ?_, hap⟩
  obtain ⟨y, hy⟩ := F.reads x hx
  obtain ⟨z, hz, _⟩ := Go.WideElems.rd_val hy
  obtain ⟨zs', ho', rfl⟩ := rowElem_inv hz
  have := (ints_below ho' hb).unique ho
  exact this ▸ hlen x hx zs' ho'
theorem groups_map {H : Type} {w : World} {base b n : Nat} {D : DataW H} (h : w.ownsGroups Tryd.prog 9 base 3 .i64 b n D) : w.ownsMap Tryd.prog 9 (rowElem (H := H) w base 3 .i64) b n D := by
  obtain ⟨es, clock, hb, F, hs, hD, _⟩ := h
  exact ⟨es, clock, hb, F, hs, hD⟩

/-- **slices.Sorted(maps.Keys(m))** -/
theorem keys_perm {H : Type} {w : World} {R : Value → Option (DataW H × List MemPlace)} {b nn : Nat} {s : ByteArray} {n : Nat} (hown : w.ownsMap Tryd.prog 9 R b nn (subG s n (s.size + 1 - n))) : ((partsS s n).map bytesS).Perm (strKeys (subG (H := H) s n (s.size + 1 - n))) := by
  have hC : Collected (subG (H := H) s n (s.size + 1 - n)) (fun _ => false) ((partsS s n).map bytesS) := by
    refine ⟨List.pairwise_map.2 ((partsS_sorted s n).imp (fun {a b} h e => ?_)), fun x => ?_⟩
    · exact ((ltS_iff _ _).1 h).2 (by have := congrArg ofBytes e; rwa [ofBytes_bytes, ofBytes_bytes] at this)
    · have hk : (Lit.string x) = keyS (ofBytes x) := rfl
      rw [hk, subG_has, List.mem_map]
      constructor
      · rintro ⟨t, ht, rfl⟩
        obtain ⟨j, hj, h⟩ := mem_partsS.1 ht
        exact ⟨⟨j, hj, by rw [ofBytes_bytes]; exact h⟩, rfl⟩
      · rintro ⟨⟨j, hj, h⟩, _⟩
        exact ⟨ofBytes x, mem_partsS.2 ⟨j, hj, h⟩, rfl⟩
  exact hC.perm hown law9 Tryd.underlying9 (fun _ => rfl)
theorem size_subG {H : Type} {w : World} {R : Value → Option (DataW H × List MemPlace)} {b nn : Nat} {s : ByteArray} {n : Nat} (hown : w.ownsMap Tryd.prog 9 R b nn (subG s n (s.size + 1 - n))) : Maps.size (subG (H := H) s n (s.size + 1 - n)) = (partsS s n).length := by
  have := (keys_perm hown).length_eq
  rw [List.length_map] at this
  rw [this]
  obtain ⟨es, e⟩ := subG_isMap (H := H) s n (s.size + 1 - n)
  rw [e]
  simp [Maps.size, strKeys]
theorem sort_parts {s : ByteArray} {n : Nat} {ss : List (List UInt8)} (h : ss.Perm ((partsS s n).map bytesS)) : ss.mergeSort (fun x y => decide (x ≤ y)) = (partsS s n).map bytesS := by
  have h1 := List.pairwise_mergeSort (le := fun x y : List UInt8 => decide (x ≤ y)) (fun a b c h1 h2 => by simp at h1 h2 ⊢; exact List.le_trans h1 h2) (fun a b => by simp; exact List.le_total a b) ss
  have h2 : (ss.mergeSort (fun x y => decide (x ≤ y))).Pairwise (fun x y : List UInt8 => x ≤ y) := h1.imp (fun h => by simpa using h)
  have h3 : ((partsS s n).map bytesS).Pairwise (fun x y : List UInt8 => x ≤ y) := List.pairwise_map.2 ((partsS_sorted s n).imp (fun h => ((ltS_iff _ _).1 h).1))
  exact List.Perm.eq_of_pairwise (le := fun x y : List UInt8 => x ≤ y) (fun a b _ _ h1 h2 => List.le_antisymm h1 h2) h2 h3 ((List.mergeSort_perm _ _).trans h)
theorem keys_calls (b : Nat) (w : World) : Calls Tryd.prog 78 #[.map (some b)] w fun e w' => e = .returned (.func (.func 99) #[] #[.pointer (some ⟨w.heap.size, 0, none⟩)]) ∧ w' = w.alloc (.cells #[.map (some b)] 92) :=
  callsIn_wide.1 (Tryd.maps_Keys_78 (some b) w)
theorem sorted_calls (s : ByteArray) (n : Nat) (hs : s.size ≤ 160) (base b nn : Nat) (w : World) (hown : w.ownsGroups (H := Unit) Tryd.prog 9 base 3 .i64 b nn (subG s n (s.size + 1 - n))) :
    Calls Tryd.prog 77 #[.func (.func 99) #[] #[.pointer (some ⟨w.heap.size, 0, none⟩)]] (w.alloc (.cells #[.map (some b)] 92)) fun e w' => ∃ v : Value, e = .returned v ∧ Kd.R Kd.string 9 w' (w.heap.size + 1) (fun _ => True) v (partsS s n) ∧ Below (w.heap.size + 1) (w.alloc (.cells #[.map (some b)] 92)) w' := by
  have hm := groups_map hown
  have hsz := size_subG hm
  have hl := partsS_len s n
  refine (callsIn_wide.1 (Tryd.slices_Sorted_keys_77_78 b nn _ _ w hm (by unfold maxLen; omega) (by omega))).mono ?_
  rintro e w' ⟨v, ss, rfl, hp, hrow, _, hb⟩
  have hs2 := sort_parts (hp.trans (keys_perm hm).symm)
  have hlen : ss.length = (partsS s n).length := by rw [(hp.trans (keys_perm hm).symm).length_eq, List.length_map]
  rw [hs2, hlen, List.map_map, show (fun l => encStr l) ∘ bytesS = Value.string from rfl] at hrow
  rw [World.size_alloc] at hrow hb
  exact ⟨v, rfl, Kd.R_of_own (enc := Value.string) (h1 := fun _ => rfl) hrow (fun _ _ => trivial), hb⟩
end Go.Proofs.YtpeeflkodpnbpaaDoor.Pr
