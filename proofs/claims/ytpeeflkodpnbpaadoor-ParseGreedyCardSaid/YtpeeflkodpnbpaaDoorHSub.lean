/- learn, plainly: the learning parse over a list of known strings; and how a map reads as such a list. -/
import Derived.Test.YtpeeflkodpnbpaaDoorPr0
import Derived.Test.YtpeeflkodpnbpaaDoorHWord
import Derived.IntWalk
import Derived.Maps.OwnRows
import Derived.ProofKit
import Derived.Maps.OwnSet
import Derived.Maps.OwnOps
import Derived.Maps.Own
namespace Go.Proofs.YtpeeflkodpnbpaaDoor.Pr
open Go.RowKit Go.WideMaps Go.Maps Go.Proofs.YtpeeflkodpnbpaaDoorW.PrintWords Go.Proofs.YtpeeflkodpnbpaaDoorW.PrintLast Go.Proofs.YtpeeflkodpnbpaaDoorW.PrintMore
set_option linter.unusedVariables false
set_option linter.unusedSimpArgs false

theorem law9 : Keyed Tryd.prog 9 := string_keyed Tryd.underlying9
theorem info3' : (Tryd.prog.info? 3).map (fun i => (i.zero, i.size, i.bytes)) = some (some (.int .i64 0), 1, 8) := by kernel_rfl
theorem zero34 (w : World) : (zeroValue 34).run Tryd.prog w = .ok (.slice none 0 0) w := by kernel_rfl

/-- the string of a length at a place -/
def subAt (s : ByteArray) (n k : Nat) : ByteArray := s.extract k (k + n)
def keyS (t : ByteArray) : Lit := .string t.data.toList
def items9 {H : Type} : DataW H → List (DataW H)
  | .slice es _ => es
  | _ => []
/-- the map behind k rounds -/
def subG {H : Type} (s : ByteArray) (n : Nat) : Nat → DataW H
  | 0 => .map []
  | k + 1 => (subG s n k).put (keyS (subAt s n k)) (.slice (items9 ((subG s n k).atKey (keyS (subAt s n k)) .nil) ++ [.lit (.int .i64 k)]) [])
theorem subG_step {H : Type} {w : World} {base : Nat} {e : TypeId} {v : Value} {zs : List Int} (s : ByteArray) (n k : Nat) (ho : w.ownsInts base e .i64 v zs)
    (hat : (subG (H := H) s n k).atKey (keyS (subAt s n k)) .nil = rowDatum .i64 v zs) : subG (H := H) s n (k + 1) = (subG s n k).put (keyS (subAt s n k)) (.slice (Go.ChangeShapes.lits .i64 (zs ++ [(k : Int)])) []) := by
  rw [subG, hat]
  rcases ho.datum (H := H) with ⟨h1, rfl⟩ | h1 <;> rw [h1] <;> simp [items9, Go.ChangeShapes.lits]
theorem keyS_ok (t : ByteArray) (h : t.size ≤ maxLen) : keyOf Tryd.prog 9 (.string t) = some (keyS t) := keyOf_string_mk Tryd.underlying9 h

set_option maxHeartbeats 1000000 in
set_option maxRecDepth 1000000 in
theorem substrings_calls {H : Type} (s : ByteArray) (n : Nat) (N : Int) (HN : Aside0 (N = (n : Int))) (hs : s.size ≤ 160) (hn : n ≤ s.size) (w : World) :
    Calls Tryd.prog 69 #[.string s, .int .i64 N] w fun e w' => e = .returned (.map (some w.heap.size)) ∧ w'.ownsGroups Tryd.prog 9 (w.heap.size + 1) 3 .i64 w.heap.size (s.size + 1 - n) (subG (H := H) s n (s.size + 1 - n)) ∧ Below w.heap.size w w' := by
  have hmm := @run_makeMap Tryd.prog
  obtain ⟨i0, hi, hz0, hz1, hz2⟩ := info_parts info3'
  obtain ⟨M, HM⟩ : ∃ M : Int, Aside0 (M = ((s.size + 1 - n : Nat) : Int)) := ⟨_, ⟨rfl⟩⟩
  have hN := HN.out
  have hM := HM.out
  obtain ⟨D, HD⟩ : ∃ D : Int, Aside0 (D = (s.size : Int) - N) := ⟨_, ⟨rfl⟩⟩
  have hD := HD.out
  have v1 : (IntKind.i64.wrap ((s.size : Int) - N)) = D := (i64_w _).trans ((Go.IntWalk.wrap64_in _ (by omega)).trans hD.symm)
  have v2 : (IntKind.i64.wrap (D + 1)) = M := (i64_w _).trans ((Go.IntWalk.wrap64_in _ (by omega)).trans (by omega))
  have v3 : wrap64 ((s.size : Int) - N) = D := (Go.IntWalk.wrap64_in _ (by omega)).trans hD.symm
  have v4 : wrap64 (D + 1) = M := (Go.IntWalk.wrap64_in _ (by omega)).trans (by omega)
  clear hN hM hD
  go_enter Tryd.func69, Tryd.ntmps69
  go_wp2
  clear v1 v2 v3 v4
  go_loopg [15] (s.size + 1 - n) (fun q v15 wr => ∃ (k : Nat) (K : Int), v15 = .int .i64 K ∧ Aside0 (K = (k : Int)) ∧ Aside0 (k + q = s.size + 1 - n) ∧ Aside0 (wr.ownsGroups Tryd.prog 9 (w.heap.size + 1) 3 .i64 w.heap.size k (subG (H := H) s n k)) ∧ Aside0 (Below w.heap.size w wr) ∧ Aside0 (w.heap.size + 1 ≤ wr.heap.size))
  case atStart => exact ⟨0, 0, rfl, ⟨rfl⟩, ⟨by omega⟩, ⟨World.ownsGroups_made _ _ _ _ _⟩, ⟨(Below.refl _ _).alloc (Nat.le_refl _) _⟩, ⟨by simp⟩⟩
  case round =>
    obtain ⟨k, K, rfl, HK, HQ, HO, HX, HS⟩ := hrel
    have hK := HK.out; have hQ := HQ.out; have hM := HM.out; have hN := HN.out
    cases gk with
    | zero =>
      have c1 : decide (K < M) = false := decide_eq_false (by omega)
      obtain rfl : k = s.size + 1 - n := by omega
      have hO := HO.out
      clear hK hQ hM hN
      go_wp2
      go_ret
      exact ⟨rfl, hO, HX.out⟩
    | succ q =>
      have c1 : decide (K < M) = true := decide_eq_true (by omega)
      obtain ⟨X, HX1⟩ : ∃ X : Int, Aside0 (X = ((k + n : Nat) : Int)) := ⟨_, ⟨rfl⟩⟩
      have hX := HX1.out
      have u1 : (IntKind.i64.wrap (K + N)) = X := (i64_w _).trans ((Go.IntWalk.wrap64_in _ (by omega)).trans (by omega))
      have u2 : wrap64 (K + N) = X := (Go.IntWalk.wrap64_in _ (by omega)).trans (by omega)
      have hsl : ∀ W, (Instr.slice 9 (.string s) (some (.int .i64 K)) (some (.int .i64 X)) none).run Tryd.prog W = .ok (.string (subAt s n k)) W := fun W => by
        rw [hK, hX, run_slice_string W 9 s .i64 .i64 (k : Int) ((k + n : Nat) : Int) Tryd.underlying9 (by omega) (by omega) (by omega)]
        rfl
      have hkey := keyS_ok (subAt s n k) (by unfold maxLen subAt; rw [ByteArray.size_extract]; omega)
      have hq : q + 1 + k = s.size + 1 - n := by omega
      have hkb : k ≤ 160 := by omega
      have hKb : -9223372036854775808 ≤ K ∧ K ≤ 9223372036854775807 := ⟨by omega, by omega⟩
      have hown := HO.out; have hS := HS.out
      have HQ2 : Aside0 (k + 1 + q = s.size + 1 - n) := ⟨by omega⟩
      have HK2 : Aside0 (wrap64 (K + 1) = ((k + 1 : Nat) : Int)) := ⟨by rw [Go.IntWalk.wrap64_in _ (by omega)]; omega⟩
      clear hK hQ hM hN hX hq
      go_wp2_with (first
        | (at_lookup; refine wpList_lookup_groups _ rfl _ _ 92 rfl 9 34 3 .i64 law9 Tryd.underlying92 (zero34 _) (w.heap.size + 1) w.heap.size k _ rfl hown (by unfold maxLen; omega) _ _ rfl hkey ?_; intro v zs hat hoi hzl hback)
        | (at_builtin; refine wpList_append_own_at _ rfl _ _ 34 rfl (w.heap.size + 1) 3 i0 (.int .i64 0) 1 8 Tryd.underlying34 hi hz0 hz1 hz2 rfl (by decide) _ _ _ rfl (hoi.1.alloc _) ⟨wr.heap.size, 0, none⟩ 1 1 [.int .i64 K] rfl rfl (cell_one_new _ _ _) (ints_oneCell .i64 [K]) (by unfold maxLen; omega) (by omega) (by simp; omega) ?_; intro v' w1 hown' hgrow hnil hloc)
        | (at_mapUpdate; refine wpList_mapUpdate_back _ rfl _ _ _ 92 rfl hback rfl rfl rfl ((World.grownBy_alloc _ _ _).trans hgrow) (hoi.appended hown' (WalkArith.wf_i64 (by first | omega | exact hKb))) (by simp; omega) (hloc.imp id (fun h => ⟨_, h, by simp⟩)) ?_; intro w2 hown2 hgrow2))
      have hall := (World.grownBy_alloc wr _ _).trans hgrow
      go_roundg q
      case measure => omega
      case rel =>
        refine ⟨k + 1, wrap64 (K + 1), (by first | rfl | (simp; done)), HK2, HQ2, ⟨?_⟩, ⟨HX.out.groups hoi hall hgrow2 HX.out.size (Nat.le_succ _) (Nat.le_refl _)⟩, ⟨Nat.le_trans HS.out (Nat.le_trans hall.size hgrow2.size)⟩⟩
        rw [subG_step s n k hoi hat, ← HK.out, ← (hoi.appended hown' (WalkArith.wf_i64 (by first | omega | exact hKb))).datum_pos (by simp)]
        exact hown2
end Go.Proofs.YtpeeflkodpnbpaaDoor.Pr
namespace Go.Proofs.YtpeeflkodpnbpaaDoor.Pr
open Go.RowKit Go.WideMaps Go.Maps Go.Proofs.YtpeeflkodpnbpaaDoorW.PrintWords Go.Proofs.YtpeeflkodpnbpaaDoorW.PrintLast Go.Proofs.YtpeeflkodpnbpaaDoorW.PrintMore
set_option linter.unusedVariables false
set_option linter.unusedSimpArgs false

/-- the number of the first known string that is t, from m + 1 on; or 0 -/
def numK (t : ByteArray) : List ByteArray → Nat → Int
  | [], _ => 0
  | x :: l, m => if x = t then ((m + 1 : Nat) : Int) else numK t l (m + 1)
theorem numK_mem {t : ByteArray} : ∀ {l : List ByteArray} {m : Nat}, t ∉ l → numK t l m = 0
  | [], _, _ => rfl
  | x :: l, m, h => by
    rw [numK, if_neg (fun e => h (by rw [e]; exact List.mem_cons_self)), numK_mem (fun hh => h (List.mem_cons_of_mem _ hh))]
theorem numK_range {t : ByteArray} : ∀ {l : List ByteArray} {m : Nat}, 0 ≤ numK t l m ∧ numK t l m ≤ m + l.length
  | [], m => by simp [numK]
  | x :: l, m => by
    have := @numK_range t l (m + 1)
    rw [numK]
    split
    · simp only [List.length_cons]; omega
    · simp only [List.length_cons]; omega
theorem numK_pos {t : ByteArray} : ∀ {l : List ByteArray} {m : Nat}, t ∈ l → (m : Int) < numK t l m
  | x :: l, m, h => by
    rw [numK]
    split
    · omega
    · rename_i hne
      rcases List.mem_cons.1 h with e | h
      · exact absurd e.symm hne
      · have := @numK_pos t l (m + 1) h
        omega
theorem numK_append_old {t : ByteArray} : ∀ {l : List ByteArray} {m : Nat} (r : List ByteArray), t ∈ l → numK t (l ++ r) m = numK t l m
  | x :: l, m, r, h => by
    rw [List.cons_append, numK, numK]
    split
    · rfl
    · rename_i hne
      rcases List.mem_cons.1 h with e | h
      · exact absurd e.symm hne
      · exact numK_append_old r h
theorem numK_append_new {t : ByteArray} : ∀ {l : List ByteArray} {m : Nat} (r : List ByteArray), t ∉ l → numK t (l ++ r) m = numK t r (m + l.length)
  | [], m, r, _ => by simp
  | x :: l, m, r, h => by
    rw [List.cons_append, numK, if_neg (fun e => h (by rw [e]; exact List.mem_cons_self)), numK_append_new r (fun hh => h (List.mem_cons_of_mem _ hh))]
    congr 1
    simp; omega
theorem numK_append_other {t x : ByteArray} {l : List ByteArray} {m : Nat} (h : t ≠ x) : numK t (l ++ [x]) m = numK t l m := by
  by_cases hm : t ∈ l
  · exact numK_append_old _ hm
  · rw [numK_append_new _ hm, numK_mem hm, numK, if_neg (fun e => h e.symm)]; rfl
theorem numK_append_here {x : ByteArray} {l : List ByteArray} {m : Nat} (h : x ∉ l) : numK x (l ++ [x]) m = ((m + l.length + 1 : Nat) : Int) := by
  rw [numK_append_new _ h, numK, if_pos rfl]

def memB (t : ByteArray) : List ByteArray → Bool
  | [] => false
  | x :: l => if x = t then true else memB t l
theorem memB_iff {t : ByteArray} : ∀ {l : List ByteArray}, memB t l = true ↔ t ∈ l
  | [] => by simp [memB]
  | x :: l => by
    rw [memB]
    split
    · rename_i h; simp [h]
    · rename_i h
      rw [memB_iff, List.mem_cons]
      exact ⟨.inr, fun hh => hh.resolve_left (fun e => h e.symm)⟩
theorem memB_app (t x : ByteArray) : ∀ l : List ByteArray, memB t (l ++ [x]) = (memB t l || decide (x = t))
  | [] => by simp only [List.nil_append, memB]; split <;> simp_all
  | y :: l => by
    rw [List.cons_append, memB, memB, memB_app t x l]
    split <;> simp
def emptyB : ByteArray := ⟨#[]⟩
/-- the map of the known strings -/
structure MapIs {H : Type} (D : DataW H) (known : List ByteArray) : Prop where
  isMap : IsMap D
  at_ : ∀ t : ByteArray, D.atKey (keyS t) (.lit (.int .i64 0)) = .lit (.int .i64 (numK t known 0))
  has : ∀ t : ByteArray, Maps.has D (keyS t) = (decide (t = emptyB) || memB t known)
theorem keyS_inj {t u : ByteArray} (h : keyS t = keyS u) : t = u := by
  unfold keyS at h
  injection h with h
  exact Go.WideShapes.bytes_inj h
theorem keyLit (t : ByteArray) : Go.WideAt.IsKeyLit (keyS t) := trivial
theorem MapIs.first {H : Type} : MapIs (H := H) ((DataW.map []).put (keyS emptyB) (.lit (.int .i64 0))) [] := by
  refine ⟨⟨_, rfl⟩, fun t => ?_, fun t => ?_⟩
  · by_cases h : t = emptyB
    · subst h
      rw [atKey_put_same ⟨_, rfl⟩ (keyLit _)]; rfl
    · rw [atKey_put_other (fun e => h (keyS_inj e))]; rfl
  · by_cases h : t = emptyB
    · subst h
      rw [has_put_same ⟨_, rfl⟩ (keyLit _)]; simp
    · rw [has_put_other (fun e => h (keyS_inj e))]; simp [h, memB]; rfl
theorem MapIs.put {H : Type} {D : DataW H} {known : List ByteArray} (h : MapIs D known) {x : ByteArray} (hx : x ∉ known) (he : x ≠ emptyB) : MapIs (D.put (keyS x) (.lit (.int .i64 ((known.length + 1 : Nat) : Int)))) (known ++ [x]) := by
  refine ⟨h.isMap.put _ _, fun t => ?_, fun t => ?_⟩
  · by_cases e : t = x
    · subst e
      rw [atKey_put_same h.isMap (keyLit _), numK_append_here hx]
      simp
    · rw [atKey_put_other (fun e' => e (keyS_inj e')), h.at_, numK_append_other e]
  · by_cases e : t = x
    · subst e
      rw [has_put_same h.isMap (keyLit _), memB_app]; simp
    · rw [has_put_other (fun e' => e (keyS_inj e')), h.has, memB_app, decide_eq_false (fun e' => e e'.symm : ¬ x = t), Bool.or_false]
theorem MapIs.dup {H : Type} {D : DataW H} {known : List ByteArray} (h : MapIs D known) {x : ByteArray} (hx : x ∈ known) : MapIs D (known ++ [x]) := by
  refine ⟨h.isMap, fun t => ?_, fun t => ?_⟩
  · by_cases e : t = x
    · subst e
      rw [h.at_, numK_append_old _ hx]
    · rw [h.at_, numK_append_other e]
  · rw [h.has, memB_app]
    by_cases e : t = x
    · subst e; simp [memB_iff.2 hx]
    · rw [decide_eq_false (fun e' => e e'.symm : ¬ x = t), Bool.or_false]

/-- how far the factor at i goes -/
def extL (s : ByteArray) (known : List ByteArray) (i : Nat) : Nat → Nat → Nat
  | 0, n => n
  | q + 1, n => if i + n < s.size ∧ memB (subAt s n i) known = true then extL s known i q (n + 1) else n
def learnF (s : ByteArray) : Nat → Nat → List ByteArray → List S63 → List S63
  | 0, _, _, out => out
  | q + 1, i, known, out => if i < s.size then learnF s q (i + extL s known i s.size 1) (known ++ [subAt s (extL s known i s.size 1) i]) (out ++ [⟨numK (subAt s (extL s known i s.size 1 - 1) i) known 0, (extL s known i s.size 1 : Int)⟩]) else out
theorem extL_ge (s : ByteArray) (known : List ByteArray) (i : Nat) : ∀ q n, n ≤ extL s known i q n
  | 0, n => Nat.le_refl _
  | q + 1, n => by
    rw [extL]
    split
    · exact Nat.le_trans (Nat.le_succ _) (extL_ge s known i q (n + 1))
    · exact Nat.le_refl _
theorem extL_le (s : ByteArray) (known : List ByteArray) (i : Nat) : ∀ q n, i + n ≤ s.size → i + extL s known i q n ≤ s.size
  | 0, n, h => h
  | q + 1, n, h => by
    rw [extL]
    split
    · rename_i hc
      exact extL_le s known i q (n + 1) (by omega)
    · exact h
theorem extL_stop {s : ByteArray} {known : List ByteArray} {i q n N : Nat} (c : ¬ (i + n < s.size ∧ memB (subAt s n i) known = true)) (h : extL s known i q n = N) : N = n := by
  cases q with
  | zero => exact h.symm
  | succ q => rw [extL, if_neg c] at h; exact h.symm
theorem subAt_size (s : ByteArray) (n i : Nat) (h : i + n ≤ s.size) : (subAt s n i).size = n := by
  unfold subAt; rw [ByteArray.size_extract]; omega
theorem subAt_ne_empty (s : ByteArray) (n i : Nat) (h : i + n ≤ s.size) (h1 : 1 ≤ n) : subAt s n i ≠ emptyB := fun e => by
  have := subAt_size s n i h
  rw [e] at this
  have : (0 : Nat) = n := this
  omega
end Go.Proofs.YtpeeflkodpnbpaaDoor.Pr
