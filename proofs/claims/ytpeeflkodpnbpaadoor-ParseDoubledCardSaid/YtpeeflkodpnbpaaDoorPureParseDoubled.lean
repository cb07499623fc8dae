/- ParseDoubled, plainly: a word written twice parses as the word parses, or with one sign more; its turns are the word's, each twice, and its position is twice the word's. -/
import Derived.Test.YtpeeflkodpnbpaaDoorHTurns
import Derived.Test.YtpeeflkodpnbpaaDoorHCnt
import Derived.Test.YtpeeflkodpnbpaaDoorHCopy
import Derived.Test.YtpeeflkodpnbpaaDoorPrB2
import Derived.Test.YtpeeflkodpnbpaaDoorHAw
import Derived.Test.YtpeeflkodpnbpaaDoorHTame
/- The inversion of the sorted turns: the letter at place i of the sorted letters stands at place next[i] of the last letters. -/
namespace Go.Proofs.YtpeeflkodpnbpaaDoor.Pr
open Go.RowKit Go.Proofs.YtpeeflkodpnbpaaDoorW.PrintWords Go.Proofs.YtpeeflkodpnbpaaDoorW.PrintLast Go.Proofs.YtpeeflkodpnbpaaDoorW.PrintMore
set_option linter.unusedVariables false
set_option linter.unusedSimpArgs false

/-- the last letter goes to the front -/
def un {α : Type} (x : List α) : List α := x.drop (x.length - 1) ++ x.take (x.length - 1)
theorem un_snoc {α : Type} (x : List α) (c : α) : un (x ++ [c]) = c :: x := by
  unfold un
  simp
theorem snoc_of {α : Type} : ∀ (x : List α), 1 ≤ x.length → ∃ y c, x = y ++ [c]
  | x, h => ⟨x.dropLast, x.getLast (by intro e; subst e; simp at h), (List.dropLast_concat_getLast _).symm⟩
theorem un_len {α : Type} (x : List α) (h : 1 ≤ x.length) : (un x).length = x.length := by
  obtain ⟨y, c, rfl⟩ := snoc_of x h
  rw [un_snoc]; simp
/-- a turn, as a list of bytes -/
theorem bl_rot (s : ByteArray) (i : Nat) (h : i ≤ s.size) : bl (rotS s i) = (bl s).drop i ++ (bl s).take i := by
  unfold rotS
  rw [bl_append, bl_extract, bl_extract, List.drop_zero, Nat.sub_zero, List.take_of_length_le (by rw [List.length_drop, bl_len]; omega)]
theorem un_rot (s : ByteArray) (i : Nat) (h : i < s.size) : un (bl (rotS s (i + 1))) = bl (rotS s i) := by
  have hlt : i < (bl s).length := by rw [bl_len]; exact h
  rw [bl_rot s (i + 1) (by omega), bl_rot s i (by omega), List.take_succ_eq_append_getElem hlt, ← List.append_assoc, un_snoc, List.drop_eq_getElem_cons hlt, List.cons_append]
theorem rot_full (s : ByteArray) : bl (rotS s s.size) = bl (rotS s 0) := by
  rw [bl_rot s s.size (by omega), bl_rot s 0 (by omega), List.drop_of_length_le (by rw [bl_len]; omega), List.take_of_length_le (by rw [bl_len]; omega)]
  simp
/-- all turns, as lists -/
def RB (s : ByteArray) : List (List UInt8) := (List.range s.size).map (fun i => bl (rotS s i))
theorem rotsUp_eq (s : ByteArray) : ∀ k, (rotsUp s k).map bl = (List.range k).map (fun i => bl (rotS s i))
  | 0 => rfl
  | k + 1 => by
    rw [rotsUp, List.map_append, rotsUp_eq s k, List.range_succ, List.map_append]; rfl
theorem RB_un (s : ByteArray) : ((RB s).map un).Perm (RB s) := by
  unfold RB
  rw [List.map_map]
  cases hn : s.size with
  | zero => exact .refl _
  | succ n =>
    have e1 : (List.range (n + 1)).map (un ∘ fun i => bl (rotS s i)) = bl (rotS s n) :: (List.range n).map (fun i => bl (rotS s i)) := by
      rw [List.range_succ_eq_map, List.map_cons, List.map_map]
      congr 1
      · show un (bl (rotS s 0)) = _
        rw [← rot_full, hn, un_rot s n (by omega)]
      · apply List.map_congr_left
        intro i hi
        have := List.mem_range.1 hi
        exact un_rot s i (by omega)
    rw [e1, List.range_succ, List.map_append]
    exact (List.perm_append_singleton _ _).symm
/-- the sorted turns, as lists -/
def SB (s : ByteArray) : List (List UInt8) := (sortS (rots s)).map bl
theorem SB_perm (s : ByteArray) : (SB s).Perm (RB s) := by
  unfold SB RB
  rw [← rotsUp_eq]
  exact (sortS_perm _).map bl
theorem SB_sorted (s : ByteArray) : (SB s).Pairwise (fun x y : List UInt8 => x ≤ y) := List.pairwise_map.2 (sortS_sorted _)
theorem SB_len (s : ByteArray) : (SB s).length = s.size := by rw [(SB_perm s).length_eq]; simp [RB]
theorem RB_size {s : ByteArray} {x : List UInt8} (h : x ∈ RB s) : x.length = s.size := by
  obtain ⟨i, hi, rfl⟩ := List.mem_map.1 h
  rw [bl_len, rotS_size s i (by have := List.mem_range.1 hi; omega)]
theorem SB_size {s : ByteArray} {x : List UInt8} (h : x ∈ SB s) : x.length = s.size := RB_size ((SB_perm s).mem_iff.1 h)
theorem RB_bytes {s : ByteArray} {x : List UInt8} (h : x ∈ RB s) : ∀ c, c ∈ x → c ∈ bl s := by
  obtain ⟨i, hi, rfl⟩ := List.mem_map.1 h
  intro c hc
  rw [bl_rot s i (by have := List.mem_range.1 hi; omega)] at hc
  rcases List.mem_append.1 hc with hc | hc
  · exact List.mem_of_mem_drop hc
  · exact List.mem_of_mem_take hc

/-! ### the four blocks -/
def lastB (x : List UInt8) : Nat := match x.getLast? with
  | some c => c.toNat
  | none => 0
theorem lastB_snoc (x : List UInt8) (c : UInt8) : lastB (x ++ [c]) = c.toNat := by simp [lastB]
def blocks (L : List (List UInt8)) : List (List UInt8) := L.filter (fun x => lastB x == 97) ++ (L.filter (fun x => lastB x == 98) ++ (L.filter (fun x => lastB x == 99) ++ L.filter (fun x => lastB x == 100)))
theorem blocks_perm : ∀ (L : List (List UInt8)), (∀ x, x ∈ L → lastB x = 97 ∨ lastB x = 98 ∨ lastB x = 99 ∨ lastB x = 100) → (blocks L).Perm L
  | [], _ => .refl _
  | x :: L, h => by
    have ih := blocks_perm L (fun y hy => h y (List.mem_cons_of_mem _ hy))
    unfold blocks at ih ⊢
    rcases h x List.mem_cons_self with e | e | e | e
    · simp only [List.filter_cons, e, Nat.reduceBEq, Bool.false_eq_true, ↓reduceIte]
      exact ih.cons x
    · simp only [List.filter_cons, e, Nat.reduceBEq, Bool.false_eq_true, ↓reduceIte]
      exact List.perm_middle.trans (ih.cons x)
    · simp only [List.filter_cons, e, Nat.reduceBEq, Bool.false_eq_true, ↓reduceIte]
      exact ((List.perm_middle.append_left _).trans List.perm_middle).trans (ih.cons x)
    · simp only [List.filter_cons, e, Nat.reduceBEq, Bool.false_eq_true, ↓reduceIte]
      exact ((((List.perm_middle.append_left _).trans List.perm_middle).append_left _).trans List.perm_middle).trans (ih.cons x)
theorem un_le_same {x y : List UInt8} (hx : 1 ≤ x.length) (hl : x.length = y.length) (e : lastB x = lastB y) (h : x ≤ y) : un x ≤ un y := by
  obtain ⟨p, c, rfl⟩ := snoc_of x hx
  obtain ⟨q, d, rfl⟩ := snoc_of y (by omega)
  rw [lastB_snoc, lastB_snoc] at e
  obtain rfl := UInt8.toNat_inj.1 e
  rw [un_snoc, un_snoc]
  have hpq : p.length = q.length := by simpa using hl
  have key : ∀ (p q : List UInt8), p.length = q.length → p ++ [c] ≤ q ++ [c] → p ≤ q := by
    intro p
    induction p with
    | nil => intro q hq _; cases q with
      | nil => exact List.le_refl _
      | cons b q => simp at hq
    | cons a p ih => intro q hq h; cases q with
      | nil => simp at hq
      | cons b q =>
        rw [List.cons_append, List.cons_append, List.cons_le_cons_iff] at h
        rw [List.cons_le_cons_iff]
        rcases h with h | ⟨h1, h2⟩
        · exact .inl h
        · exact .inr ⟨h1, ih q (by simpa using hq) h2⟩
  rw [List.cons_le_cons_iff]
  exact .inr ⟨rfl, key p q hpq h⟩
theorem un_le_lt {x y : List UInt8} (hx : 1 ≤ x.length) (hy : 1 ≤ y.length) (e : lastB x < lastB y) : un x ≤ un y := by
  obtain ⟨p, c, rfl⟩ := snoc_of x hx
  obtain ⟨q, d, rfl⟩ := snoc_of y hy
  rw [lastB_snoc, lastB_snoc] at e
  rw [un_snoc, un_snoc, List.cons_le_cons_iff]
  exact .inl (UInt8.lt_iff_toNat_lt.2 e)
theorem blocks_sorted (L : List (List UInt8)) (n : Nat) (hn : 1 ≤ n) (hL : L.Pairwise (fun x y : List UInt8 => x ≤ y)) (hz : ∀ x, x ∈ L → x.length = n) : ((blocks L).map un).Pairwise (fun x y : List UInt8 => x ≤ y) := by
  have one : ∀ c, ((L.filter (fun x => lastB x == c)).map un).Pairwise (fun x y : List UInt8 => x ≤ y) := by
    intro c
    refine List.pairwise_map.2 ?_
    have h1 := hL.filter (fun x => lastB x == c)
    refine h1.imp_of_mem (fun {a b} ha hb hle => ?_)
    have ha2 := List.mem_filter.1 ha
    have hb2 := List.mem_filter.1 hb
    exact un_le_same (by rw [hz a ha2.1]; exact hn) (by rw [hz a ha2.1, hz b hb2.1]) (by rw [beq_iff_eq.1 ha2.2, beq_iff_eq.1 hb2.2]) hle
  have two : ∀ c d, c < d → ∀ a, a ∈ (L.filter (fun x => lastB x == c)).map un → ∀ b, b ∈ (L.filter (fun x => lastB x == d)).map un → a ≤ b := by
    intro c d hcd a ha b hb
    obtain ⟨x, hx, rfl⟩ := List.mem_map.1 ha
    obtain ⟨y, hy, rfl⟩ := List.mem_map.1 hb
    have hx2 := List.mem_filter.1 hx
    have hy2 := List.mem_filter.1 hy
    exact un_le_lt (by rw [hz x hx2.1]; exact hn) (by rw [hz y hy2.1]; exact hn) (by rw [beq_iff_eq.1 hx2.2, beq_iff_eq.1 hy2.2]; exact hcd)
  unfold blocks
  rw [List.map_append, List.map_append, List.map_append]
  refine List.pairwise_append.2 ⟨one 97, List.pairwise_append.2 ⟨one 98, List.pairwise_append.2 ⟨one 99, one 100, two 99 100 (by omega)⟩, fun a ha b hb => ?_⟩, fun a ha b hb => ?_⟩
  · rcases List.mem_append.1 hb with hb | hb
    · exact two 98 99 (by omega) a ha b hb
    · exact two 98 100 (by omega) a ha b hb
  · rcases List.mem_append.1 hb with hb | hb
    · exact two 97 98 (by omega) a ha b hb
    · rcases List.mem_append.1 hb with hb | hb
      · exact two 97 99 (by omega) a ha b hb
      · exact two 97 100 (by omega) a ha b hb
theorem blocks_un (s : ByteArray) (hw : isWordC s = true) : (blocks (SB s)).map un = SB s := by
  by_cases hn : s.size = 0
  · have : SB s = [] := List.length_eq_zero_iff.1 (by rw [SB_len, hn])
    rw [this]; rfl
  · have hz : ∀ x, x ∈ SB s → x.length = s.size := fun x hx => SB_size hx
    have hl : ∀ x, x ∈ SB s → lastB x = 97 ∨ lastB x = 98 ∨ lastB x = 99 ∨ lastB x = 100 := by
      intro x hx
      obtain ⟨p, c, rfl⟩ := snoc_of x (by rw [hz x hx]; omega)
      rw [lastB_snoc]
      have := ok_mem s hw c (RB_bytes ((SB_perm s).mem_iff.1 hx) c (by simp))
      rcases this with rfl | rfl | rfl | rfl <;> simp
    refine List.Perm.eq_of_pairwise (le := fun x y : List UInt8 => x ≤ y) (fun a b _ _ h1 h2 => List.le_antisymm h1 h2) (blocks_sorted _ s.size (by omega) (SB_sorted s) hz) (SB_sorted s) ?_
    exact ((blocks_perm _ hl).map un).trans (((SB_perm s).map un).trans ((RB_un s).trans (SB_perm s).symm))
end Go.Proofs.YtpeeflkodpnbpaaDoor.Pr

/- Doubling a word: the copying parse has at most one factor more and never one less; the sorted turns are doubled, each twice. -/
namespace Go.Proofs.YtpeeflkodpnbpaaDoor.Pr
open Go.RowKit Go.Proofs.YtpeeflkodpnbpaaDoorW.PrintWords Go.Proofs.YtpeeflkodpnbpaaDoorW.PrintLast Go.Proofs.YtpeeflkodpnbpaaDoorW.PrintMore
set_option linter.unusedVariables false
set_option linter.unusedSimpArgs false

def btL (l : List UInt8) (i : Nat) : Int := match l[i]? with
  | some c => (c.toNat : Int)
  | none => 0
theorem bt_btL (s : ByteArray) (i : Nat) : bt s (i : Int) = btL (bl s) i := by
  unfold bt btL bl
  rw [Array.getElem?_toList]
  by_cases h : i < s.data.size
  · rw [dif_pos (by rw [Int.toNat_natCast]; exact h), Array.getElem?_eq_getElem h]
    simp only [Int.toNat_natCast]
    rfl
  · rw [dif_neg (by rw [Int.toNat_natCast]; exact h), Array.getElem?_eq_none (by omega)]
theorem bt_dl (s : ByteArray) (i : Nat) (h : i < s.size) : bt (s ++ s) (i : Int) = bt s (i : Int) := by
  rw [bt_btL, bt_btL, bl_append]
  unfold btL
  rw [List.getElem?_append_left (by rw [bl_len]; exact h)]
theorem bt_dr (s : ByteArray) (i : Nat) : bt (s ++ s) ((s.size + i : Nat) : Int) = bt s (i : Int) := by
  rw [bt_btL, bt_btL, bl_append]
  unfold btL
  rw [List.getElem?_append_right (by rw [bl_len]; omega), bl_len, Nat.add_sub_cancel_left]
theorem ext_spec (s : ByteArray) (j i : Nat) : ∀ q n, i + n ≤ s.size → s.size ≤ i + n + q →
    n ≤ ext s j i q n ∧ i + ext s j i q n ≤ s.size ∧ (∀ m, n ≤ m → m < ext s j i q n → bt s ((j + m : Nat) : Int) = bt s ((i + m : Nat) : Int)) ∧ (i + ext s j i q n = s.size ∨ bt s ((j + ext s j i q n : Nat) : Int) ≠ bt s ((i + ext s j i q n : Nat) : Int))
  | 0, n, h1, h2 => by
    rw [ext]
    exact ⟨Nat.le_refl _, h1, fun m a b => absurd b (by omega), .inl (by omega)⟩
  | q + 1, n, h1, h2 => by
    rw [ext]
    by_cases c : i + n < s.size
    · rw [if_pos c]
      by_cases e : bt s ((j + n : Nat) : Int) = bt s ((i + n : Nat) : Int)
      · rw [if_pos e]
        obtain ⟨a1, a2, a3, a4⟩ := ext_spec s j i q (n + 1) (by omega) (by omega)
        refine ⟨by omega, a2, fun m hm1 hm2 => ?_, a4⟩
        by_cases hmn : m = n
        · subst hmn; exact e
        · exact a3 m (by omega) hm2
      · rw [if_neg e]
        exact ⟨Nat.le_refl _, h1, fun m a b => absurd b (by omega), .inr e⟩
    · rw [if_neg c]
      exact ⟨Nat.le_refl _, h1, fun m a b => absurd b (by omega), .inl (by omega)⟩
theorem size_dd (s : ByteArray) : (s ++ s).size = s.size + s.size := ByteArray.size_append
theorem ext_dd (s : ByteArray) (j i : Nat) (hj : j < i) (hi : i < s.size) :
    (i + ext s j i s.size 0 < s.size → ext (s ++ s) j i (s ++ s).size 0 = ext s j i s.size 0) ∧ ext s j i s.size 0 ≤ ext (s ++ s) j i (s ++ s).size 0 := by
  have hz := size_dd s
  obtain ⟨_, a2, a3, a4⟩ := ext_spec s j i s.size 0 (by omega) (by omega)
  obtain ⟨_, b2, b3, b4⟩ := ext_spec (s ++ s) j i (s ++ s).size 0 (by omega) (by omega)
  generalize ext s j i s.size 0 = e at *
  generalize ext (s ++ s) j i (s ++ s).size 0 = E at *
  have hle : e ≤ E := by
    apply Decidable.byContradiction
    intro hc
    rcases b4 with b4 | b4
    · omega
    · apply b4
      rw [bt_dl s _ (by omega), bt_dl s _ (by omega)]
      exact a3 E (by omega) (by omega)
  refine ⟨fun hlt => ?_, hle⟩
  apply Decidable.byContradiction
  intro hc
  rcases a4 with a4 | a4
  · omega
  · apply a4
    have := b3 e (by omega) (by omega)
    rw [bt_dl s _ (by omega), bt_dl s _ (by omega)] at this
    exact this
theorem earl_dd (s : ByteArray) (i : Nat) (hi : i < s.size) : ∀ (m f : Nat) (b b' : Int × Int), f + m = i → factOk s i b → 1 ≤ b'.2 → (b = b' ∨ ((i : Int) + b.2 = s.size ∧ (s.size : Int) ≤ i + b'.2)) →
    (((i : Int) + (earlF s i m f b).2 < s.size → earlF (s ++ s) i m f b' = earlF s i m f b) ∧ ((i : Int) + (earlF s i m f b).2 = s.size → (s.size : Int) ≤ i + (earlF (s ++ s) i m f b').2))
  | 0, f, b, b', hf, ho, h1, h => by
    rw [earlF, earlF]
    rcases h with rfl | ⟨h2, h3⟩
    · exact ⟨fun _ => rfl, fun h => by omega⟩
    · exact ⟨fun h => by omega, fun _ => h3⟩
  | m + 1, f, b, b', hf, ho, h1, h => by
    obtain ⟨x1, x2⟩ := ext_dd s f i (by omega) hi
    have x3 := ext_le s f i s.size 0 (by omega)
    obtain ⟨o1, o2, o3, o4⟩ := ho
    rw [earlF, earlF]
    generalize ext s f i s.size 0 = e at *
    generalize ext (s ++ s) f i (s ++ s).size 0 = E at *
    have hok : factOk s i (pick9 f e b) := by
      unfold pick9
      split
      · exact ⟨by show (1 : Int) ≤ (e : Int); omega, by show (i : Int) + (e : Int) ≤ _; omega, by show (-1 : Int) ≤ (f : Int); omega, by show (f : Int) < i; omega⟩
      · exact ⟨o1, o2, o3, o4⟩
    have hok' : 1 ≤ (pick9 f E b').2 := by
      unfold pick9
      split
      · show (1 : Int) ≤ (E : Int); omega
      · exact h1
    refine earl_dd s i hi m (f + 1) _ _ (by omega) hok hok' ?_
    rcases h with rfl | ⟨h2, h3⟩
    · by_cases c : i + e < s.size
      · rw [x1 c]; exact .inl rfl
      · -- the string goes to the end
        unfold pick9
        by_cases p : 0 < e ∧ (b = ((-1 : Int), (1 : Int)) ∨ b.2 < (e : Int))
        · rw [if_pos p, if_pos ⟨by omega, p.2.imp id (fun h => by omega)⟩]
          exact .inr ⟨by show (i : Int) + (e : Int) = _; omega, by show _ ≤ (i : Int) + (E : Int); omega⟩
        · rw [if_neg p]
          have hbe : (e : Int) ≤ b.2 := by
            apply Decidable.byContradiction
            intro hc
            exact p ⟨by omega, .inr (by omega)⟩
          split
          · refine .inr ⟨by omega, ?_⟩
            show _ ≤ (i : Int) + (E : Int)
            omega
          · exact .inl rfl
    · right
      constructor
      · unfold pick9
        split
        · rename_i p
          show (i : Int) + (e : Int) = _
          rcases p.2 with p2 | p2
          · have := congrArg Prod.snd p2
            have : b.2 = 1 := this
            omega
          · omega
        · exact h2
      · unfold pick9
        split
        · rename_i p
          show _ ≤ (i : Int) + (E : Int)
          rcases p.2 with p2 | p2
          · have := congrArg Prod.snd p2
            have : b'.2 = 1 := this
            omega
          · omega
        · exact h3
theorem earlF_max (s : ByteArray) (i : Nat) : ∀ (m f : Nat) (b : Int × Int), 1 ≤ b.2 → b.2 ≤ (earlF s i m f b).2 ∧ ∀ j, f ≤ j → j < f + m → (ext s j i s.size 0 : Int) ≤ (earlF s i m f b).2
  | 0, f, b, h => ⟨by rw [earlF]; exact Int.le_refl _, fun j h1 h2 => by omega⟩
  | m + 1, f, b, h => by
    rw [earlF]
    have hp : 1 ≤ (pick9 f (ext s f i s.size 0) b).2 ∧ b.2 ≤ (pick9 f (ext s f i s.size 0) b).2 ∧ (ext s f i s.size 0 : Int) ≤ (pick9 f (ext s f i s.size 0) b).2 := by
      generalize ext s f i s.size 0 = e
      unfold pick9
      by_cases p : 0 < e ∧ (b = ((-1 : Int), (1 : Int)) ∨ b.2 < (e : Int))
      · rw [if_pos p]
        refine ⟨by show (1 : Int) ≤ (e : Int); omega, ?_, by show (e : Int) ≤ (e : Int); omega⟩
        show b.2 ≤ (e : Int)
        rcases p.2 with p2 | p2
        · have := congrArg Prod.snd p2
          have : b.2 = 1 := this
          omega
        · omega
      · rw [if_neg p]
        refine ⟨h, Int.le_refl _, ?_⟩
        apply Decidable.byContradiction
        intro hc
        exact p ⟨by omega, .inr (by omega)⟩
    obtain ⟨a1, a2⟩ := earlF_max s i m (f + 1) _ hp.1
    refine ⟨Int.le_trans hp.2.1 a1, fun j h1 h2 => ?_⟩
    by_cases e : j = f
    · subst e; exact Int.le_trans hp.2.2 a1
    · exact a2 j (by omega) (by omega)
theorem fact_tail (s : ByteArray) (p : Nat) (h1 : s.size ≤ p) (h2 : p < (s ++ s).size) : (p : Int) + (factS (s ++ s) p).f1 = (s ++ s).size := by
  have hz := size_dd s
  have ok := earl_ok (s ++ s) p h2
  obtain ⟨_, hm⟩ := earlF_max (s ++ s) p p 0 (-1, 1) (by decide)
  have hmx := hm (p - s.size) (by omega) (by omega)
  obtain ⟨_, b2, b3, b4⟩ := ext_spec (s ++ s) (p - s.size) p (s ++ s).size 0 (by omega) (by omega)
  have hE : p + ext (s ++ s) (p - s.size) p (s ++ s).size 0 = (s ++ s).size := by
    generalize ext (s ++ s) (p - s.size) p (s ++ s).size 0 = E at *
    by_cases c : p + E = (s ++ s).size
    · exact c
    · rcases b4 with b4 | b4
      · exact b4
      · exfalso
        apply b4
        have e1 : p + E = s.size + (p - s.size + E) := by omega
        rw [e1, bt_dr, bt_dl s _ (by omega)]
  have h9 : (factS (s ++ s) p).f1 = (earlF (s ++ s) p p 0 (-1, 1)).2 := rfl
  have o2 := ok.2.1
  rw [h9]
  omega
/-- THE COPYING PARSE OF THE DOUBLED WORD -/
theorem cop_tail (s : ByteArray) (q p : Nat) (h1 : s.size ≤ p) (hq : (s ++ s).size ≤ p + q) : (copF (s ++ s) q p).length ≤ 1 := by
  cases q with
  | zero => simp [copF]
  | succ q =>
    rw [copF]
    split
    · rename_i h2
      have := fact_tail s p h1 h2
      rw [copF_stop (by omega)]
      simp
    · simp
theorem cop_dd (s : ByteArray) : ∀ (q Q i : Nat), i < s.size → s.size ≤ i + q → (s ++ s).size ≤ i + Q → (copF s q i).length ≤ (copF (s ++ s) Q i).length ∧ (copF (s ++ s) Q i).length ≤ (copF s q i).length + 1
  | 0, Q, i, hi, hq, hQ => by omega
  | q + 1, 0, i, hi, hq, hQ => by have := size_dd s; omega
  | q + 1, Q + 1, i, hi, hq, hQ => by
    have hz := size_dd s
    have ok := earl_ok s i hi
    have ok2 := earl_ok (s ++ s) i (by omega)
    obtain ⟨a1, a2⟩ := earl_dd s i hi i 0 (-1, 1) (-1, 1) (by omega) ⟨by decide, by show (i : Int) + 1 ≤ s.size; omega, by decide, by show (-1 : Int) < i; omega⟩ (by decide) (.inl rfl)
    have e1 : (factS s i).f1 = (earlF s i i 0 (-1, 1)).2 := rfl
    have e2 : (factS (s ++ s) i).f1 = (earlF (s ++ s) i i 0 (-1, 1)).2 := rfl
    have o1 := ok.1
    have o2 := ok.2.1
    have o3 := ok2.1
    have o4 := ok2.2.1
    rw [copF, if_pos hi, copF, if_pos (by omega), List.length_cons, List.length_cons]
    by_cases c : (i : Int) + (earlF s i i 0 (-1, 1)).2 < s.size
    · have e3 := a1 c
      rw [← e3] at e1
      rw [e2, e1, e3]
      rw [e3] at o3 o4
      have := cop_dd s q Q (i + (earlF s i i 0 (-1, 1)).2.toNat) (by omega) (by omega) (by omega)
      omega
    · have c2 : (i : Int) + (earlF s i i 0 (-1, 1)).2 = s.size := by omega
      have := a2 c2
      have t := cop_tail s Q (i + (factS (s ++ s) i).f1.toNat) (by rw [e2]; omega) (by rw [e2]; omega)
      rw [copF_stop (s := s) (i := i + (factS s i).f1.toNat) (by rw [e1]; omega)]
      simp only [List.length_nil]
      omega
theorem cop_doubled (s : ByteArray) : (copF s s.size 0).length ≤ (copF (s ++ s) (s ++ s).size 0).length ∧ (copF (s ++ s) (s ++ s).size 0).length ≤ (copF s s.size 0).length + 1 := by
  have hz := size_dd s
  by_cases h : s.size = 0
  · rw [copF_stop (s := s ++ s) (by omega), copF_stop (s := s) (by omega)]
    simp
  · exact cop_dd s s.size (s ++ s).size 0 (by omega) (by omega) (by omega)

/-! ### the sorted turns of the doubled word -/
def dub (L : List (List UInt8)) : List (List UInt8) := L.flatMap (fun x => [x ++ x, x ++ x])
theorem dub_cons (x : List UInt8) (L : List (List UInt8)) : dub (x :: L) = (x ++ x) :: (x ++ x) :: dub L := rfl
theorem dub_perm {L M : List (List UInt8)} (h : L.Perm M) : (dub L).Perm (dub M) := h.flatMap_right _
theorem mem_dub {y : List UInt8} {L : List (List UInt8)} : y ∈ dub L ↔ ∃ x, x ∈ L ∧ y = x ++ x := by
  unfold dub
  simp [List.mem_flatMap]
theorem app_le {x y : List UInt8} : ∀ (hl : x.length = y.length) (h : x ≤ y) (u v : List UInt8), u ≤ v → x ++ u ≤ y ++ v := by
  induction x generalizing y with
  | nil => intro hl _ u v h; cases y with
    | nil => exact h
    | cons b y => simp at hl
  | cons a x ih => intro hl h u v huv; cases y with
    | nil => simp at hl
    | cons b y =>
      rw [List.cons_le_cons_iff] at h
      rw [List.cons_append, List.cons_append, List.cons_le_cons_iff]
      rcases h with h | ⟨h1, h2⟩
      · exact .inl h
      · exact .inr ⟨h1, ih (by simpa using hl) h2 u v huv⟩
theorem dub_sorted : ∀ (L : List (List UInt8)) (n : Nat), L.Pairwise (fun x y : List UInt8 => x ≤ y) → (∀ x, x ∈ L → x.length = n) → (dub L).Pairwise (fun x y : List UInt8 => x ≤ y)
  | [], _, _, _ => .nil
  | x :: L, n, h, hz => by
    have hx := List.pairwise_cons.1 h
    have key : ∀ y, y ∈ dub L → x ++ x ≤ y := by
      intro y hy
      obtain ⟨z, hz2, rfl⟩ := mem_dub.1 hy
      have hle := hx.1 z hz2
      exact app_le (by rw [hz x List.mem_cons_self, hz z (List.mem_cons_of_mem _ hz2)]) hle _ _ hle
    rw [dub_cons]
    refine List.pairwise_cons.2 ⟨fun y hy => ?_, List.pairwise_cons.2 ⟨key, dub_sorted L n hx.2 (fun z hz2 => hz z (List.mem_cons_of_mem _ hz2))⟩⟩
    rcases List.mem_cons.1 hy with rfl | hy
    · exact List.le_refl _
    · exact key y hy
theorem rot_dd (s : ByteArray) (i : Nat) (h : i < s.size) : bl (rotS (s ++ s) i) = bl (rotS s i) ++ bl (rotS s i) ∧ bl (rotS (s ++ s) (s.size + i)) = bl (rotS s i) ++ bl (rotS s i) := by
  have hz := size_dd s
  have hl := bl_len s
  rw [bl_rot s i (by omega), bl_rot (s ++ s) i (by omega), bl_rot (s ++ s) (s.size + i) (by omega), bl_append]
  constructor
  · rw [List.drop_append_of_le_length (by omega), List.take_append_of_le_length (by omega)]
    have e := List.take_append_drop i (bl s)
    generalize List.take i (bl s) = a at *
    generalize List.drop i (bl s) = b at *
    rw [← e]
    simp only [List.append_assoc]
  · have e1 : List.drop (s.size + i) (bl s ++ bl s) = List.drop i (bl s) := by
      rw [← hl, List.drop_append, List.drop_of_length_le (by omega), Nat.add_sub_cancel_left, List.nil_append]
    have e2 : List.take (s.size + i) (bl s ++ bl s) = bl s ++ List.take i (bl s) := by
      rw [← hl, List.take_append, List.take_of_length_le (by omega), Nat.add_sub_cancel_left]
    rw [e1, e2]
    have e := List.take_append_drop i (bl s)
    generalize List.take i (bl s) = a at *
    generalize List.drop i (bl s) = b at *
    rw [← e]
    simp only [List.append_assoc]
end Go.Proofs.YtpeeflkodpnbpaaDoor.Pr

namespace Go.Proofs.YtpeeflkodpnbpaaDoor.Pure
open Go.RowKit Go.Proofs.YtpeeflkodpnbpaaDoor.Pr Go.Proofs.YtpeeflkodpnbpaaDoorW.PrintWords Go.Proofs.YtpeeflkodpnbpaaDoorW.PrintLast
set_option linter.unusedVariables false

theorem dd_perm {α β : Type} (f : α → β) : ∀ (l : List α), (l.map f ++ l.map f).Perm (l.flatMap (fun x => [f x, f x]))
  | [] => .refl _
  | x :: l => by
    show (f x :: (l.map f ++ f x :: l.map f)).Perm (f x :: f x :: l.flatMap (fun x => [f x, f x]))
    exact (List.perm_middle.trans ((dd_perm f l).cons _)).cons _
theorem RB_dd (s : ByteArray) : (RB (s ++ s)).Perm (dub (RB s)) := by
  have hz := size_dd s
  have e : RB (s ++ s) = (List.range s.size).map (fun i => bl (rotS s i) ++ bl (rotS s i)) ++ (List.range s.size).map (fun i => bl (rotS s i) ++ bl (rotS s i)) := by
    unfold RB
    rw [hz, List.range_add, List.map_append, List.map_map]
    congr 1
    · apply List.map_congr_left
      intro i hi
      exact (rot_dd s i (List.mem_range.1 hi)).1
    · apply List.map_congr_left
      intro i hi
      exact (rot_dd s i (List.mem_range.1 hi)).2
  rw [e]
  refine (dd_perm _ _).trans ?_
  unfold dub RB
  rw [List.flatMap_map]
theorem le_anti {x y : List UInt8} (h1 : x ≤ y) (h2 : y ≤ x) : x = y := List.le_antisymm h1 h2
theorem SB_dd (s : ByteArray) : SB (s ++ s) = dub (SB s) := by
  have p : (SB (s ++ s)).Perm (dub (SB s)) := (SB_perm (s ++ s)).trans ((RB_dd s).trans (dub_perm (SB_perm s).symm))
  exact p.eq_of_pairwise (fun a b _ _ h1 h2 => le_anti h1 h2) (SB_sorted (s ++ s)) (dub_sorted (SB s) s.size (SB_sorted s) (fun x h => SB_size h))
theorem dub_get : ∀ (L : List (List UInt8)) (i : Nat), i < L.length → (dub L).getD (2 * i) [] = L.getD i [] ++ L.getD i [] ∧ (dub L).getD (2 * i + 1) [] = L.getD i [] ++ L.getD i []
  | x :: L, 0, _ => ⟨rfl, rfl⟩
  | x :: L, i + 1, h => by
    have ih := dub_get L i (by simpa using h)
    rw [dub_cons, show 2 * (i + 1) = 2 * i + 1 + 1 by omega]
    simp only [List.getD_cons_succ]
    exact ih
def idxB (x : List UInt8) : List (List UInt8) → Nat → Int
  | [], _ => -1
  | y :: l, i => if x = y then (i : Int) else idxB x l (i + 1)
theorem idxS_idxB (s : ByteArray) : ∀ (l : List ByteArray) (i : Nat), idxS s l i = idxB (bl s) (l.map bl) i
  | [], _ => rfl
  | x :: l, i => by
    rw [idxS, List.map_cons, idxB, idxS_idxB s l (i + 1)]
    by_cases e : s = x
    · rw [if_pos e, if_pos (by rw [e])]
    · rw [if_neg e, if_neg (fun h => e (bl_inj h))]
theorem app_self {x y : List UInt8} (hl : x.length = y.length) : x ++ x = y ++ y ↔ x = y :=
  ⟨fun h => (List.append_inj h hl).1, fun h => by rw [h]⟩
theorem idxB_dub (x : List UInt8) : ∀ (L : List (List UInt8)) (m : Nat), x ∈ L → (∀ y, y ∈ L → x.length = y.length) → 0 ≤ idxB x L m ∧ idxB (x ++ x) (dub L) (2 * m) = 2 * idxB x L m
  | y :: L, m, h, hl => by
    rw [dub_cons, idxB, idxB, idxB]
    by_cases e : x = y
    · rw [if_pos e, if_pos (by rw [e])]
      constructor <;> omega
    · have e2 : ¬ x ++ x = y ++ y := fun h => e ((app_self (hl y List.mem_cons_self)).1 h)
      rw [if_neg e, if_neg e2, if_neg e2]
      rcases List.mem_cons.1 h with h | h
      · exact absurd h e
      · exact idxB_dub x L (m + 1) h (fun z hz => hl z (List.mem_cons_of_mem _ hz))
theorem rot_zero (s : ByteArray) : rotS s 0 = s := by
  apply bl_inj
  rw [bl_rot s 0 (by omega)]; simp
theorem turnP_dd (s : ByteArray) : 0 ≤ turnP s ∧ turnP s ≤ s.size ∧ turnP (s ++ s) = 2 * turnP s := by
  have e : ∀ t : ByteArray, turnP t = mx 0 (idxB (bl t) (SB t) 0) := fun t => by unfold turnP; rw [idxS_idxB]; rfl
  rw [e, e, SB_dd, bl_append]
  by_cases hn : s.size = 0
  · have : SB s = [] := List.length_eq_zero_iff.1 (by rw [SB_len, hn])
    rw [this]
    simp [dub, idxB, mx]
  · have hm : bl s ∈ SB s := (SB_perm s).mem_iff.2 (List.mem_map.2 ⟨0, List.mem_range.2 (by omega), by rw [rot_zero]⟩)
    have hlen : ∀ y, y ∈ SB s → (bl s).length = y.length := fun y hy => by rw [bl_len, SB_size hy]
    obtain ⟨h1, h2⟩ := idxB_dub (bl s) (SB s) 0 hm hlen
    have h3 : ∀ (L : List (List UInt8)) (m : Nat), idxB (bl s) L m ≤ ((m + L.length : Nat) : Int) := by
      intro L
      induction L with
      | nil => intro m; rw [idxB]; omega
      | cons y L ih =>
        intro m
        rw [idxB]
        split
        · omega
        · have := ih (m + 1)
          rw [List.length_cons]; omega
    have h4 := h3 (SB s) 0
    rw [SB_len] at h4
    rw [show (0 : Nat) = 2 * 0 from rfl, h2]
    generalize idxB (bl s) (SB s) (2 * 0) = q at *
    unfold mx
    split <;> split <;> omega
def g9 (s : ByteArray) (i : Nat) : List UInt8 := (SB s).getD i []
theorem g9_dd (s : ByteArray) (i : Nat) (hi : i < s.size) : g9 (s ++ s) (2 * i) = g9 s i ++ g9 s i ∧ g9 (s ++ s) (2 * i + 1) = g9 s i ++ g9 s i := by
  unfold g9
  rw [SB_dd]
  exact dub_get (SB s) i (by rw [SB_len]; exact hi)
theorem lastN_bl (t : ByteArray) (h : 1 ≤ t.size) : lastN t = (lastB (bl t) : Int) := by
  have hlt : t.size - 1 < t.data.size := by have : t.data.size = t.size := rfl; omega
  unfold lastN bt
  rw [dif_pos (by omega)]
  have e : ((t.size : Int) - 1).toNat = t.size - 1 := by omega
  simp only [e]
  unfold lastB
  have h2 : (bl t).getLast? = some (t.data[t.size - 1]'hlt) := by
    rw [List.getLast?_eq_getElem?, bl_len]
    unfold bl
    rw [Array.getElem?_toList]
    exact Array.getElem?_eq_getElem hlt
  rw [h2]
  rfl
theorem bt_turn (s : ByteArray) (i : Nat) (hi : i < s.size) : bt (turnL s) (i : Int) = (lastB (g9 s i) : Int) := by
  have hz := turnL_size s
  have hl : i < (sortS (rots s)).length := by rw [sortS_len]; rw [show (rots s).length = s.size from rotsUp_len s s.size]; exact hi
  have hmem : (sortS (rots s))[i] ∈ sortS (rots s) := List.getElem_mem hl
  have hsz : ((sortS (rots s))[i]).size = s.size := by
    obtain ⟨j, hj, e⟩ := mem_rotsUp.1 ((sortS_perm _).mem_iff.1 hmem)
    rw [e]; exact rotS_size s j (by omega)
  have e1 : g9 s i = bl (sortS (rots s))[i] := by simp [g9, SB, hl]
  have e2 := lastN_bl (sortS (rots s))[i] (by omega)
  rw [← e1] at e2
  have hb : lastB (g9 s i) < 256 := by
    unfold lastB
    split
    · exact UInt8.toNat_lt _
    · omega
  unfold bt
  rw [dif_pos (by rw [Int.toNat_natCast, hz]; exact hi)]
  have h3 : ((turnL s).data[i]?) = some (UInt8.ofNat (lastN (sortS (rots s))[i]).toNat) := by
    unfold turnL
    rw [← Array.getElem?_toList, strOfNums_data]
    simp [lastsOf, hl]
  have h4 : i < (turnL s).data.size := by have : (turnL s).data.size = s.size := hz; omega
  have h5 : (turnL s).data[i]'h4 = UInt8.ofNat (lastN (sortS (rots s))[i]).toNat := by
    rw [Array.getElem?_eq_getElem h4] at h3
    exact Option.some.inj h3
  have h6 : ((turnL s)[(i : Int).toNat]'(by rw [Int.toNat_natCast, hz]; exact hi)) = (turnL s).data[i]'h4 := by
    simp only [Int.toNat_natCast]; rfl
  rw [h6, h5, e2, Int.toNat_natCast, UInt8.toNat_ofNat']
  omega
theorem g9_len (s : ByteArray) (i : Nat) (hi : i < s.size) : (g9 s i).length = s.size := by
  have hl : i < (SB s).length := by rw [SB_len]; exact hi
  rw [show g9 s i = (SB s)[i] by simp [g9, hl]]
  exact SB_size (List.getElem_mem hl)
theorem lastB_dd {x : List UInt8} (h : 1 ≤ x.length) : lastB (x ++ x) = lastB x := by
  obtain ⟨y, c, rfl⟩ := snoc_of x h
  rw [← List.append_assoc, lastB_snoc, lastB_snoc]
theorem bt_dd (s : ByteArray) (i : Nat) (hi : i < s.size) : bt (turnL (s ++ s)) ((2 * i : Nat) : Int) = bt (turnL s) (i : Int) ∧ bt (turnL (s ++ s)) ((2 * i + 1 : Nat) : Int) = bt (turnL s) (i : Int) := by
  have hz := size_dd s
  obtain ⟨h1, h2⟩ := g9_dd s i hi
  have hl := g9_len s i hi
  rw [bt_turn (s ++ s) (2 * i) (by omega), bt_turn (s ++ s) (2 * i + 1) (by omega), bt_turn s i hi, h1, h2, lastB_dd (by omega)]
  exact ⟨rfl, rfl⟩
theorem dou_l0 (s : ByteArray) (hs : s.size ≤ 80) : ∀ (m i : Nat), i + m = s.size → Evt (fun k => numnahlaw09_ParseDoubled.l0 k (turnL s) (turnL (s ++ s)) (i : Int)) true
  | 0, i, hi => by
    have hz := turnL_size s
    refine Evt.step (g' := fun k => (numnahlaw09_awake.f k).bind fun t => some t) (fun k => ?_) awake_bind
    rw [numnahlaw09_ParseDoubled.l0, if_neg (by omega)]
  | m + 1, i, hi => by
    have hz := turnL_size s
    have hz2 := turnL_size (s ++ s)
    have hd := size_dd s
    obtain ⟨h1, h2⟩ := bt_dd s i (by omega)
    have w1 : Aside0 (wrap64 (2 * (i : Int)) = ((2 * i : Nat) : Int)) := ⟨(wr (by omega) (by omega)).trans (by omega)⟩
    have w2 : Aside0 (wrap64 (((2 * i : Nat) : Int) + 1) = ((2 * i + 1 : Nat) : Int)) := ⟨(wr (by omega) (by omega)).trans (by omega)⟩
    have w3 : Aside0 (wrap64 ((i : Int) + 1) = ((i + 1 : Nat) : Int)) := ⟨(wr (by omega) (by omega)).trans (by omega)⟩
    have c1 : (i : Int) < ((turnL s).size : Int) := by omega
    have c2 : (0 : Int) ≤ ((2 * i : Nat) : Int) := by omega
    have c3 : ((2 * i : Nat) : Int) < ((turnL (s ++ s)).size : Int) := by omega
    have c4 : (0 : Int) ≤ (i : Int) := by omega
    have c5 : (0 : Int) ≤ ((2 * i + 1 : Nat) : Int) := by omega
    have c6 : ((2 * i + 1 : Nat) : Int) < ((turnL (s ++ s)).size : Int) := by omega
    refine Evt.step (fun k => ?_) (dou_l0 s hs m (i + 1) (by omega))
    rw [numnahlaw09_ParseDoubled.l0, if_pos c1, w1.out, if_pos c2, if_pos c3, if_pos c4, if_pos h1, w2.out, if_pos c5, if_pos c6, if_pos h2, w3.out]
theorem copF_len (s : ByteArray) : ∀ q i, (copF s q i).length ≤ q
  | 0, i => by simp [copF]
  | q + 1, i => by
    rw [copF]
    split
    · have := copF_len s q (i + (factS s i).f1.toNat)
      simp only [List.length_cons]; omega
    · simp
theorem get_app (s t : ByteArray) (i : Nat) : (s ++ t).get! i = if i < s.size then s.get! i else t.get! (i - s.size) := by
  show ((s ++ t).data)[i]! = if i < s.size then s.data[i]! else t.data[i - s.size]!
  rw [ByteArray.data_append, getElem!_def, getElem!_def, getElem!_def, Array.getElem?_append]
  have : s.data.size = s.size := rfl
  rw [this]
  by_cases c : i < s.size <;> simp only [c, if_true, if_false]
theorem ParseDoubled : numnahlaw09_ParseDoubled.Pure := by
  intro a0 h0
  apply Evt.ex
  obtain ⟨s, hs, hw, ht⟩ := tame_ev a0 h0 80 (by omega)
  show Evt (fun k => numnahlaw09_ParseDoubled.f k a0) true
  unfold numnahlaw09_ParseDoubled.f
  have hd := size_dd s
  have hw2 : isWordC (s ++ s) = true := by
    rw [isWordC_iff] at hw ⊢
    refine ⟨by omega, fun i hi => ?_⟩
    unfold okAt
    by_cases c : i < s.size
    · have := hw.2 i c
      unfold okAt at this
      rwa [get_app, if_pos c]
    · have := hw.2 (i - s.size) (by omega)
      unfold okAt at this
      rwa [get_app, if_neg c]
  have hc := cop_doubled s
  have e1 : parse_Copying.f s = some (copF s s.size 0, 0) := by simp [parse_Copying.f, hw]
  have e2 : parse_Copying.f (s ++ s) = some (copF (s ++ s) (s ++ s).size 0, 0) := by simp [parse_Copying.f, hw2]
  have hz := turnL_size s
  have hz2 := turnL_size (s ++ s)
  obtain ⟨p1, p2, p3⟩ := turnP_dd s
  have hcl := copF_len s s.size 0
  have fin := dou_l0 s hs s.size 0 (by omega)
  refine Evt.bind ht (Evt.bind (Evt.all (fun _ => e1)) (Evt.pos (by omega) (Evt.bind (Evt.all (fun _ => e2)) (Evt.bind (turns_ev s hw) (Evt.bind (turns_ev (s ++ s) hw2) ?_)))))
  dsimp only
  have w1 : Aside0 (wrap64 (((copF s s.size 0).length : Int) + 1) = ((copF s s.size 0).length : Int) + 1) := ⟨wr (by omega) (by omega)⟩
  have w2 : Aside0 (wrap64 (2 * (s.size : Int)) = 2 * (s.size : Int)) := ⟨wr (by omega) (by omega)⟩
  have w3 : Aside0 (wrap64 (2 * turnP s) = 2 * turnP s) := ⟨wr (by omega) (by omega)⟩
  rw [w1.out, w2.out, w3.out]
  refine Evt.pos rfl (Evt.pos rfl (Evt.pos rfl (Evt.pos rfl (Evt.neg (by omega) (Evt.neg (by omega) (Evt.pos (by omega) (Evt.pos (by omega) ?_)))))))
  rw [p3, show (2 * turnP s != 2 * turnP s) = false by simp]
  refine Evt.step (fun k => ?_) fin
  rw [numnahlaw09_ParseDoubled.j0, if_neg (by decide)]
  rfl
end Go.Proofs.YtpeeflkodpnbpaaDoor.Pure
