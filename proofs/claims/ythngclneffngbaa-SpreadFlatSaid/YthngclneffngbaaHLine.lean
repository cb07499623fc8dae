import Derived.Test.YthngclneffngbaaPr0
import Derived.Test.YthngclneffngbaaPrA1
import Derived.Test.YthngclneffngbaaHB
import Derived.WalkSpells
import Derived.RegionTactic
import Derived.IntWalk
import Derived.Lib.Hide
import Derived.Outline
namespace Go.Proofs.Ythngclneffngbaa.Pr
open Go.RowKit Go.Proofs.YthngclneffngbaaW.PrintWords Go.Proofs.YthngclneffngbaaW.PrintLast Go.Proofs.YthngclneffngbaaW.PrintMore
set_option linter.unusedVariables false
set_option linter.unusedSimpArgs false

theorem within_true (a b c : Int) (w : World) (h1 : b ≤ a) (h2 : a ≤ c) :
    Calls Try.prog 55 #[.int .i64 a, .int .i64 b, .int .i64 c] w fun e w' => e = .returned (.bool true) ∧ w = w' := by
  go_enter Try.func55, Try.ntmps55
  go_wp2
  go_ret
  exact ⟨rfl, rfl⟩
theorem within_false (a b c : Int) (w : World) (h : a < b ∨ c < a) :
    Calls Try.prog 55 #[.int .i64 a, .int .i64 b, .int .i64 c] w fun e w' => e = .returned (.bool false) ∧ w = w' := by
  by_cases h1 : b ≤ a
  · have h2 : ¬ a ≤ c := by omega
    clear h
    go_enter Try.func55, Try.ntmps55
    go_wp2
    go_ret
    exact ⟨rfl, rfl⟩
  · clear h
    go_enter Try.func55, Try.ntmps55
    go_wp2
    go_ret
    exact ⟨rfl, rfl⟩

/-- how many of a list are less than t -/
def cnt (l : List Int) (t : Int) : Int := (l.filter (fun x => decide (x < t))).length
/-- a block: some first cells, and then N numbers -/
def gcells (pre : List Value) (N : Nat) (f : Nat → Int) : Array Value := (pre ++ (List.range N).map (fun t => Value.int .i64 (f t))).toArray
theorem gcells_size (pre : List Value) (N : Nat) (f : Nat → Int) : (gcells pre N f).size = pre.length + N := by simp [gcells]
theorem gcells_at (pre : List Value) (N : Nat) (f : Nat → Int) (t : Nat) (h : t < N) : (gcells pre N f)[pre.length + t]? = some (.int .i64 (f t)) := by
  simp [gcells, h]
theorem gcells_pre (pre : List Value) (N : Nat) (f : Nat → Int) (t : Nat) (h : t < pre.length) : (gcells pre N f)[t]? = pre[t]? := by
  unfold gcells
  rw [List.getElem?_toArray, List.getElem?_append_left h]
theorem gcells_congr (pre : List Value) (N : Nat) (f g : Nat → Int) (h : ∀ t, t < N → f t = g t) : gcells pre N f = gcells pre N g := by
  unfold gcells
  congr 2
  apply List.map_congr_left
  intro t ht
  rw [h t (List.mem_range.1 ht)]
theorem gcells_set (pre : List Value) (N : Nat) (f : Nat → Int) (t : Nat) (h : t < N) (v : Int) : (gcells pre N f).setIfInBounds (pre.length + t) (.int .i64 v) = gcells pre N (fun u => if u = t then v else f u) := by
  apply Array.ext_getElem?
  intro i
  rw [Array.getElem?_setIfInBounds]
  by_cases e : pre.length + t = i
  · subst e
    rw [if_pos rfl, if_pos (by rw [gcells_size]; omega), gcells_at _ _ _ _ h]
    simp
  · rw [if_neg e]
    by_cases hi : i < pre.length
    · rw [gcells_pre _ _ _ _ hi, gcells_pre _ _ _ _ hi]
    · by_cases h2 : i < pre.length + N
      · obtain ⟨u, rfl⟩ : ∃ u, i = pre.length + u := ⟨i - pre.length, by omega⟩
        rw [gcells_at _ _ _ _ (by omega), gcells_at _ _ _ _ (by omega), if_neg (by omega)]
      · rw [Array.getElem?_eq_none (by rw [gcells_size]; omega), Array.getElem?_eq_none (by rw [gcells_size]; omega)]
def lcells (s n : Int) (f : Nat → Int) : Array Value := gcells [.int .i64 s, .int .i64 n] 1002 f
theorem built91 (s n : Int) : Try.prog.built 91 [(0, .int .i64 s), (1, .int .i64 n)] = some (lcells s n (fun _ => 0)) := by kernel_rfl

def okPts (s : Int) (l : List Int) : Bool := l.all (fun x => decide (0 ≤ x ∧ x ≤ s - 1))
def okLine (s : Int) (l : List Int) : Bool := decide (1 ≤ s ∧ s ≤ 1000) && (decide (1 ≤ l.length ∧ l.length ≤ 60) && okPts s l)
def LineAt (w : World) (b : Nat) (s n : Int) (f : Nat → Int) : Prop := w.heap[b]? = some (.cells (lcells s n f) 91 (0, 0))
def IsLine (w : World) (b : Nat) (s : Int) (l : List Int) : Prop := LineAt w b s l.length (fun t => cnt l t)
def NLpost (s : Int) (l : List Int) (w : World) (e : Ending) (w' : World) : Prop :=
  Below w.heap.size w w' ∧ ((okLine s l = false ∧ e = .returned (.tuple #[.pointer none, .bool false])) ∨
    (okLine s l = true ∧ ∃ b, w.heap.size ≤ b ∧ e = .returned (.tuple #[.pointer (some ⟨b, 0, none⟩), .bool true]) ∧ IsLine w' b s l))
theorem LineAt.cell {w : World} {b : Nat} {s n : Int} {f : Nat → Int} (h : LineAt w b s n f) (t : Nat) (ht : t < 1002) : w.cell? ⟨b, 2 + t, none⟩ = some (.int .i64 (f t)) :=
  (blk_cell h _).trans (gcells_at [.int .i64 s, .int .i64 n] 1002 f t ht)
theorem LineAt.scale {w : World} {b : Nat} {s n : Int} {f : Nat → Int} (h : LineAt w b s n f) : w.cell? ⟨b, 0, none⟩ = some (.int .i64 s) :=
  (blk_cell h _).trans (gcells_pre [.int .i64 s, .int .i64 n] 1002 f 0 (by simp))
theorem LineAt.n {w : World} {b : Nat} {s n : Int} {f : Nat → Int} (h : LineAt w b s n f) : w.cell? ⟨b, 1, none⟩ = some (.int .i64 n) :=
  (blk_cell h _).trans (gcells_pre [.int .i64 s, .int .i64 n] 1002 f 1 (by simp))
theorem LineAt.set {w : World} {b : Nat} {s n : Int} {f : Nat → Int} (h : LineAt w b s n f) (t : Nat) (ht : t < 1002) (v : Int) : LineAt (w.setCell ⟨b, 2 + t, none⟩ (.int .i64 v)) b s n (fun u => if u = t then v else f u) := by
  unfold LineAt lcells
  rw [← gcells_set [.int .i64 s, .int .i64 n] 1002 f t ht v]
  exact blk_set h _ _
theorem LineAt.congr {w : World} {b : Nat} {s n : Int} {f g : Nat → Int} (h : LineAt w b s n f) (e : ∀ t, t < 1002 → f t = g t) : LineAt w b s n g := by
  unfold LineAt lcells
  rw [← gcells_congr [.int .i64 s, .int .i64 n] 1002 f g e]
  exact h
theorem LineAt.below {w w1 : World} {b B : Nat} {s n : Int} {f : Nat → Int} (h : LineAt w b s n f) (hb : Below w.heap.size w w1) : LineAt w1 b s n f := blk_below h hb


theorem cnt_nil (t : Int) : cnt [] t = 0 := rfl
theorem cnt_snoc (l : List Int) (x t : Int) : cnt (l ++ [x]) t = cnt l t + if x < t then 1 else 0 := by
  unfold cnt
  rw [List.filter_append]
  by_cases h : x < t <;> simp [List.filter_cons, h]
theorem cnt_le (l : List Int) (t : Int) : 0 ≤ cnt l t ∧ cnt l t ≤ l.length := by
  unfold cnt
  have := List.length_filter_le (fun x => decide (x < t)) l
  omega
theorem take_succ_rd (l : List Int) (k : Nat) (h : k < l.length) : l.take (k + 1) = l.take k ++ [rd l (k : Int)] := by
  rw [List.take_succ_eq_append_getElem h]
  simp [rd, h]
theorem okPts_snoc (s : Int) (l : List Int) (x : Int) : okPts s (l ++ [x]) = (okPts s l && decide (0 ≤ x ∧ x ≤ s - 1)) := by simp [okPts]
theorem okPts_not (s : Int) (l : List Int) (k : Nat) (hk : k < l.length) (h : ¬ (0 ≤ rd l (k : Int) ∧ rd l (k : Int) ≤ s - 1)) : okPts s l = false := by
  rw [Bool.eq_false_iff]
  intro h1
  unfold okPts at h1
  rw [List.all_eq_true] at h1
  have := h1 (rd l (k : Int)) (by simp [rd, hk])
  simp at this
  omega

/-- what holds at the head of the outer loop's rounds -/
def R1 (s : Int) (l : List Int) (w : World) (b : Nat) (i : Int) (wr : World) : Prop :=
  0 ≤ i ∧ i ≤ l.length ∧ LineAt wr b s l.length (fun t => cnt (l.take i.toNat) t) ∧ Below w.heap.size w wr ∧ okPts s (l.take i.toNat) = true
/-- .. of the inner loop's -/
def R2 (s : Int) (l : List Int) (w : World) (b : Nat) (i x t : Int) (wr : World) : Prop :=
  x < t ∧ t ≤ 1002 ∧ LineAt wr b s l.length (fun u => cnt (l.take i.toNat) u + if x < (u : Int) ∧ (u : Int) < t then 1 else 0) ∧ Below w.heap.size w wr

set_option maxHeartbeats 4000000 in
set_option maxRecDepth 100000 in
theorem newLine_in (s : Int) (A : Option Addr) (c : Nat) (l : List Int) (w : World) (hr : Kd.C (Kd.int .i64) w A l.length l) (hc : l.length ≤ c) (h1 : 1 ≤ s) (h2 : s ≤ 1000) (h3 : 1 ≤ l.length) (h4 : l.length ≤ 60) :
    Calls Try.prog 56 #[.int .i64 s, .slice A l.length c] w (NLpost s l w) := by
  have HR := Lib.hid hr
  clear hr
  have hs0 : LineAt (w.alloc (.cells ((Try.zeroCells91.setIfInBounds 0 (Value.int IntKind.i64 s)).setIfInBounds 1 (Value.int IntKind.i64 l.length)) 91)) w.heap.size s l.length (fun _ => 0) := by
    have e : (Try.zeroCells91.setIfInBounds 0 (Value.int IntKind.i64 s)).setIfInBounds 1 (Value.int IntKind.i64 l.length) = lcells s l.length (fun _ => 0) := by kernel_rfl
    unfold LineAt
    rw [← e]
    exact blk_new w _
  have H0 := Lib.hid hs0
  clear hs0
  go_enter Try.func56, Try.ntmps56
  go_wp2_with (first | (go_at_call 55; refine (within_true _ _ _ _ (by omega) (by omega)).mono ?_; rintro e w' ⟨rfl, rfl⟩))
  go_loopw [26] (fun i wr => ∃ k : Int, i = .int .i64 k ∧ R1 s l w w.heap.size k wr) (fun i _ => l.length - (intOf i).toNat)
  case atStart =>
    exact ⟨0, rfl, by omega, by omega, by simpa [cnt_nil] using H0.out, (Below.refl _ _).alloc (Nat.le_refl _) _, by simp [okPts]⟩
  case round =>
    obtain ⟨k, rfl, hk0, hk1, hl, hb, hok⟩ := hrel
    have HL := Lib.hid hl
    have HB := Lib.hid hb
    have HO := Lib.hid hok
    clear hl hb hok H0
    by_cases hlt : k < l.length
    · obtain ⟨ad, eA, hx⟩ := Kd.at_int (Kd.C_below HR.out HB.out) k hk0 hlt
      subst eA
      by_cases hv : 0 ≤ rd l k ∧ rd l k ≤ s - 1
      · obtain ⟨hv0, hv1⟩ := hv
        have hw1 : wrap64 (s - 1) = s - 1 := by unfold wrap64; omega
        go_wp2_with (first | (go_at_call 55; refine (within_true _ _ _ _ (by omega) (by omega)).mono ?_; rintro e w' ⟨rfl, rfl⟩))
        have hx0 := HL.out
        obtain ⟨wo, hwo⟩ : ∃ wo : World, wo = wr := ⟨_, rfl⟩
        rw [← hwo] at HL HB hx hx0 ⊢
        have HX := Lib.hid hx0
        clear hx0 hwo hx
        go_loopw [9] (fun tv w2 => ∃ t : Int, tv = .int .i64 t ∧ R2 s l w w.heap.size k (rd l k) t w2) (fun tv _ => 1002 - (intOf tv).toNat)
        case atStart =>
          refine ⟨_, rfl, by omega, by omega, ?_, HB.out⟩
          refine HL.out.congr ?_
          intro u _
          rw [if_neg (by omega)]
          omega
        case round =>
          obtain ⟨t, rfl, ht0, ht1, hl2, hb2⟩ := hrel
          have HL2 := Lib.hid hl2
          have HB2 := Lib.hid hb2
          clear hl2 hb2
          by_cases htl : t < 1002
          · have hc1 := HL2.out.cell t.toNat (by omega)
            have hf1 := blk_frozen HL2.out (2 + t.toNat)
            have ht2 : 0 ≤ t := by omega
            obtain ⟨v, hv⟩ : ∃ v, v = cnt (l.take k.toNat) t.toNat := ⟨_, rfl⟩
            have hvb : 0 ≤ v ∧ v ≤ 60 := by
              have := cnt_le (l.take k.toNat) t.toNat
              have := List.length_take_le k.toNat l
              omega
            obtain ⟨hv2, hv3⟩ := hvb
            simp only [Int.toNat_of_nonneg ht2] at hc1
            rw [if_neg (by omega), Int.add_zero] at hc1
            rw [Int.toNat_of_nonneg ht2] at hv
            rw [← hv] at hc1
            have hw2 : wrap64 (v + 1) = v + 1 := by unfold wrap64; omega
            have HV := Lib.hid hv
            clear hv
            go_wp2
            go_region
            go_wp2
            go_roundw
            case rel =>
              refine ⟨t + 1, rfl, by omega, by omega, ?_, below_drew (HB2.out.setCell (p := ⟨w.heap.size, 2 + t.toNat, none⟩) (Nat.le_refl _) _)⟩
              refine LineAt.congr (show LineAt (wr.setCell ⟨w.heap.size, 2 + t.toNat, none⟩ (Value.int IntKind.i64 (v + 1))).drew w.heap.size s l.length _ from HL2.out.set t.toNat (by omega) (v + 1)) ?_
              intro u hu
              by_cases e : u = t.toNat
              · subst e
                rw [if_pos rfl, Int.toNat_of_nonneg ht2, HV.out, if_pos (by omega)]
              · rw [if_neg e]
                by_cases h5 : rd l k < (u : Int) ∧ (u : Int) < t
                · rw [if_pos h5, if_pos (by omega)]
                · rw [if_neg h5, if_neg (by omega)]
            case measure => simp [intOf]; omega
          · have ht3 : t = 1002 := by omega
            subst ht3
            go_wp2
            go_roundw
            case rel =>
              refine ⟨k + 1, rfl, by omega, by omega, ?_, HB2.out, ?_⟩
              · refine HL2.out.congr ?_
                intro u hu
                have e := take_succ_rd l k.toNat (by omega)
                rw [Int.toNat_of_nonneg hk0] at e
                rw [show (k + 1).toNat = k.toNat + 1 by omega, e, cnt_snoc]
                by_cases h5 : rd l k < (u : Int)
                · rw [if_pos h5, if_pos (by omega)]
                · rw [if_neg h5, if_neg (by omega)]
              · have e := take_succ_rd l k.toNat (by omega)
                rw [Int.toNat_of_nonneg hk0] at e
                rw [show (k + 1).toNat = k.toNat + 1 by omega, e, okPts_snoc, HO.out]
                simp
                omega
            case measure => simp [intOf]; omega
      · have hw1 : wrap64 (s - 1) = s - 1 := by unfold wrap64; omega
        have hnv := okPts_not s l k.toNat (by omega) (by rw [Int.toNat_of_nonneg hk0]; exact hv)
        have HN := Lib.hid hnv
        have HV := Lib.hid hv
        clear hnv hv
        go_wp2_with (first | (go_at_call 55; refine (within_false _ _ _ _ (by have := HV.out; omega)).mono ?_; rintro e w' ⟨rfl, rfl⟩))
        go_ret2
        exact ⟨HB.out, .inl ⟨by unfold okLine; rw [HN.out]; simp, rfl⟩⟩
    · have hk : k = l.length := by omega
      subst hk
      go_wp2
      go_ret2
      refine ⟨HB.out, .inr ⟨?_, w.heap.size, Nat.le_refl _, rfl, ?_⟩⟩
      · have h5 := HO.out
        simp at h5
        unfold okLine
        rw [h5]
        simp
        omega
      · have h5 := HL.out
        simp at h5
        exact h5

set_option maxHeartbeats 1000000 in
set_option maxRecDepth 100000 in
theorem newLine_any (s : Int) (A : Option Addr) (c : Nat) (l : List Int) (w : World) (hr : Kd.C (Kd.int .i64) w A l.length l) (hc : l.length ≤ c) :
    Calls Try.prog 56 #[.int .i64 s, .slice A l.length c] w (NLpost s l w) := by
  by_cases h1 : 1 ≤ s ∧ s ≤ 1000
  · by_cases h2 : 1 ≤ l.length ∧ l.length ≤ 60
    · exact newLine_in s A c l w hr hc h1.1 h1.2 h2.1 h2.2
    · have hf : okLine s l = false := by unfold okLine; rw [decide_eq_false h2]; simp
      have HF := Lib.hid hf
      have H2 := Lib.hid h2
      clear hf h2 hr
      obtain ⟨h3, h4⟩ := h1
      go_enter Try.func56, Try.ntmps56
      go_wp2_with (first | (go_at_call 55; refine (within_true _ _ _ _ (by omega) (by omega)).mono ?_; rintro e w' ⟨rfl, rfl⟩) | (go_at_call 55; refine (within_false _ _ _ _ (by have := H2.out; omega)).mono ?_; rintro e w' ⟨rfl, rfl⟩))
      go_ret2
      exact ⟨Below.refl _ _, .inl ⟨HF.out, rfl⟩⟩
  · have hf : okLine s l = false := by unfold okLine; rw [decide_eq_false h1]; simp
    have HF := Lib.hid hf
    have H2 := Lib.hid h1
    clear hf h1 hr
    go_enter Try.func56, Try.ntmps56
    go_wp2_with (first | (go_at_call 55; refine (within_false _ _ _ _ (by have := H2.out; omega)).mono ?_; rintro e w' ⟨rfl, rfl⟩))
    go_ret2
    exact ⟨Below.refl _ _, .inl ⟨HF.out, rfl⟩⟩

/-- how far a count is off -/
def offL (s n c t : Int) : Int := mx (c * s - t * n) (-(c * s - t * n))
theorem bnd_mul {a b A B : Int} (h1 : 0 ≤ a) (h2 : a ≤ A) (h3 : 0 ≤ b) (h4 : b ≤ B) : 0 ≤ a * b ∧ a * b ≤ A * B :=
  ⟨Int.mul_nonneg h1 h3, Int.mul_le_mul h2 h4 h3 (by omega)⟩
theorem abs_any (a r : Int) (w : World) (h : -4000000000000000000 ≤ a ∧ a ≤ 4000000000000000000) (hr : r = mx a (-a)) :
    Calls Try.prog 74 #[.int .i64 a] w fun e w' => e = .returned (.int .i64 r) ∧ w = w' := by
  subst hr
  have hw : wrap64 (-a) = -a := by unfold wrap64; omega
  go_enter Try.func74, Try.ntmps74
  go_wp2
  all_goals
    go_ret
    exact ⟨by unfold mx; simp; omega, rfl⟩
set_option maxHeartbeats 1000000 in
theorem off_any (b : Nat) (s n c t r : Int) (f : Nat → Int) (w0 w : World) (hL0 : LineAt w0 b s n f) (hd : Drawn0 w0 w) (h1 : 0 ≤ s ∧ s ≤ 1000) (h2 : 0 ≤ n ∧ n ≤ 60) (h3 : -60 ≤ c ∧ c ≤ 60) (h4 : 0 ≤ t ∧ t ≤ 1000) (hr : r = offL s n c t) :
    Calls Try.prog 67 #[.pointer (some ⟨b, 0, none⟩), .int .i64 c, .int .i64 t] w fun e w' => e = .returned (.int .i64 r) ∧ Drawn0 w w' := by
  have hL : LineAt w b s n f := by obtain ⟨⟨m, rfl⟩⟩ := hd; exact hL0
  clear hL0 hd
  have hs := hL.scale
  have hn := hL.n
  have HL := Lib.hid hL
  have HR := Lib.hid hr
  clear hL hr
  have hb1 := bnd_mul h4.1 h4.2 h2.1 h2.2
  have hb2 : -120000 ≤ c * s ∧ c * s ≤ 120000 := by
    have h5 := bnd_mul (a := c + 60) (b := s) (by omega) (show c + 60 ≤ 120 by omega) h1.1 h1.2
    rw [Int.add_mul] at h5
    omega
  have w1 : wrap64 (c * s) = c * s := by unfold wrap64; omega
  have w2 : wrap64 (t * n) = t * n := by unfold wrap64; omega
  have w3 : wrap64 (c * s - t * n) = c * s - t * n := by unfold wrap64; omega
  have B := Lib.hid (And.intro hb1 hb2)
  clear hb1 hb2 h1 h2 h3 h4
  go_enter Try.func67, Try.ntmps67
  go_wp2
  go_quiet ((go_at_call 74; exact Calls.quiet_of_same ((abs_any _ _ _ (by have := B.out; omega) HR.out).mono fun e w' h => ⟨h.1, h.2.symm⟩)))
  go_wp2
  go_ret
  exact ⟨rfl, ⟨⟨_, rfl⟩⟩⟩

/-- the deviation at a place, of a count below and one up to -/
def devL (s n : Int) (f : Int → Int) (t : Int) : Int × Bool :=
  if t = s then (offL s n (f t) t, true) else (mx (offL s n (f t) t) (offL s n (f (t + 1)) t), decide (offL s n (f (t + 1)) t ≤ offL s n (f t) t))
set_option maxHeartbeats 1000000 in
theorem deviation_any (b : Nat) (s t : Int) (l : List Int) (w : World) (hL : IsLine w b s l) (h1 : 0 ≤ s ∧ s ≤ 1000) (h2 : l.length ≤ 60) (h4 : 0 ≤ t ∧ t ≤ s) :
    Calls Try.prog 57 #[.pointer (some ⟨b, 0, none⟩), .int .i64 t] w fun e w' => e = .returned (.tuple #[.int .i64 (devL s l.length (cnt l) t).1, .bool (devL s l.length (cnt l) t).2]) ∧ Drawn0 w w' := by
  have hs := LineAt.scale hL
  have hc0 := LineAt.cell hL t.toNat (by omega)
  have hc1 := LineAt.cell hL (t + 1).toNat (by omega)
  simp only [Int.toNat_of_nonneg h4.1, Int.toNat_of_nonneg (show 0 ≤ t + 1 by omega)] at hc0 hc1
  have b0 := cnt_le l t
  have b1 := cnt_le l (t + 1)
  have HL := Lib.hid hL
  clear hL
  have HB := Lib.hid (And.intro b0 b1)
  clear b0 b1
  have HB2 := Lib.hid (And.intro h1 h2)
  obtain ⟨h5, h6⟩ := h4
  obtain ⟨h7, h8⟩ := h1
  unfold devL
  by_cases e : t = s
  · subst e
    rw [if_pos rfl]
    go_enter Try.func57, Try.ntmps57
    go_wp2_with (go_at_call 67; refine (off_any _ _ _ _ _ _ _ w _ HL.out (by first | exact Drawn0.refl _ | exact ⟨⟨_, rfl⟩⟩) (by omega) (by omega) (by have := HB.out; omega) (by omega) rfl).mono ?_; rintro e w' ⟨rfl, ⟨nd, rfl⟩⟩)
    go_ret2
    exact ⟨rfl, ⟨⟨_, rfl⟩⟩⟩
  · rw [if_neg e]
    have e1 : (t == s) = false := by simpa using e
    have e2 : ¬ s = t := fun h => e h.symm
    by_cases hpq : offL s l.length (cnt l t) t < offL s l.length (cnt l (t + 1)) t
    · rw [show mx (offL s l.length (cnt l t) t) (offL s l.length (cnt l (t + 1)) t) = offL s l.length (cnt l (t + 1)) t by unfold mx; rw [if_pos hpq], show decide (offL s l.length (cnt l (t + 1)) t ≤ offL s l.length (cnt l t) t) = false by simp; omega]
      go_enter Try.func57, Try.ntmps57
      go_wp2_with (go_at_call 67; refine (off_any _ _ _ _ _ _ _ w _ HL.out (by first | exact Drawn0.refl _ | exact ⟨⟨_, rfl⟩⟩) (by omega) (by omega) (by have := HB.out; omega) (by omega) rfl).mono ?_; rintro e w' ⟨rfl, ⟨nd, rfl⟩⟩)
      go_ret2
      exact ⟨by simp; omega, ⟨⟨_, rfl⟩⟩⟩
    · rw [show mx (offL s l.length (cnt l t) t) (offL s l.length (cnt l (t + 1)) t) = offL s l.length (cnt l t) t by unfold mx; rw [if_neg hpq], show decide (offL s l.length (cnt l (t + 1)) t ≤ offL s l.length (cnt l t) t) = true by simp; omega]
      go_enter Try.func57, Try.ntmps57
      go_wp2_with (go_at_call 67; refine (off_any _ _ _ _ _ _ _ w _ HL.out (by first | exact Drawn0.refl _ | exact ⟨⟨_, rfl⟩⟩) (by omega) (by omega) (by have := HB.out; omega) (by omega) rfl).mono ?_; rintro e w' ⟨rfl, ⟨nd, rfl⟩⟩)
      go_ret2
      exact ⟨rfl, ⟨⟨_, rfl⟩⟩⟩

theorem offL_bound (s n c t : Int) (h1 : 0 ≤ s ∧ s ≤ 1000) (h2 : 0 ≤ n ∧ n ≤ 60) (h3 : 0 ≤ c ∧ c ≤ 60) (h4 : 0 ≤ t ∧ t ≤ 1000) : 0 ≤ offL s n c t ∧ offL s n c t ≤ 120000 := by
  have hb1 := bnd_mul h4.1 h4.2 h2.1 h2.2
  have hb2 := bnd_mul h3.1 h3.2 h1.1 h1.2
  unfold offL mx
  split <;> omega
theorem devL_bound (s : Int) (l : List Int) (t : Int) (h1 : 0 ≤ s ∧ s ≤ 1000) (h2 : l.length ≤ 60) (h4 : 0 ≤ t ∧ t ≤ s) : 0 ≤ (devL s l.length (cnt l) t).1 ∧ (devL s l.length (cnt l) t).1 ≤ 120000 := by
  have a1 := cnt_le l t
  have a2 := cnt_le l (t + 1)
  have b1 := offL_bound s l.length (cnt l t) t h1 (by omega) (by omega) (by omega)
  have b2 := offL_bound s l.length (cnt l (t + 1)) t h1 (by omega) (by omega) (by omega)
  unfold devL
  split
  · exact b1
  · dsimp only
    unfold mx
    split <;> omega
/-- the greatest deviation at the first k places, the first place that has it, and where from -/
def lineW (s n : Int) (f : Int → Int) : Nat → Int × Int × Bool
  | 0 => (-1, 0, false)
  | k + 1 => if (lineW s n f k).1 < (devL s n f k).1 then ((devL s n f k).1, (k : Int), (devL s n f k).2) else lineW s n f k
theorem lineW_bound (s : Int) (l : List Int) (h1 : 0 ≤ s ∧ s ≤ 1000) (h2 : l.length ≤ 60) : ∀ k : Nat, (k : Int) ≤ s + 1 → -1 ≤ (lineW s l.length (cnt l) k).1 ∧ (lineW s l.length (cnt l) k).1 ≤ 120000
  | 0, _ => by simp [lineW]
  | k + 1, hk => by
    have ih := lineW_bound s l h1 h2 k (by omega)
    have hd := devL_bound s l k h1 h2 (by omega)
    unfold lineW
    split
    · dsimp only; omega
    · exact ih
def spread_Line.f (a0 : Int) (l1 : List Int) : Option (Int × Int × Int × Bool × Int) :=
  if okLine a0 l1 = true then some ((redF (lineW a0 l1.length (cnt l1) (a0 + 1).toNat).1 (l1.length * a0)).1, (redF (lineW a0 l1.length (cnt l1) (a0 + 1).toNat).1 (l1.length * a0)).2,
    (lineW a0 l1.length (cnt l1) (a0 + 1).toNat).2.1, (lineW a0 l1.length (cnt l1) (a0 + 1).toNat).2.2, 0)
  else some (0, 0, 0, false, 2)
theorem frac_any (num den : Int) (w : World) (h1 : 1 ≤ den) (h2 : den ≤ 9000000000000000000) (h3 : -9000000000000000000 ≤ num) (h4 : num ≤ 9000000000000000000) :
    Calls Try.prog 58 #[.int .i64 num, .int .i64 den] w fun e w' => e = .returned (.agg #[.int .i64 (redF num den).1, .int .i64 (redF num den).2]) ∧ Below w.heap.size w w' := by
  obtain ⟨k, hk⟩ := (frac_ev num den h1 h2 h3 h4).ex
  exact spread_frac.calls k num den _ _ w hk
theorem results_cttt {P : Program} {fn : Func} {p u v x : Tmp} {ty : TypeId} (h : fn.results = #[.cell p ty, .tmp u, .tmp v, .tmp x]) (tmps : Array Value) (w : World) (g : Nat) (t : TypeId) (cs : Array Value) (fr : Nat × Nat) (d : TypeDesc)
    (hp : tmps.getD p undef = .pointer (some ⟨g, 0, none⟩)) (hg : w.heap[g]? = some (.cells cs t fr))
    (hu : P.underlying ty = some d) (hd : (match d with | .struct _ | .array _ _ => true | _ => false) = true) (hi : (P.info? ty).map (·.size) = some cs.size) :
    (results fn tmps).run P w = .ok (.tuple #[.agg cs, tmps.getD u undef, tmps.getD v undef, tmps.getD x undef]) w := by
  have hp' : tmps[p]?.getD undef = .pointer (some ⟨g, 0, none⟩) := by simpa using hp
  simp [results, h, hp', asAddr, run_loadVar_row w g t ty cs fr d hg hu hd hi]
theorem okLine_bounds {s : Int} {l : List Int} (h : okLine s l = true) : 1 ≤ s ∧ s ≤ 1000 ∧ 1 ≤ l.length ∧ l.length ≤ 60 := by
  unfold okLine at h
  simp at h
  omega

set_option maxHeartbeats 4000000 in
theorem spread_Line.calls (a0 : Int) (A1 : Option Addr) (c1 : Nat) (l1 : List Int) (r1 r2 r3 : Int) (r4 : Bool) (r5 : Int) (w : World) (hr1 : Kd.C (Kd.int .i64) w A1 l1.length l1) (hc1 : l1.length ≤ c1) (h : spread_Line.f a0 l1 = some (r1, r2, r3, r4, r5)) :
    Calls Try.prog 20 #[.int .i64 a0, .slice A1 l1.length c1] w fun e w' => e = .returned (.tuple #[.agg #[.int .i64 r1, .int .i64 r2], .int .i64 r3, .bool r4, .int .i64 r5]) ∧ Below w.heap.size w w' := by
  have HR := Lib.hid hr1
  clear hr1
  unfold spread_Line.f at h
  by_cases ok : okLine a0 l1 = true
  · rw [if_pos ok] at h
    simp only [Option.some.injEq, Prod.mk.injEq] at h
    obtain ⟨rfl, rfl, rfl, rfl, rfl⟩ := h
    obtain ⟨b1, b2, b3, b4⟩ := okLine_bounds ok
    have OK := Lib.hid ok
    clear ok
    go_enter Try.func20, Try.ntmps20
    go_wp2_with (go_at_call 56; refine (newLine_any _ _ _ l1 _ (Kd.C_alloc HR.out _) hc1).mono ?_; rintro e w1 ⟨hb, ⟨hf, _⟩ | ⟨hf, b, hbl, rfl, hL⟩⟩; (exact absurd OK.out (by rw [hf]; simp)); have HB := Lib.hid hb; clear hb hf; have HL := Lib.hid hL; clear hL; have hbk := blk_below (blk_new w (.cells #[.int .i64 0, .int .i64 0] 26 (0, 0))) HB.out; have HK := Lib.hid hbk; clear hbk)
    have hw1 : wrap64 (a0 + 1) = a0 + 1 := wr (by omega) (by omega)
    go_loopw [10, 11, 12, 27] (fun m a o i wr => ∃ k : Int, 0 ≤ k ∧ k ≤ a0 + 1 ∧ i = .int .i64 k ∧ m = .int .i64 (lineW a0 l1.length (cnt l1) k.toNat).1 ∧ a = .int .i64 (lineW a0 l1.length (cnt l1) k.toNat).2.1 ∧ o = .bool (lineW a0 l1.length (cnt l1) k.toNat).2.2 ∧ Drawn0 w1 wr) (fun _ _ _ i _ => (a0 + 1).toNat - (intOf i).toNat)
    case atStart => exact ⟨0, by omega, by omega, rfl, rfl, rfl, rfl, Drawn0.refl _⟩
    case round =>
      obtain ⟨k, hk0, hk1, rfl, rfl, rfl, rfl, hd⟩ := hrel
      have HD := Lib.hid hd
      clear hd
      by_cases hlt : k < a0 + 1
      · have hst : lineW a0 l1.length (cnt l1) (k + 1).toNat = if (lineW a0 l1.length (cnt l1) k.toNat).1 < (devL a0 l1.length (cnt l1) k).1 then ((devL a0 l1.length (cnt l1) k).1, k, (devL a0 l1.length (cnt l1) k).2) else lineW a0 l1.length (cnt l1) k.toNat := by
          rw [show (k + 1).toNat = k.toNat + 1 by omega, lineW, Int.toNat_of_nonneg hk0]
        have HS := Lib.hid hst
        clear hst
        have hL2 : IsLine wr b a0 l1 := by obtain ⟨⟨m, rfl⟩⟩ := HD.out; exact HL.out
        have HL2 := Lib.hid hL2
        clear hL2
        by_cases hgt : (lineW a0 l1.length (cnt l1) k.toNat).1 < (devL a0 l1.length (cnt l1) k).1
        · go_wp2_with (go_at_call 57; refine (deviation_any b a0 k l1 _ HL2.out (by omega) (by omega) (by omega)).mono ?_; rintro e w3 ⟨rfl, ⟨nd, rfl⟩⟩)
          go_roundw
          case rel => exact ⟨k + 1, by omega, by omega, rfl, by rw [HS.out, if_pos hgt], by rw [HS.out, if_pos hgt], by rw [HS.out, if_pos hgt], HD.out.step _⟩
          case measure => simp [intOf]; omega
        · go_wp2_with (go_at_call 57; refine (deviation_any b a0 k l1 _ HL2.out (by omega) (by omega) (by omega)).mono ?_; rintro e w3 ⟨rfl, ⟨nd, rfl⟩⟩)
          go_roundw
          case rel => exact ⟨k + 1, by omega, by omega, rfl, by rw [HS.out, if_neg (by omega)], by rw [HS.out, if_neg (by omega)], by rw [HS.out, if_neg (by omega)], HD.out.step _⟩
          case measure => simp [intOf]; omega
      · have hk : k = a0 + 1 := by omega
        subst hk
        have hbd := lineW_bound a0 l1 (by omega) (by omega) (a0 + 1).toNat (by omega)
        obtain ⟨hbd1, hbd2⟩ := hbd
        obtain ⟨⟨md, rfl⟩⟩ := HD.out
        have hn := LineAt.n HL.out
        have hmul := bnd_mul (a := l1.length) (b := a0) (A := 60) (B := 1000) (by omega) (by omega) (by omega) (by omega)
        have hmul1 : 1 ≤ (l1.length : Int) * a0 := by
          have := Int.mul_le_mul (a := 1) (b := 1) (c := (l1.length : Int)) (d := a0) (by omega) (by omega) (by omega) (by omega)
          omega
        have hw2 : wrap64 (l1.length * a0) = l1.length * a0 := wr (by omega) (by omega)
        have HM := Lib.hid (And.intro hmul hmul1)
        clear hmul hmul1
        go_wp2_with (go_at_call 58; refine (frac_any _ _ _ HM.out.2 (by have := HM.out; omega) (by omega) (by omega)).mono ?_; rintro e w3 ⟨rfl, hb3⟩; have HB3 := Lib.hid hb3; clear hb3; have hbk := blk_below (blk_drewN HK.out md) HB3.out; have hc0 := blk_cell hbk 0; have hc1' := blk_cell hbk 1; have hf0 := blk_frozen hbk 0; have hf1 := blk_frozen hbk 1; have HK3 := Lib.hid hbk; clear hbk)
        refine bodyPost_ret (results_cttt rfl _ _ w.heap.size 26 #[.int .i64 _, .int .i64 _] (0, 0) _ rfl (blk_put (blk_put HK3.out 0 _ rfl) 1 _ rfl) Try.underlying26 rfl (by kernel_rfl)) rfl ⟨rfl, ?_⟩
        have hb0 : Below w.heap.size w w1 := (below_alloc (Below.refl _ w) _).trans (HB.out.mono (by simp))
        have hb5 : Below w.heap.size w w3 := below_then (pw_below_drewN hb0 md) (by have := hb0.size; simpa using this) HB3.out
        exact (hb5.setCell (p := ⟨w.heap.size, 0, none⟩) (Nat.le_refl _) _).setCell (p := ⟨w.heap.size, 1, none⟩) (Nat.le_refl _) _
  · rw [if_neg ok] at h
    simp only [Option.some.injEq, Prod.mk.injEq] at h
    obtain ⟨rfl, rfl, rfl, rfl, rfl⟩ := h
    have OK := Lib.hid ok
    clear ok
    go_enter Try.func20, Try.ntmps20
    go_wp2_with (go_at_call 56; refine (newLine_any _ _ _ l1 _ (Kd.C_alloc HR.out _) hc1).mono ?_; rintro e w' ⟨hb, ⟨hf, rfl⟩ | ⟨hf, _⟩⟩; rotate_left; (exact absurd hf OK.out); have HB := Lib.hid hb; clear hb hf; have hbk := blk_below (blk_new w (.cells #[.int .i64 0, .int .i64 0] 26 (0, 0))) HB.out; have hc0 := blk_cell hbk 0; have hc1' := blk_cell hbk 1; have hf0 := blk_frozen hbk 0; have hf1 := blk_frozen hbk 1; have HK := Lib.hid hbk; clear hbk)
    refine bodyPost_ret (results_cttt rfl _ _ w.heap.size 26 #[.int .i64 0, .int .i64 0] (0, 0) _ rfl (blk_put (blk_put HK.out 0 _ rfl) 1 _ rfl) Try.underlying26 rfl (by kernel_rfl)) rfl ⟨rfl, ?_⟩
    have hb0 : Below w.heap.size w w' := (below_alloc (Below.refl _ w) _).trans (HB.out.mono (by simp))
    exact (hb0.setCell (p := ⟨w.heap.size, 0, none⟩) (Nat.le_refl _) _).setCell (p := ⟨w.heap.size, 1, none⟩) (Nat.le_refl _) _
end Go.Proofs.Ythngclneffngbaa.Pr
