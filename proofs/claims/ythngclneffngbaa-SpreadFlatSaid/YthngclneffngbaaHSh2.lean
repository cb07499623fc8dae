import Derived.Test.YthngclneffngbaaHDev
import Derived.Deep.RegionHeld3
import Derived.Laws.EntriesVeiled
namespace Go.Proofs.Ythngclneffngbaa.Pr
open Go.RowKit Go.Proofs.YthngclneffngbaaW.PrintWords Go.Proofs.YthngclneffngbaaW.PrintLast Go.Proofs.YthngclneffngbaaW.PrintMore
set_option linter.unusedVariables false
set_option linter.unusedSimpArgs false
theorem zero2S (w : World) (t : TypeId) : (w.alloc (.cells #[.int .i64 0, .int .i64 0] t)).heap[w.heap.size]? = some (.cells #[.int .i64 0, .int .i64 0] t (0, 0)) := blk_new w _
theorem w64S {x : Int} (h1 : -9223372036854775808 ≤ x) (h2 : x ≤ 9223372036854775807) : wrap64 x = x := wr h1 h2

/-! ### points on a sheet -/
/-- how many points are less in both directions -/
def cnt2 (l : List S50) (x y : Int) : Int := (l.filter (fun p => decide (p.f0 < x ∧ p.f1 < y))).length
/-- how many points are just below -/
def pcnt (l : List S50) (x y : Int) : Int := (l.filter (fun p => decide (p.f0 + 1 = x ∧ p.f1 + 1 = y))).length
theorem cnt2_snoc (l : List S50) (p : S50) (x y : Int) : cnt2 (l ++ [p]) x y = cnt2 l x y + if p.f0 < x ∧ p.f1 < y then 1 else 0 := by
  unfold cnt2
  rw [List.filter_append]
  by_cases h : p.f0 < x ∧ p.f1 < y <;> simp [List.filter_cons, h]
theorem pcnt_snoc (l : List S50) (p : S50) (x y : Int) : pcnt (l ++ [p]) x y = pcnt l x y + if p.f0 + 1 = x ∧ p.f1 + 1 = y then 1 else 0 := by
  unfold pcnt
  rw [List.filter_append]
  by_cases h : p.f0 + 1 = x ∧ p.f1 + 1 = y <;> simp [List.filter_cons, h]
theorem cnt2_le (l : List S50) (x y : Int) : 0 ≤ cnt2 l x y ∧ cnt2 l x y ≤ l.length := by
  unfold cnt2
  have := List.length_filter_le (fun p => decide (p.f0 < x ∧ p.f1 < y)) l
  omega
theorem pcnt_le (l : List S50) (x y : Int) : 0 ≤ pcnt l x y ∧ pcnt l x y ≤ l.length := by
  unfold pcnt
  have := List.length_filter_le (fun p => decide (p.f0 + 1 = x ∧ p.f1 + 1 = y)) l
  omega
theorem cnt2_cons (l : List S50) (p : S50) (x y : Int) : cnt2 (p :: l) x y = cnt2 l x y + if p.f0 < x ∧ p.f1 < y then 1 else 0 := by
  unfold cnt2
  by_cases h : p.f0 < x ∧ p.f1 < y <;> simp [List.filter_cons, h]
theorem pcnt_cons (l : List S50) (p : S50) (x y : Int) : pcnt (p :: l) x y = pcnt l x y + if p.f0 + 1 = x ∧ p.f1 + 1 = y then 1 else 0 := by
  unfold pcnt
  by_cases h : p.f0 + 1 = x ∧ p.f1 + 1 = y <;> simp [List.filter_cons, h]
/-- the count of a place out of those of its neighbours -/
theorem cnt2_step (x y : Int) (l : List S50) : cnt2 l x y = pcnt l x y + (cnt2 l (x - 1) y + cnt2 l x (y - 1) - cnt2 l (x - 1) (y - 1)) := by
  induction l with
  | nil => simp [cnt2, pcnt]
  | cons p l ih =>
    rw [cnt2_cons, pcnt_cons, cnt2_cons, cnt2_cons, cnt2_cons, ih]
    split <;> split <;> split <;> split <;> split <;> omega
def okPts2 (s : Int) (l : List S50) : Bool := l.all (fun p => decide ((0 ≤ p.f0 ∧ p.f0 ≤ s - 1) ∧ 0 ≤ p.f1 ∧ p.f1 ≤ s - 1))
def okSheet (s : Int) (l : List S50) : Bool := decide (1 ≤ s ∧ s ≤ 100) && (decide (1 ≤ l.length ∧ l.length ≤ 60) && okPts2 s l)
theorem okPts2_snoc (s : Int) (l : List S50) (p : S50) : okPts2 s (l ++ [p]) = (okPts2 s l && decide ((0 ≤ p.f0 ∧ p.f0 ≤ s - 1) ∧ 0 ≤ p.f1 ∧ p.f1 ≤ s - 1)) := by simp [okPts2]
theorem okPts2_all {s : Int} {l : List S50} (h : okPts2 s l = true) : ∀ p ∈ l, (0 ≤ p.f0 ∧ p.f0 ≤ s - 1) ∧ 0 ≤ p.f1 ∧ p.f1 ≤ s - 1 := by
  intro p hp
  simpa using List.all_eq_true.1 h p hp
theorem take_succ_rd50 (l : List S50) (k : Nat) (h : k < l.length) : l.take (k + 1) = l.take k ++ [rd_T50 l (k : Int)] := by
  rw [List.take_succ_eq_append_getElem h]
  simp [rd_T50, h]
theorem okPts2_not (s : Int) (l : List S50) (k : Nat) (hk : k < l.length) (h : ¬ ((0 ≤ (rd_T50 l (k : Int)).f0 ∧ (rd_T50 l (k : Int)).f0 ≤ s - 1) ∧ 0 ≤ (rd_T50 l (k : Int)).f1 ∧ (rd_T50 l (k : Int)).f1 ≤ s - 1)) : okPts2 s l = false := by
  rw [Bool.eq_false_iff]
  intro h1
  exact h (okPts2_all h1 _ (by simp [rd_T50, hk]))
theorem cnt2_zero {s : Int} {l : List S50} (h : okPts2 s l = true) (x y : Int) (hxy : x ≤ 0 ∨ y ≤ 0) : cnt2 l x y = 0 := by
  unfold cnt2
  rw [List.filter_eq_nil_iff.2 ?_]
  · rfl
  · intro p hp
    have := okPts2_all h p hp
    simp
    omega
theorem pcnt_zero {s : Int} {l : List S50} (h : okPts2 s l = true) (x y : Int) (hxy : x ≤ 0 ∨ y ≤ 0) : pcnt l x y = 0 := by
  unfold pcnt
  rw [List.filter_eq_nil_iff.2 ?_]
  · rfl
  · intro p hp
    have := okPts2_all h p hp
    simp
    omega
theorem okSheet_bounds {s : Int} {l : List S50} (h : okSheet s l = true) : (1 ≤ s ∧ s ≤ 100) ∧ (1 ≤ l.length ∧ l.length ≤ 60) ∧ okPts2 s l = true := by
  unfold okSheet at h
  simp only [Bool.and_eq_true, decide_eq_true_eq] at h
  exact ⟨h.1, h.2.1, h.2.2⟩
/-! ### the block -/
def scells (s n : Int) (g : Nat → Nat → Int) : Array Value := gcells [.int .i64 s, .int .i64 n] 10404 (fun t => g (t / 102) (t % 102))
set_option maxRecDepth 1000000 in
theorem zero109 (s n : Int) : (Try.zeroCells109.setIfInBounds 0 (Value.int IntKind.i64 s)).setIfInBounds 1 (Value.int IntKind.i64 n) = scells s n (fun _ _ => 0) := by kernel_rfl
def SheetAt (w : World) (b : Nat) (s n : Int) (g : Nat → Nat → Int) : Prop := w.heap[b]? = some (.cells (scells s n g) 109 (0, 0))
theorem SheetAt.scale {w : World} {b : Nat} {s n : Int} {g : Nat → Nat → Int} (h : SheetAt w b s n g) : w.cell? ⟨b, 0, none⟩ = some (.int .i64 s) :=
  (blk_cell h _).trans (gcells_pre [.int .i64 s, .int .i64 n] 10404 _ 0 (by simp))
theorem SheetAt.n {w : World} {b : Nat} {s n : Int} {g : Nat → Nat → Int} (h : SheetAt w b s n g) : w.cell? ⟨b, 1, none⟩ = some (.int .i64 n) :=
  (blk_cell h _).trans (gcells_pre [.int .i64 s, .int .i64 n] 10404 _ 1 (by simp))
theorem SheetAt.cell {w : World} {b : Nat} {s n : Int} {g : Nat → Nat → Int} (h : SheetAt w b s n g) (x y : Nat) (hx : x < 102) (hy : y < 102) : w.cell? ⟨b, 2 + x * 102 + y, none⟩ = some (.int .i64 (g x y)) := by
  have := (blk_cell h _).trans (gcells_at [.int .i64 s, .int .i64 n] 10404 (fun t => g (t / 102) (t % 102)) (x * 102 + y) (by omega))
  rw [show (x * 102 + y) / 102 = x by omega, show (x * 102 + y) % 102 = y by omega] at this
  rw [show 2 + x * 102 + y = [Value.int .i64 s, .int .i64 n].length + (x * 102 + y) by simp; omega]
  exact this
theorem SheetAt.set {w : World} {b : Nat} {s n : Int} {g : Nat → Nat → Int} (h : SheetAt w b s n g) (x y : Nat) (hx : x < 102) (hy : y < 102) (v : Int) : SheetAt (w.setCell ⟨b, 2 + x * 102 + y, none⟩ (.int .i64 v)) b s n (fun i j => if i = x ∧ j = y then v else g i j) := by
  unfold SheetAt scells
  have e := gcells_set [.int .i64 s, .int .i64 n] 10404 (fun t => g (t / 102) (t % 102)) (x * 102 + y) (by omega) v
  rw [show (fun u => if u = x * 102 + y then v else g (u / 102) (u % 102)) = (fun t => (fun i j => if i = x ∧ j = y then v else g i j) (t / 102) (t % 102)) by
    funext u
    by_cases hu : u = x * 102 + y
    · dsimp only
      rw [if_pos hu, if_pos (by omega)]
    · dsimp only
      rw [if_neg hu, if_neg (by omega)]] at e
  rw [← e, show 2 + x * 102 + y = [Value.int .i64 s, .int .i64 n].length + (x * 102 + y) by simp; omega]
  exact blk_set h _ _
theorem SheetAt.congr {w : World} {b : Nat} {s n : Int} {g g' : Nat → Nat → Int} (h : SheetAt w b s n g) (e : ∀ x y, x < 102 → y < 102 → g x y = g' x y) : SheetAt w b s n g' := by
  unfold SheetAt scells
  rw [← gcells_congr [.int .i64 s, .int .i64 n] 10404 (fun t => g (t / 102) (t % 102)) (fun t => g' (t / 102) (t % 102)) (fun t ht => e _ _ (by omega) (by omega))]
  exact h
theorem SheetAt.below {w w1 : World} {b : Nat} {s n : Int} {g : Nat → Nat → Int} (h : SheetAt w b s n g) (hb : Below w.heap.size w w1) : SheetAt w1 b s n g := blk_below h hb
def IsSheet (w : World) (b : Nat) (s : Int) (l : List S50) : Prop := SheetAt w b s l.length (fun x y => cnt2 l x y)
def NSpost (s : Int) (l : List S50) (w : World) (e : Ending) (w' : World) : Prop :=
  Below w.heap.size w w' ∧ ((okSheet s l = false ∧ e = .returned (.tuple #[.pointer none, .bool false])) ∨
    (okSheet s l = true ∧ ∃ b, w.heap.size ≤ b ∧ e = .returned (.tuple #[.pointer (some ⟨b, 0, none⟩), .bool true]) ∧ IsSheet w' b s l))

/-- what holds at the head of the first loop's rounds -/
def S1 (s : Int) (l : List S50) (w : World) (b : Nat) (i : Int) (wr : World) : Prop :=
  0 ≤ i ∧ i ≤ l.length ∧ SheetAt wr b s l.length (fun x y => pcnt (l.take i.toNat) x y) ∧ Below w.heap.size w wr ∧ okPts2 s (l.take i.toNat) = true
set_option maxHeartbeats 4000000 in
set_option maxRecDepth 100000 in
theorem newSheet_in (s : Int) (A : Option Addr) (c : Nat) (l : List S50) (w : World) (hr : Kd.C k50 w A l.length l) (hc : l.length ≤ c) (h1 : 1 ≤ s) (h2 : s ≤ 100) (h3 : 1 ≤ l.length) (h4 : l.length ≤ 60) :
    Calls Try.prog 68 #[.int .i64 s, .slice A l.length c] w (NSpost s l w) := by
  have HR := Lib.hid hr
  clear hr
  have hs0 : SheetAt (w.alloc (.cells ((Try.zeroCells109.setIfInBounds 0 (Value.int IntKind.i64 s)).setIfInBounds 1 (Value.int IntKind.i64 l.length)) 109)) w.heap.size s l.length (fun _ _ => 0) := by
    unfold SheetAt
    rw [← zero109]
    exact blk_new w _
  have H0 := Lib.hid hs0
  clear hs0
  go_enter Try.func68, Try.ntmps68
  go_wp2_with (first | (go_at_call 55; refine (within_true _ _ _ _ (by omega) (by omega)).mono ?_; rintro e w' ⟨rfl, rfl⟩))
  go_loopw [27] (fun i wr => ∃ k : Int, i = .int .i64 k ∧ S1 s l w w.heap.size k wr) (fun i _ => l.length - (intOf i).toNat)
  case atStart =>
    exact ⟨0, rfl, by omega, by omega, by simpa [pcnt] using H0.out, (Below.refl _ _).alloc (Nat.le_refl _) _, by simp [okPts2]⟩
  case round =>
    obtain ⟨k, rfl, hk0, hk1, hl, hb, hok⟩ := hrel
    have HL := Lib.hid hl
    have HB := Lib.hid hb
    have HO := Lib.hid hok
    clear hl hb hok H0
    by_cases hlt : k < l.length
    · obtain ⟨ad, eA, hx0, hx1⟩ := at_T50 (Kd.C_below HR.out HB.out) k hk0 hlt
      subst eA
      have hw1 : wrap64 (s - 1) = s - 1 := by unfold wrap64; omega
      by_cases hv : (0 ≤ (rd_T50 l k).f0 ∧ (rd_T50 l k).f0 ≤ s - 1) ∧ 0 ≤ (rd_T50 l k).f1 ∧ (rd_T50 l k).f1 ≤ s - 1
      · obtain ⟨⟨hv0, hv1⟩, hv2, hv3⟩ := hv
        obtain ⟨px, hpx⟩ : ∃ px, px = (rd_T50 l k).f0 := ⟨_, rfl⟩
        obtain ⟨py, hpy⟩ : ∃ py, py = (rd_T50 l k).f1 := ⟨_, rfl⟩
        rw [← hpx] at hv0 hv1 hx0
        rw [← hpy] at hv2 hv3 hx1
        have HP := Lib.hid (And.intro hpx hpy)
        clear hpx hpy
        go_upto_region 9 with (first | (go_at_call 55; refine (within_true _ _ _ _ (by omega) (by omega)).mono ?_; rintro e w' ⟨rfl, rfl⟩))
        obtain ⟨W1, hW1⟩ : ∃ W1, W1 = wr.alloc (.cells #[.int .i64 px, .int .i64 py] 50) := ⟨_, rfl⟩
        obtain ⟨q, hq⟩ : ∃ q, q = wr.heap.size := ⟨_, rfl⟩
        have hb1 : Below wr.heap.size wr W1 := hW1 ▸ below_alloc (Below.refl _ _) _
        have hqb : W1.heap[q]? = some (.cells #[.int .i64 px, .int .i64 py] 50 (0, 0)) := by rw [hW1, hq]; exact blk_new wr _
        rw [← hW1, ← hq]
        have hl1 := SheetAt.below HL.out hb1
        have hc1 := hl1.cell (px + 1).toNat (py + 1).toNat (by omega) (by omega)
        have hf1 := blk_frozen hl1 (2 + (px + 1).toNat * 102 + (py + 1).toNat)
        rw [Int.toNat_of_nonneg (by omega), Int.toNat_of_nonneg (by omega)] at hc1
        have hqa := blk_cell hqb 0
        have hqc := blk_cell hqb 1
        have HL1 := Lib.hid hl1
        have HB1 := Lib.hid (below_then HB.out HB.out.size hb1)
        clear hl1 hb1 hqb hW1 hq hx0 hx1
        obtain ⟨v, hv⟩ : ∃ v, v = pcnt (l.take k.toNat) (px + 1) (py + 1) := ⟨_, rfl⟩
        have hvb : 0 ≤ v ∧ v ≤ 60 := by
          have := pcnt_le (l.take k.toNat) (px + 1) (py + 1)
          have := List.length_take_le k.toNat l
          omega
        obtain ⟨hva, hvc⟩ := hvb
        rw [← hv] at hc1
        have HV := Lib.hid hv
        clear hv
        have hw2 : wrap64 (px + 1) = px + 1 := by unfold wrap64; omega
        have hw3 : wrap64 (py + 1) = py + 1 := by unfold wrap64; omega
        have hw4 : wrap64 (v + 1) = v + 1 := by unfold wrap64; omega
        go_region
        go_wp2
        go_roundw
        case rel =>
          refine ⟨k + 1, rfl, by omega, by omega, ?_, below_drew (HB1.out.setCell (p := ⟨w.heap.size, 2 + (px + 1).toNat * 102 + (py + 1).toNat, none⟩) (Nat.le_refl _) _), ?_⟩
          · refine SheetAt.congr (show SheetAt (W1.setCell ⟨w.heap.size, 2 + (px + 1).toNat * 102 + (py + 1).toNat, none⟩ (Value.int IntKind.i64 (v + 1))).drew w.heap.size s l.length _ from HL1.out.set (px + 1).toNat (py + 1).toNat (by omega) (by omega) (v + 1)) ?_
            intro x y hx hy
            have e := take_succ_rd50 l k.toNat (by omega)
            rw [Int.toNat_of_nonneg hk0] at e
            rw [show (k + 1).toNat = k.toNat + 1 by omega, e, pcnt_snoc, ← HP.out.1, ← HP.out.2]
            by_cases e : x = (px + 1).toNat ∧ y = (py + 1).toNat
            · rw [if_pos e, if_pos (by omega), HV.out, show (x : Int) = px + 1 by omega, show (y : Int) = py + 1 by omega]
            · rw [if_neg e, if_neg (by omega)]
              omega
          · have e := take_succ_rd50 l k.toNat (by omega)
            rw [Int.toNat_of_nonneg hk0] at e
            rw [show (k + 1).toNat = k.toNat + 1 by omega, e, okPts2_snoc, HO.out, ← HP.out.1, ← HP.out.2]
            simp
            omega
        case measure => simp [intOf]; omega
      · have hnv := okPts2_not s l k.toNat (by omega) (by rw [Int.toNat_of_nonneg hk0]; exact hv)
        have HN := Lib.hid hnv
        have HV := Lib.hid hv
        clear hnv hv
        obtain ⟨px, hpx⟩ : ∃ px, px = (rd_T50 l k).f0 := ⟨_, rfl⟩
        obtain ⟨py, hpy⟩ : ∃ py, py = (rd_T50 l k).f1 := ⟨_, rfl⟩
        have HV := Lib.hid (show ¬ ((0 ≤ px ∧ px ≤ s - 1) ∧ 0 ≤ py ∧ py ≤ s - 1) by rw [hpx, hpy]; exact HV.out)
        rw [← hpx] at hx0
        rw [← hpy] at hx1
        clear hpx hpy
        by_cases hA : 0 ≤ px ∧ px ≤ s - 1
        · obtain ⟨hA0, hA1⟩ := hA
          have hy := Lib.hid (show py < 0 ∨ s - 1 < py by have := HV.out; omega)
          go_wp2_with (first
            | (go_at_call 55; refine (within_true _ _ _ _ (by omega) (by omega)).mono ?_; rintro e w' ⟨rfl, rfl⟩)
            | (go_at_call 55; refine (within_false _ _ _ _ (by have := hy.out; omega)).mono ?_; rintro e w' ⟨rfl, rfl⟩))
          go_ret2
          exact ⟨below_alloc HB.out _, .inl ⟨by unfold okSheet; rw [HN.out]; simp, rfl⟩⟩
        · have hy := Lib.hid (show px < 0 ∨ s - 1 < px by omega)
          clear hA
          go_wp2_with (first | (go_at_call 55; refine (within_false _ _ _ _ (by have := hy.out; omega)).mono ?_; rintro e w' ⟨rfl, rfl⟩))
          go_ret2
          exact ⟨below_alloc HB.out _, .inl ⟨by unfold okSheet; rw [HN.out]; simp, rfl⟩⟩
    · have hk : k = l.length := by omega
      subst hk
      have hl0 := HL.out
      have ho0 := HO.out
      rw [show ((l.length : Int)).toNat = l.length by simp, List.take_length] at hl0 ho0
      have HL0 := Lib.hid hl0
      have HO0 := Lib.hid ho0
      clear hl0 ho0 HL HO
      go_wp2
      obtain ⟨wo, hwo⟩ : ∃ wo : World, wo = wr := ⟨_, rfl⟩
      rw [← hwo] at HL0 HB ⊢
      clear hwo
      go_loopw [9] (fun xv w2 => ∃ x : Int, xv = .int .i64 x ∧ 1 ≤ x ∧ x ≤ 102 ∧ SheetAt w2 w.heap.size s l.length (fun i j => if (i : Int) < x then cnt2 l i j else pcnt l i j) ∧ Below w.heap.size w w2) (fun xv _ => 102 - (intOf xv).toNat)
      case atStart =>
        refine ⟨_, rfl, by omega, by omega, ?_, HB.out⟩
        refine HL0.out.congr ?_
        intro i j _ _
        try dsimp only
        by_cases e : (i : Int) < 1
        · rw [if_pos e, cnt2_zero HO0.out _ _ (Or.inl (by omega)), pcnt_zero HO0.out _ _ (Or.inl (by omega))]
        · rw [if_neg e]
      case round =>
        obtain ⟨x, rfl, hx0, hx1, hl2, hb2⟩ := hrel
        have HL2 := Lib.hid hl2
        have HB2 := Lib.hid hb2
        clear hl2 hb2
        by_cases hxl : x < 102
        · go_wp2
          obtain ⟨wp, hwp⟩ : ∃ wp : World, wp = wr := ⟨_, rfl⟩
          rw [← hwp] at HL2 HB2 ⊢
          clear hwp
          go_loopw [10] (fun yv w3 => ∃ y : Int, yv = .int .i64 y ∧ 1 ≤ y ∧ y ≤ 102 ∧ SheetAt w3 w.heap.size s l.length (fun i j => if (i : Int) < x ∨ (i : Int) = x ∧ (j : Int) < y then cnt2 l i j else pcnt l i j) ∧ Below w.heap.size w w3) (fun yv _ => 102 - (intOf yv).toNat)
          case atStart =>
            refine ⟨_, rfl, by omega, by omega, ?_, HB2.out⟩
            refine HL2.out.congr ?_
            intro i j _ _
            try dsimp only
            by_cases e : (i : Int) < x
            · rw [if_pos e, if_pos (Or.inl e)]
            · rw [if_neg e]
              by_cases e2 : (i : Int) = x ∧ (j : Int) < 1
              · rw [if_pos (Or.inr e2), cnt2_zero HO0.out _ _ (Or.inr (by omega)), pcnt_zero HO0.out _ _ (Or.inr (by omega))]
              · rw [if_neg (by omega)]
          case round =>
            obtain ⟨y, rfl, hy0, hy1, hl3, hb3⟩ := hrel
            have HB3 := Lib.hid hb3
            clear hb3
            by_cases hyl : y < 102
            · have c0 := hl3.cell x.toNat y.toNat (by omega) (by omega)
              have c1 := hl3.cell (x - 1).toNat y.toNat (by omega) (by omega)
              have c2 := hl3.cell x.toNat (y - 1).toNat (by omega) (by omega)
              have c3 := hl3.cell (x - 1).toNat (y - 1).toNat (by omega) (by omega)
              try dsimp only at c0 c1 c2 c3
              rw [if_neg (by omega), Int.toNat_of_nonneg (by omega), Int.toNat_of_nonneg (by omega)] at c0
              rw [if_pos (by omega), Int.toNat_of_nonneg (by omega), Int.toNat_of_nonneg (by omega)] at c1
              rw [if_pos (by omega), Int.toNat_of_nonneg (by omega), Int.toNat_of_nonneg (by omega)] at c2
              rw [if_pos (by omega), Int.toNat_of_nonneg (by omega), Int.toNat_of_nonneg (by omega)] at c3
              rw [show (x - 1).toNat = x.toNat - 1 by omega] at c1 c3
              rw [show (y - 1).toNat = y.toNat - 1 by omega] at c2 c3
              have x00 : 0 ≤ x := by omega
              have y00 : 0 ≤ y := by omega
              have f0 := blk_frozen hl3 (2 + x.toNat * 102 + y.toNat)
              have HL3 := Lib.hid hl3
              clear hl3
              have hst := cnt2_step x y l
              obtain ⟨v0, hv0⟩ : ∃ v, v = pcnt l x y := ⟨_, rfl⟩
              obtain ⟨v1, hv1⟩ : ∃ v, v = cnt2 l (x - 1) y := ⟨_, rfl⟩
              obtain ⟨v2, hv2⟩ : ∃ v, v = cnt2 l x (y - 1) := ⟨_, rfl⟩
              obtain ⟨v3, hv3⟩ : ∃ v, v = cnt2 l (x - 1) (y - 1) := ⟨_, rfl⟩
              have b0 : 0 ≤ v0 ∧ v0 ≤ 60 := by have := pcnt_le l x y; omega
              have b1 : 0 ≤ v1 ∧ v1 ≤ 60 := by have := cnt2_le l (x - 1) y; omega
              have b2 : 0 ≤ v2 ∧ v2 ≤ 60 := by have := cnt2_le l x (y - 1); omega
              have b3 : 0 ≤ v3 ∧ v3 ≤ 60 := by have := cnt2_le l (x - 1) (y - 1); omega
              rw [← hv0] at c0
              rw [← hv1] at c1
              rw [← hv2] at c2
              rw [← hv3] at c3
              rw [← hv0, ← hv1, ← hv2, ← hv3] at hst
              have HST := Lib.hid hst
              clear hst hv0 hv1 hv2 hv3
              obtain ⟨b00, b01⟩ := b0
              obtain ⟨b10, b11⟩ := b1
              obtain ⟨b20, b21⟩ := b2
              obtain ⟨b30, b31⟩ := b3
              have z1 : wrap64 (x - 1) = x - 1 := by unfold wrap64; omega
              have z2 : wrap64 (y - 1) = y - 1 := by unfold wrap64; omega
              have z3 : wrap64 (v1 + v2) = v1 + v2 := by unfold wrap64; omega
              have z4 : wrap64 (v1 + v2 - v3) = v1 + v2 - v3 := by unfold wrap64; omega
              have z5 : wrap64 (v0 + (v1 + v2 - v3)) = v0 + (v1 + v2 - v3) := by unfold wrap64; omega
              go_wp2
              go_region
              go_wp2
              go_roundw
              case rel =>
                refine ⟨y + 1, rfl, by omega, by omega, ?_, below_drew (HB3.out.setCell (p := ⟨w.heap.size, 2 + x.toNat * 102 + y.toNat, none⟩) (Nat.le_refl _) _)⟩
                refine SheetAt.congr (show SheetAt (wr.setCell ⟨w.heap.size, 2 + x.toNat * 102 + y.toNat, none⟩ (Value.int IntKind.i64 (v0 + (v1 + v2 - v3)))).drew w.heap.size s l.length _ from HL3.out.set x.toNat y.toNat (by omega) (by omega) (v0 + (v1 + v2 - v3))) ?_
                intro i j hi hj
                try dsimp only
                by_cases e : i = x.toNat ∧ j = y.toNat
                · rw [if_pos e, if_pos (by omega), show (i : Int) = x by omega, show (j : Int) = y by omega, HST.out]
                · rw [if_neg e]
                  by_cases e2 : (i : Int) < x ∨ (i : Int) = x ∧ (j : Int) < y
                  · rw [if_pos e2, if_pos (by omega)]
                  · rw [if_neg e2, if_neg (by omega)]
              case measure => simp [intOf]; omega
            · have HL3 := Lib.hid hl3
              clear hl3
              go_wp2
              go_roundw
              case rel =>
                refine ⟨x + 1, rfl, by omega, by omega, ?_, HB3.out⟩
                refine HL3.out.congr ?_
                intro i j hi hj
                try dsimp only
                by_cases e : (i : Int) < x + 1
                · rw [if_pos e, if_pos (by omega)]
                · rw [if_neg e, if_neg (by omega)]
              case measure => simp [intOf]; omega
        · go_wp2
          go_ret2
          refine ⟨HB2.out, .inr ⟨?_, w.heap.size, Nat.le_refl _, rfl, ?_⟩⟩
          · unfold okSheet
            rw [HO0.out]
            simp
            omega
          · refine HL2.out.congr ?_
            intro i j hi hj
            exact if_pos (by omega)

set_option maxHeartbeats 1000000 in
set_option maxRecDepth 100000 in
theorem newSheet_any (s : Int) (A : Option Addr) (c : Nat) (l : List S50) (w : World) (hr : Kd.C k50 w A l.length l) (hc : l.length ≤ c) :
    Calls Try.prog 68 #[.int .i64 s, .slice A l.length c] w (NSpost s l w) := by
  by_cases h1 : 1 ≤ s ∧ s ≤ 100
  · by_cases h2 : 1 ≤ l.length ∧ l.length ≤ 60
    · exact newSheet_in s A c l w hr hc h1.1 h1.2 h2.1 h2.2
    · have hf : okSheet s l = false := by unfold okSheet; rw [decide_eq_false h2]; simp
      have HF := Lib.hid hf
      have H2 := Lib.hid h2
      clear hf h2 hr
      obtain ⟨h3, h4⟩ := h1
      go_enter Try.func68, Try.ntmps68
      go_wp2_with (first | (go_at_call 55; refine (within_true _ _ _ _ (by omega) (by omega)).mono ?_; rintro e w' ⟨rfl, rfl⟩) | (go_at_call 55; refine (within_false _ _ _ _ (by have := H2.out; omega)).mono ?_; rintro e w' ⟨rfl, rfl⟩))
      go_ret2
      exact ⟨Below.refl _ _, .inl ⟨HF.out, rfl⟩⟩
  · have hf : okSheet s l = false := by unfold okSheet; rw [decide_eq_false h1]; simp
    have HF := Lib.hid hf
    have H2 := Lib.hid h1
    clear hf h1 hr
    go_enter Try.func68, Try.ntmps68
    go_wp2_with (first | (go_at_call 55; refine (within_false _ _ _ _ (by have := H2.out; omega)).mono ?_; rintro e w' ⟨rfl, rfl⟩))
    go_ret2
    exact ⟨Below.refl _ _, .inl ⟨HF.out, rfl⟩⟩
/-- how far a count on a sheet is off -/
def offS (s n c x y : Int) : Int := mx (c * s * s - x * y * n) (-(c * s * s - x * y * n))
theorem offS_pre (s n c x y : Int) (h1 : 0 ≤ s ∧ s ≤ 100) (h2 : 0 ≤ n ∧ n ≤ 60) (h3 : 0 ≤ c ∧ c ≤ 60) (h4 : 0 ≤ x ∧ x ≤ 100) (h5 : 0 ≤ y ∧ y ≤ 100) :
    (0 ≤ c * s ∧ c * s ≤ 6000) ∧ (0 ≤ c * s * s ∧ c * s * s ≤ 600000) ∧ (0 ≤ x * y ∧ x * y ≤ 10000) ∧ 0 ≤ x * y * n ∧ x * y * n ≤ 600000 := by
  have b1 := bnd_mul h3.1 h3.2 h1.1 h1.2
  have b2 := bnd_mul b1.1 (show c * s ≤ 6000 by omega) h1.1 h1.2
  have b3 := bnd_mul h4.1 h4.2 h5.1 h5.2
  have b4 := bnd_mul b3.1 (show x * y ≤ 10000 by omega) h2.1 h2.2
  omega
theorem offS_bound (s n c x y : Int) (h1 : 0 ≤ s ∧ s ≤ 100) (h2 : 0 ≤ n ∧ n ≤ 60) (h3 : 0 ≤ c ∧ c ≤ 60) (h4 : 0 ≤ x ∧ x ≤ 100) (h5 : 0 ≤ y ∧ y ≤ 100) : 0 ≤ offS s n c x y ∧ offS s n c x y ≤ 600000 := by
  have := offS_pre s n c x y h1 h2 h3 h4 h5
  unfold offS mx
  split <;> omega
set_option maxHeartbeats 1000000 in
theorem soff_any (bs b : Nat) (s n c x y : Int) (g : Nat → Nat → Int) (w : World) (hbs : w.cell? ⟨bs, 0, none⟩ = some (.pointer (some ⟨b, 0, none⟩))) (hS : SheetAt w b s n g) (h1 : 0 ≤ s ∧ s ≤ 100) (h2 : 0 ≤ n ∧ n ≤ 60) (h3 : 0 ≤ c ∧ c ≤ 60) (h4 : 0 ≤ x ∧ x ≤ 100) (h5 : 0 ≤ y ∧ y ≤ 100) :
    Calls Try.prog 75 #[.int .i64 c, .int .i64 x, .int .i64 y, .pointer (some ⟨bs, 0, none⟩)] w fun e w' => e = .returned (.int .i64 (offS s n c x y)) ∧ ∃ m, w' = w.drewN m := by
  have hs := hS.scale
  have hn := hS.n
  have HS := Lib.hid hS
  obtain ⟨⟨p1, p2⟩, ⟨p3, p4⟩, ⟨p5, p6⟩, p7, p8⟩ := offS_pre s n c x y h1 h2 h3 h4 h5
  have w1 : wrap64 (c * s) = c * s := by unfold wrap64; omega
  have w2 : wrap64 (c * s * s) = c * s * s := by unfold wrap64; omega
  have w3 : wrap64 (x * y) = x * y := by unfold wrap64; omega
  have w4 : wrap64 (x * y * n) = x * y * n := by unfold wrap64; omega
  have w5 : wrap64 (c * s * s - x * y * n) = c * s * s - x * y * n := by unfold wrap64; omega
  have HB := Lib.hid (show -4000000000000000000 ≤ c * s * s - x * y * n ∧ c * s * s - x * y * n ≤ 4000000000000000000 by omega)
  clear hS h1 h2 h3 h4 h5 p1 p2 p3 p4 p5 p6 p7 p8
  go_enter Try.func75, Try.ntmps75
  go_wp2
  go_quiet ((go_at_call 74; exact Calls.quiet_of_same ((abs_any _ _ _ HB.out rfl).mono fun e w' h => ⟨h.1, h.2.symm⟩)))
  go_wp2
  go_ret
  exact ⟨rfl, _, rfl⟩
set_option maxHeartbeats 1000000 in
/-- s.witnesses(): the pointer is boxed, off is a closure in a box of its own; the iterator captures both. -/
theorem witnesses_any (b : Nat) (w : World) :
    Calls Try.prog 69 #[.pointer (some ⟨b, 0, none⟩)] w fun e w' => e = .returned (.func (.func 76) #[] #[.pointer (some ⟨w.heap.size, 0, none⟩), .pointer (some ⟨w.heap.size + 1, 0, none⟩)]) ∧
      w' = (w.alloc (.cells #[.pointer (some ⟨b, 0, none⟩)] 98)).alloc (.cells #[.func (.func 75) #[] #[.pointer (some ⟨w.heap.size, 0, none⟩)]] 49) := by
  go_enter Try.func69, Try.ntmps69
  go_wp2
  go_ret
  exact ⟨rfl, rfl⟩
end Go.Proofs.Ythngclneffngbaa.Pr
