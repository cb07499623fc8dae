import Derived.Test.YtaafeallcaiooaaGreatPr0
import Derived.Test.YtaafeallcaiooaaGreatHRm
import Derived.Test.YtaafeallcaiooaaGreatHAp
import Derived.Test.YtaafeallcaiooaaGreatPrA2
import Derived.Test.YtaafeallcaiooaaGreatPrA3
namespace Go.Proofs.YtaafeallcaiooaaGreat.Pr
open Go.RowKit Go.Proofs.Zw Go.Proofs.Zl Go.Proofs.Zm
attribute [local go_sem] max2_int min2_int max_two min_two max_three min_three max_four min_four
set_option linter.unusedVariables false
set_option linter.unusedSimpArgs false
noncomputable def numnahref08_fits.l0 : Nat → List (S94) → ByteArray → Int → Option (Int)
 | 0, _, _, _ => none
 | k + 1, x0, x1, x5 => if x5 < (x0.length : Int) then (if 0 ≤ x5 then ((numnahref08_Match.f ((rd_T94 x0 x5).f0) x1).bind fun bt518 => (if bt518.2.2.2 = true then (some x5) else (numnahref08_fits.l0 k x0 x1 (wrap64 (x5 + 1))))) else (none)) else (some (-1))
noncomputable def numnahref08_fits.f (k : Nat) (l0 : List (S94)) (a1 : ByteArray) : Option (Int) := numnahref08_fits.l0 k l0 a1 0
set_option maxHeartbeats 8000000 in
set_option maxRecDepth 100000 in
theorem numnahref08_fits.calls (k : Nat) (A0 : Option Addr) (c0 : Nat) (l0 : List (S94)) (a1 : ByteArray) (r : Int) (w : World) (hr0 : Kd.C k94 w A0 l0.length l0) (hc0 : l0.length ≤ c0) (h : numnahref08_fits.f k l0 a1 = some r) :
  Calls Tryz.prog 134 #[.slice A0 l0.length c0, .string a1] w fun e w' => e = .returned (.int .i64 r) ∧ Below w.heap.size w w' := by
 have hu61 := Tryz.underlying61
 have HR0 := Aside0.mk hr0
 have HC0 := Aside0.mk hc0
 clear hr0 hc0
 have HB := Aside0.mk (Below.refl w.heap.size w)
 have H : (numnahref08_fits.l0 k l0 a1 0) = some r := h
 clear h
 have H' := Aside0.mk H
 clear H
 go_enter Tryz.func134, Tryz.ntmps134
 go_wp2
 go_loopg [5] k (fun kq v5 w' => ∃ (x5_1 : Int), v5 = .int .i64 x5_1 ∧ Aside0 (numnahref08_fits.l0 kq l0 a1 x5_1 = some r) ∧ Aside0 (kq ≤ k) ∧ Aside0 (Below w.heap.size w w'))
 case atStart => exact ⟨(0), tS_, H', ⟨Nat.le_refl _⟩, ⟨tB_ HB⟩⟩
 case round =>
  clear H'
  try clear c1
  try clear p2
  obtain ⟨x5_1, rfl, HA, HK1, HB⟩ := hrel
  cases gk with
  | zero => exact absurd HA.out (by simp [numnahref08_fits.l0])
  | succ k1 =>
   have H := HA.out
   clear HA
   simp only [numnahref08_fits.l0] at H
   by_cases c3 : x5_1 < (l0.length : Int)
   ·rw [if_pos c3] at H
    have c3b0 : decide (x5_1 < (l0.length : Int)) = true := decide_eq_true c3
    clear c3
    by_cases c4 : 0 ≤ x5_1
    ·rw [if_pos c4] at H
     have c4b0 : decide (0 ≤ x5_1) = true := decide_eq_true c4
     clear c4
     replace H := Option.bind_eq_some_iff.mp H
     obtain ⟨⟨t518, t519, t520, t521⟩, A50, H⟩ := H
     replace H : (if t521 = true then (some x5_1) else (numnahref08_fits.l0 k1 l0 a1 (wrap64 (x5_1 + 1)))) = some r := H
     have A5 := Aside0.mk A50
     clear A50
     by_cases c6 : t521 = true
     ·subst c6
      have H1 : (some x5_1) = some r := by rw [if_pos rfl] at H; exact H
      clear H
      have H := H1
      clear H1
      obtain rfl := Option.some.inj H
      have p517 : 0 ≤ (x5_1 : Int) := of_decide_eq_true tA_
      have q517 : x5_1 < (l0.length : Int) := of_decide_eq_true tA_
      obtain ⟨ad517, e517, hx517_0, hx517_1⟩ := at_T94 HR0.out x5_1 p517 q517
      cases e517
      replace hx517_0 := (HB.out.cell (World.block_lt_of_cell? w _ hx517_0)).trans hx517_0
      replace hx517_1 := (HB.out.cell (World.block_lt_of_cell? w _ hx517_1)).trans hx517_1
      replace p517 := eq_true p517
      replace q517 := eq_true q517
      go_wp2_with (first | ((with_reducible refine gate_callee (f := 48) rfl ?_); refine goesL_ (some 21) rfl rfl Tryz.func48 (by kernel_rfl) rfl #[.string ((rd_T94 l0 x5_1).f0), .string a1] rfl tM_ ?_; (with_reducible refine (numnahref08_Match.calls ((rd_T94 l0 x5_1).f0) a1 t518 t519 t520 true _ A5.out).mono ?_); rintro e w7 ⟨rfl, hb⟩; refine ⟨_, rfl, ?_⟩; have n0_ := Aside0.mk (below_step (tB_ HB) hb); clear HB; have HB := n0_; clear n0_; (try clear hb); (try clear hb2); (try clear hk); (try clear hi)) | ((with_reducible refine gate_dst (N := 6) rfl ?_); refine box_event ?hg (N := 6) ?hd (cs := #[.string (⟨#[]⟩ : ByteArray), .string (⟨#[]⟩ : ByteArray), .string (⟨#[]⟩ : ByteArray)]) (t := 61) ?hr ?_; (case hd => rfl); (case hg => rfl); (case hr => first | (go_simp; done) | (go_simp; rfl)); intro gb522 hg w8 hbox hb; have n0_ := Aside0.mk (below_step (tB_ HB) hb); have n1_ := Aside0.mk (hbox); have n2_ := Aside0.mk ((by rw [hg]; exact (below_size (tB_ HB)) : w.heap.size ≤ gb522)); have n3_ := Aside0.mk ((by rw [hg]; exact (below_size (tB_ HB)) : w.heap.size ≤ gb522)); clear HB; have HB := n0_; have BK522 := n1_; have GW522 := n2_; have GE522 := n3_; clear n0_ n1_ n2_ n3_; clear hb hbox hg; have hcz9_0 : w8.cell? ⟨gb522, 0, none⟩ = some (.string (⟨#[]⟩ : ByteArray)) := (blk_cell BK522.out 0).trans rfl; have hcz9_1 : w8.cell? ⟨gb522, 1, none⟩ = some (.string (⟨#[]⟩ : ByteArray)) := (blk_cell BK522.out 1).trans rfl; have hcz9_2 : w8.cell? ⟨gb522, 2, none⟩ = some (.string (⟨#[]⟩ : ByteArray)) := (blk_cell BK522.out 2).trans rfl; have hfz9_0 := blk_frozen BK522.out 0; have hfz9_1 := blk_frozen BK522.out 1; have hfz9_2 := blk_frozen BK522.out 2))
      go_ret
      exact ⟨tE_, by repeat (first | (with_reducible first | exact HB.out | apply below_alloc | apply pw_below_drewN | apply below_drew1 | refine below_set ?_ GE522.out) | exact HB.out)⟩
     ·replace c6 := Bool.eq_false_iff.mpr c6
      subst c6
      have H1 : (numnahref08_fits.l0 k1 l0 a1 (wrap64 (x5_1 + 1))) = some r := by rw [if_neg (show ¬ (false = true) by decide)] at H; exact H
      clear H
      have H := H1
      clear H1
      have H' := Aside0.mk H
      clear H
      have p517 : 0 ≤ (x5_1 : Int) := of_decide_eq_true tA_
      have q517 : x5_1 < (l0.length : Int) := of_decide_eq_true tA_
      obtain ⟨ad517, e517, hx517_0, hx517_1⟩ := at_T94 HR0.out x5_1 p517 q517
      cases e517
      replace hx517_0 := (HB.out.cell (World.block_lt_of_cell? w _ hx517_0)).trans hx517_0
      replace hx517_1 := (HB.out.cell (World.block_lt_of_cell? w _ hx517_1)).trans hx517_1
      replace p517 := eq_true p517
      replace q517 := eq_true q517
      go_wp2_with (first | ((with_reducible refine gate_callee (f := 48) rfl ?_); refine goesL_ (some 21) rfl rfl Tryz.func48 (by kernel_rfl) rfl #[.string ((rd_T94 l0 x5_1).f0), .string a1] rfl tM_ ?_; (with_reducible refine (numnahref08_Match.calls ((rd_T94 l0 x5_1).f0) a1 t518 t519 t520 false _ A5.out).mono ?_); rintro e w10 ⟨rfl, hb⟩; refine ⟨_, rfl, ?_⟩; have n0_ := Aside0.mk (below_step (tB_ HB) hb); clear HB; have HB := n0_; clear n0_; (try clear hb); (try clear hb2); (try clear hk); (try clear hi)) | ((with_reducible refine gate_dst (N := 6) rfl ?_); refine box_event ?hg (N := 6) ?hd (cs := #[.string (⟨#[]⟩ : ByteArray), .string (⟨#[]⟩ : ByteArray), .string (⟨#[]⟩ : ByteArray)]) (t := 61) ?hr ?_; (case hd => rfl); (case hg => rfl); (case hr => first | (go_simp; done) | (go_simp; rfl)); intro gb522 hg w11 hbox hb; have n0_ := Aside0.mk (below_step (tB_ HB) hb); have n1_ := Aside0.mk (hbox); have n2_ := Aside0.mk ((by rw [hg]; exact (below_size (tB_ HB)) : w.heap.size ≤ gb522)); have n3_ := Aside0.mk ((by rw [hg]; exact (below_size (tB_ HB)) : w.heap.size ≤ gb522)); clear HB; have HB := n0_; have BK522 := n1_; have GW522 := n2_; have GE522 := n3_; clear n0_ n1_ n2_ n3_; clear hb hbox hg; have hcz12_0 : w11.cell? ⟨gb522, 0, none⟩ = some (.string (⟨#[]⟩ : ByteArray)) := (blk_cell BK522.out 0).trans rfl; have hcz12_1 : w11.cell? ⟨gb522, 1, none⟩ = some (.string (⟨#[]⟩ : ByteArray)) := (blk_cell BK522.out 1).trans rfl; have hcz12_2 : w11.cell? ⟨gb522, 2, none⟩ = some (.string (⟨#[]⟩ : ByteArray)) := (blk_cell BK522.out 2).trans rfl; have hfz12_0 := blk_frozen BK522.out 0; have hfz12_1 := blk_frozen BK522.out 1; have hfz12_2 := blk_frozen BK522.out 2))
      go_roundg k1
      case measure => have := HK1.out; omega
      case rel => exact ⟨(wrap64 (x5_1 + 1)), tS_, H', ⟨by have := HK1.out; omega⟩, ⟨by repeat (first | (with_reducible first | exact HB.out | apply below_alloc | apply pw_below_drewN | apply below_drew1 | refine below_set ?_ GE522.out) | exact HB.out)⟩⟩
    ·rw [if_neg c4] at H
     exact absurd H (by simp)
   ·rw [if_neg c3] at H
    have c3b0 : decide (x5_1 < (l0.length : Int)) = false := decide_eq_false c3
    clear c3
    obtain rfl := Option.some.inj H
    go_wp2
    go_ret
    exact ⟨tE_, tB_ HB⟩
end Go.Proofs.YtaafeallcaiooaaGreat.Pr
namespace Go.Proofs.YtaafeallcaiooaaGreat.Pr
open Go.RowKit Go.Proofs.Zw Go.Proofs.Zl Go.Proofs.Zm
attribute [local go_sem] max2_int min2_int max_two min_two max_three min_three max_four min_four
set_option linter.unusedVariables false
set_option linter.unusedSimpArgs false
mutual
noncomputable def numnahref08_Once.l0 : Nat → List (S94) → ByteArray → Int → Option (ByteArray × Bool)
 | 0, _, _, _ => none
 | k + 1, x0, x1, x6 => if x6 < (x1.size : Int) then (if 0 ≤ x6 then ((numnahref08_letter.f k (bt x1 x6)).bind fun t523 => (if t523 = true then ((numnahref08_End.f k x1 x6).bind fun t524 => (if x6 ≤ t524 then (if t524 ≤ (x1.size : Int) then ((numnahref08_fits.f k x0 (x1.extract (x6 : Int).toNat (t524 : Int).toNat)).bind fun t525 => (numnahref08_Once.l1 k x0 x1 x6 t524 t525 (wrap64 (x6 + 1)))) else (none)) else (none))) else (numnahref08_Once.l0 k x0 x1 (wrap64 (x6 + 1))))) else (none)) else (some ((⟨#[]⟩ : ByteArray), false))
noncomputable def numnahref08_Once.l1 : Nat → List (S94) → ByteArray → Int → Int → Int → Int → Option (ByteArray × Bool)
 | 0, _, _, _, _, _, _ => none
 | k + 1, x0, x1, x6, x7, x8, x9 => if x9 < x7 then (numnahref08_Once.j2 k x0 x1 x6 x7 x8 x9 (decide (x8 ≥ 0))) else (numnahref08_Once.j2 k x0 x1 x6 x7 x8 x9 false)
noncomputable def numnahref08_Once.j2 : Nat → List (S94) → ByteArray → Int → Int → Int → Int → Bool → Option (ByteArray × Bool)
 | 0, _, _, _, _, _, _, _ => none
 | k + 1, x0, x1, x6, x7, x8, x9, x40 => if x40 = true then (if 0 ≤ x9 then (if x9 < (x1.size : Int) then ((numnahref08_letter.f k (bt x1 x9)).bind fun t526 => (if t526 = true then ((numnahref08_End.f k x1 x9).bind fun t527 => (if x9 ≤ t527 then (if t527 ≤ (x1.size : Int) then ((numnahref08_fits.f k x0 (x1.extract (x9 : Int).toNat (t527 : Int).toNat)).bind fun t528 => (if t528 ≥ 0 then (numnahref08_Once.l1 k x0 x1 x6 x7 (-1) (wrap64 (x9 + 1))) else (numnahref08_Once.l1 k x0 x1 x6 x7 x8 (wrap64 (x9 + 1))))) else (none)) else (none))) else (numnahref08_Once.l1 k x0 x1 x6 x7 x8 (wrap64 (x9 + 1))))) else (none)) else (none)) else (if x8 ≥ 0 then (if 0 ≤ x8 then (if x8 < (x0.length : Int) then (if 0 ≤ x6 then (if x6 ≤ x7 then (if x7 ≤ (x1.size : Int) then ((numnahref08_Match.f ((rd_T94 x0 x8).f0) (x1.extract (x6 : Int).toNat (x7 : Int).toNat)).bind fun bt530 => (if x6 ≤ (x1.size : Int) then ((numnahref08_Apply.f ((rd_T94 x0 x8).f1) bt530.1 bt530.2.1 bt530.2.2.1).bind fun t536 => (if (x1.extract 0 (x6 : Int).toNat).size + t536.size ≤ 9223372036854775807 then (if 0 ≤ x7 then (if ((x1.extract 0 (x6 : Int).toNat) ++ t536).size + (x1.extract (x7 : Int).toNat x1.size).size ≤ 9223372036854775807 then (some (((x1.extract 0 (x6 : Int).toNat) ++ t536) ++ (x1.extract (x7 : Int).toNat x1.size), true)) else (none)) else (none)) else (none))) else (none))) else (none)) else (none)) else (none)) else (none)) else (none)) else (numnahref08_Once.l0 k x0 x1 (wrap64 (x6 + 1))))
end
noncomputable def numnahref08_Once.f (k : Nat) (l0 : List (S94)) (a1 : ByteArray) : Option (ByteArray × Bool) := numnahref08_Once.l0 k l0 a1 0
def numnahref08_Once.T13 : Bool × List (List Nat × List Nat) := (true, [([], []), ([], []), ([0, 1], [0, 1]), ([2], [2]), ([3], [3]), ([], []), ([], []), ([], []), ([5, 6, 7], [5, 6, 7]), ([4, 8], [4, 8]), ([9], [9]), ([10], [10]), ([10], [10]), ([], []), ([13, 11, 9, 0, 1, 2, 3, 4, 5, 6, 7, 8, 9, 10, 11, 13], [11, 13]), ([12, 14, 0, 1, 2, 3, 4, 5, 6, 7, 8, 9, 10, 11, 12, 13, 14], [12])])
def numnahref08_Once.B13 : List Nat := [0, 0, 3, 7, 15, 0, 0, 0, 224, 511, 1023, 2047, 2047, 0, 12287, 32767]
theorem numnahref08_Once.tab13 : rtab .any (opsOf Tryz.f104 13) = numnahref08_Once.T13 := by kernel_rfl
theorem numnahref08_Once.bits13 : waitsOk numnahref08_Once.T13.2 numnahref08_Once.B13 = true := by kernel_rfl
def numnahref08_Once.T14 : Bool × List (List Nat × List Nat) := (true, [([], []), ([], []), ([0, 1], [0, 1]), ([], []), ([], []), ([3, 4], [3, 4]), ([5], [5]), ([6], [6]), ([], []), ([7, 8], [7, 8]), ([2, 9], [2, 9]), ([], []), ([], []), ([11, 12], [11, 12]), ([10, 13], [10, 13]), ([14, 9, 0, 1, 2, 3, 4, 5, 6, 7, 8, 9, 10, 11, 12, 13, 14], [14]), ([15, 0, 1, 2, 3, 4, 5, 6, 7, 8, 9, 10, 11, 12, 13, 14, 15], [])])
def numnahref08_Once.B14 : List Nat := [0, 0, 3, 0, 0, 24, 56, 120, 0, 504, 1023, 0, 0, 6144, 16383, 32767, 65535]
theorem numnahref08_Once.tab14 : rtab .any (opsOf Tryz.f104 14) = numnahref08_Once.T14 := by kernel_rfl
theorem numnahref08_Once.bits14 : waitsOk numnahref08_Once.T14.2 numnahref08_Once.B14 = true := by kernel_rfl
set_option maxHeartbeats 8000000 in
set_option maxRecDepth 100000 in
theorem numnahref08_Once.calls (k : Nat) (A0 : Option Addr) (c0 : Nat) (l0 : List (S94)) (a1 : ByteArray) (r1 : ByteArray) (r2 : Bool) (w : World) (hr0 : Kd.C k94 w A0 l0.length l0) (hc0 : l0.length ≤ c0) (h : numnahref08_Once.f k l0 a1 = some (r1, r2)) :
  Calls Tryz.prog 104 #[.slice A0 l0.length c0, .string a1] w fun e w' => e = .returned (.tuple #[.string r1, .bool r2]) ∧ Below w.heap.size w w' := by
 have hu61 := Tryz.underlying61
 have HR0 := Aside0.mk hr0
 have HC0 := Aside0.mk hc0
 clear hr0 hc0
 have HB := Aside0.mk (Below.refl w.heap.size w)
 have H : (numnahref08_Once.l0 k l0 a1 0) = some (r1, r2) := h
 clear h
 have H' := Aside0.mk H
 clear H
 go_enter Tryz.func104, Tryz.ntmps104
 go_wp2
 go_loopg [6] k (fun kq v6 w' => ∃ (x6_1 : Int), v6 = .int .i64 x6_1 ∧ Aside0 (numnahref08_Once.l0 kq l0 a1 x6_1 = some (r1, r2)) ∧ Aside0 (kq ≤ k) ∧ Aside0 (Below w.heap.size w w'))
 case atStart => exact ⟨(0), tS_, H', ⟨Nat.le_refl _⟩, ⟨tB_ HB⟩⟩
 case round =>
  clear H'
  try clear c1
  try clear p2
  obtain ⟨x6_1, rfl, HA, HK1, HB⟩ := hrel
  cases gk with
  | zero => exact absurd HA.out (by simp [numnahref08_Once.l0])
  | succ k1 =>
   have H := HA.out
   clear HA
   simp only [numnahref08_Once.l0] at H
   by_cases c3 : x6_1 < (a1.size : Int)
   ·rw [if_pos c3] at H
    have c3b0 : decide (x6_1 < (a1.size : Int)) = true := decide_eq_true c3
    clear c3
    by_cases c4 : 0 ≤ x6_1
    ·rw [if_pos c4] at H
     have c4b0 : decide (0 ≤ x6_1) = true := decide_eq_true c4
     clear c4
     replace H := Option.bind_eq_some_iff.mp H
     obtain ⟨t523, A60, H⟩ := H
     replace H : (if t523 = true then ((numnahref08_End.f k1 a1 x6_1).bind fun t524 => (if x6_1 ≤ t524 then (if t524 ≤ (a1.size : Int) then ((numnahref08_fits.f k1 l0 (a1.extract (x6_1 : Int).toNat (t524 : Int).toNat)).bind fun t525 => (numnahref08_Once.l1 k1 l0 a1 x6_1 t524 t525 (wrap64 (x6_1 + 1)))) else (none)) else (none))) else (numnahref08_Once.l0 k1 l0 a1 (wrap64 (x6_1 + 1)))) = some (r1, r2) := H
     have A6 := Aside0.mk A60
     clear A60
     by_cases c7 : t523 = true
     ·subst c7
      have H1 : ((numnahref08_End.f k1 a1 x6_1).bind fun t524 => (if x6_1 ≤ t524 then (if t524 ≤ (a1.size : Int) then ((numnahref08_fits.f k1 l0 (a1.extract (x6_1 : Int).toNat (t524 : Int).toNat)).bind fun t525 => (numnahref08_Once.l1 k1 l0 a1 x6_1 t524 t525 (wrap64 (x6_1 + 1)))) else (none)) else (none))) = some (r1, r2) := by rw [if_pos rfl] at H; exact H
      clear H
      have H := H1
      clear H1
      replace H := Option.bind_eq_some_iff.mp H
      obtain ⟨t524, A80, H⟩ := H
      replace H : (if x6_1 ≤ t524 then (if t524 ≤ (a1.size : Int) then ((numnahref08_fits.f k1 l0 (a1.extract (x6_1 : Int).toNat (t524 : Int).toNat)).bind fun t525 => (numnahref08_Once.l1 k1 l0 a1 x6_1 t524 t525 (wrap64 (x6_1 + 1)))) else (none)) else (none)) = some (r1, r2) := H
      have A8 := Aside0.mk A80
      clear A80
      have c9b0 := eq_true (of_decide_eq_true tA_ : 0 ≤ x6_1)
      by_cases c10 : x6_1 ≤ t524
      ·rw [if_pos c10] at H
       have c10b0 := eq_true c10
       have c10b1 : decide (x6_1 ≤ t524) = true := decide_eq_true c10
       clear c10
       by_cases c11 : t524 ≤ (a1.size : Int)
       ·rw [if_pos c11] at H
        have c11b0 := eq_true c11
        have c11b1 : decide (t524 ≤ (a1.size : Int)) = true := decide_eq_true c11
        clear c11
        replace H := Option.bind_eq_some_iff.mp H
        obtain ⟨t525, A120, H⟩ := H
        replace H : (numnahref08_Once.l1 k1 l0 a1 x6_1 t524 t525 (wrap64 (x6_1 + 1))) = some (r1, r2) := H
        have A12 := Aside0.mk A120
        clear A120
        have H' := Aside0.mk H
        clear H
        have p5 : 0 ≤ (x6_1 : Int) := of_decide_eq_true tA_
        have q5 : x6_1 < (a1.size : Int) := of_decide_eq_true tA_
        have hx5 := bt_at a1 x6_1
        replace p5 := eq_true p5
        replace q5 := eq_true q5
        go_wp2_with (first | ((with_reducible refine gate_callee (f := 73) rfl ?_); refine goesL_ (some 21) rfl rfl Tryz.func73 (by kernel_rfl) rfl #[.int .u8 (bt a1 x6_1)] rfl tM_ ?_; (with_reducible refine (numnahref08_letter.calls k1 (bt a1 x6_1) true _ A6.out).mono ?_); rintro e w' ⟨rfl, ⟨nd, rfl⟩⟩; refine ⟨_, rfl, ?_⟩) | ((with_reducible refine gate_callee (f := 72) rfl ?_); refine goesL_ (some 25) rfl rfl Tryz.func72 (by kernel_rfl) rfl #[.string a1, .int .i64 x6_1] rfl tM_ ?_; (with_reducible refine (numnahref08_End.calls k1 a1 x6_1 t524 _ A8.out).mono ?_); rintro e w' ⟨rfl, ⟨nd, rfl⟩⟩; refine ⟨_, rfl, ?_⟩) | ((with_reducible refine gate_callee (f := 134) rfl ?_); refine goesL_ (some 31) rfl rfl Tryz.func134 (by kernel_rfl) rfl #[.slice A0 l0.length c0, .string (a1.extract (x6_1 : Int).toNat (t524 : Int).toNat)] rfl tM_ ?_; (with_reducible refine (numnahref08_fits.calls k1 _ _ l0 (a1.extract (x6_1 : Int).toNat (t524 : Int).toNat) t525 _ ?side1 ?side2 A12.out).mono ?_); (case side1 => repeat (first | exact (Kd.C_below HR0.out (tB_ HB)) | (with_reducible refine Kd.C_alloc ?_ _) | (with_reducible refine Kd.C_drewN ?_ _) | (with_reducible refine Kd.C_drew ?_))); (case side2 => exact HC0.out); rintro e w13 ⟨rfl, hb⟩; refine ⟨_, rfl, ?_⟩; have n0_ := Aside0.mk (below_step (tB_ HB) hb); clear HB; have HB := n0_; clear n0_; (try clear hb); (try clear hb2); (try clear hk); (try clear hi)))
        go_loopg [8, 9] k1 (fun kq v8 v9 w' => ∃ (x8_2 : Int) (x9_2 : Int), v8 = .int .i64 x8_2 ∧ v9 = .int .i64 x9_2 ∧ Aside0 (numnahref08_Once.l1 kq l0 a1 x6_1 t524 x8_2 x9_2 = some (r1, r2)) ∧ Aside0 (kq ≤ k1) ∧ Aside0 (Below w.heap.size w w'))
        case atStart => exact ⟨(t525), (wrap64 (x6_1 + 1)), tS_, tS_, H', ⟨Nat.le_refl _⟩, ⟨tB_ HB⟩⟩
        case round =>
         clear H'
         try clear c1
         try clear p2
         try clear c3
         try clear c3b0
         try clear c4
         try clear c4b0
         try clear p5
         try clear q5
         try clear hx5
         try clear p6
         try clear c7
         try clear c9
         try clear c9b0
         try clear c10
         try clear c10b0
         try clear c10b1
         try clear c11
         try clear c11b0
         try clear c11b1
         try clear c13
         try clear p2
         try clear p5
         try clear q5
         obtain ⟨x8_2, x9_2, rfl, rfl, HA, HK2, HB⟩ := hrel
         cases gk with
         | zero => exact absurd HA.out (by simp [numnahref08_Once.l1])
         | succ k2 =>
          have H := HA.out
          clear HA
          simp only [numnahref08_Once.l1] at H
          have HC14 := Aside0.mk H
          clear H
          go_upto_region 8 with (fail)
          go_cut [40] (fun v40 wc => ∃ (kq : Nat) (x40_13 : Bool), v40 = .bool x40_13 ∧ Aside0 (numnahref08_Once.j2 kq l0 a1 x6_1 t524 x8_2 x9_2 x40_13 = some (r1, r2)) ∧ Aside0 (kq ≤ k2) ∧ Aside0 (Below w.heap.size w wc))
          case first =>
           have H := HC14.out
           clear HC14
           by_cases c15 : x9_2 < t524
           ·rw [if_pos c15] at H
            have c15b0 : decide (x9_2 < t524) = true := decide_eq_true c15
            clear c15
            (first | rw [c15b0] | (simp only [i64_w, i32_w]; rw [c15b0]) | skip)
            have H' := Aside0.mk H
            clear H
            go_wp2
            go_meet
            case rel => exact ⟨_, (decide (x8_2 ≥ 0)), tS_, H', ⟨by have := HK1.out; have := HK2.out; first | omega | exact Nat.le_refl _⟩, ⟨tB_ HB⟩⟩
           ·rw [if_neg c15] at H
            have c15b0 : decide (x9_2 < t524) = false := decide_eq_false c15
            clear c15
            (first | rw [c15b0] | (simp only [i64_w, i32_w]; rw [c15b0]) | skip)
            have H' := Aside0.mk H
            clear H
            go_wp2
            go_meet
            case rel => exact ⟨_, (false), tS_, H', ⟨by have := HK1.out; have := HK2.out; first | omega | exact Nat.le_refl _⟩, ⟨tB_ HB⟩⟩
          case rest =>
           clear HC14
           try clear c1
           try clear p2
           try clear c3
           try clear c3b0
           try clear c4
           try clear c4b0
           try clear p5
           try clear q5
           try clear hx5
           try clear p6
           try clear c7
           try clear c9
           try clear c9b0
           try clear c10
           try clear c10b0
           try clear c10b1
           try clear c11
           try clear c11b0
           try clear c11b1
           try clear c13
           try clear c15
           try clear c15b0
           try clear p2
           try clear p5
           try clear p6
           try clear q5
           obtain ⟨kq, x40_13, rfl, HA, HJ13, HB⟩ := hcut
           cases kq with
           | zero => exact absurd HA.out (by simp [numnahref08_Once.j2])
           | succ kj13 =>
            have H := HA.out
            clear HA
            simp only [numnahref08_Once.j2] at H
            by_cases c16 : x40_13 = true
            ·subst c16
             have H1 : (if 0 ≤ x9_2 then (if x9_2 < (a1.size : Int) then ((numnahref08_letter.f kj13 (bt a1 x9_2)).bind fun t526 => (if t526 = true then ((numnahref08_End.f kj13 a1 x9_2).bind fun t527 => (if x9_2 ≤ t527 then (if t527 ≤ (a1.size : Int) then ((numnahref08_fits.f kj13 l0 (a1.extract (x9_2 : Int).toNat (t527 : Int).toNat)).bind fun t528 => (if t528 ≥ 0 then (numnahref08_Once.l1 kj13 l0 a1 x6_1 t524 (-1) (wrap64 (x9_2 + 1))) else (numnahref08_Once.l1 kj13 l0 a1 x6_1 t524 x8_2 (wrap64 (x9_2 + 1))))) else (none)) else (none))) else (numnahref08_Once.l1 kj13 l0 a1 x6_1 t524 x8_2 (wrap64 (x9_2 + 1))))) else (none)) else (none)) = some (r1, r2) := by rw [if_pos rfl] at H; exact H
             clear H
             have H := H1
             clear H1
             by_cases c17 : 0 ≤ x9_2
             ·rw [if_pos c17] at H
              have c17b0 : decide (0 ≤ x9_2) = true := decide_eq_true c17
              clear c17
              by_cases c18 : x9_2 < (a1.size : Int)
              ·rw [if_pos c18] at H
               have c18b0 : decide (x9_2 < (a1.size : Int)) = true := decide_eq_true c18
               clear c18
               replace H := Option.bind_eq_some_iff.mp H
               obtain ⟨t526, A200, H⟩ := H
               replace H : (if t526 = true then ((numnahref08_End.f kj13 a1 x9_2).bind fun t527 => (if x9_2 ≤ t527 then (if t527 ≤ (a1.size : Int) then ((numnahref08_fits.f kj13 l0 (a1.extract (x9_2 : Int).toNat (t527 : Int).toNat)).bind fun t528 => (if t528 ≥ 0 then (numnahref08_Once.l1 kj13 l0 a1 x6_1 t524 (-1) (wrap64 (x9_2 + 1))) else (numnahref08_Once.l1 kj13 l0 a1 x6_1 t524 x8_2 (wrap64 (x9_2 + 1))))) else (none)) else (none))) else (numnahref08_Once.l1 kj13 l0 a1 x6_1 t524 x8_2 (wrap64 (x9_2 + 1)))) = some (r1, r2) := H
               have A20 := Aside0.mk A200
               clear A200
               by_cases c21 : t526 = true
               ·subst c21
                have H1 : ((numnahref08_End.f kj13 a1 x9_2).bind fun t527 => (if x9_2 ≤ t527 then (if t527 ≤ (a1.size : Int) then ((numnahref08_fits.f kj13 l0 (a1.extract (x9_2 : Int).toNat (t527 : Int).toNat)).bind fun t528 => (if t528 ≥ 0 then (numnahref08_Once.l1 kj13 l0 a1 x6_1 t524 (-1) (wrap64 (x9_2 + 1))) else (numnahref08_Once.l1 kj13 l0 a1 x6_1 t524 x8_2 (wrap64 (x9_2 + 1))))) else (none)) else (none))) = some (r1, r2) := by rw [if_pos rfl] at H; exact H
                clear H
                have H := H1
                clear H1
                replace H := Option.bind_eq_some_iff.mp H
                obtain ⟨t527, A220, H⟩ := H
                replace H : (if x9_2 ≤ t527 then (if t527 ≤ (a1.size : Int) then ((numnahref08_fits.f kj13 l0 (a1.extract (x9_2 : Int).toNat (t527 : Int).toNat)).bind fun t528 => (if t528 ≥ 0 then (numnahref08_Once.l1 kj13 l0 a1 x6_1 t524 (-1) (wrap64 (x9_2 + 1))) else (numnahref08_Once.l1 kj13 l0 a1 x6_1 t524 x8_2 (wrap64 (x9_2 + 1))))) else (none)) else (none)) = some (r1, r2) := H
                have A22 := Aside0.mk A220
                clear A220
                have c23b0 := eq_true (of_decide_eq_true tA_ : 0 ≤ x9_2)
                by_cases c24 : x9_2 ≤ t527
                ·rw [if_pos c24] at H
                 have c24b0 := eq_true c24
                 have c24b1 : decide (x9_2 ≤ t527) = true := decide_eq_true c24
                 clear c24
                 by_cases c25 : t527 ≤ (a1.size : Int)
                 ·rw [if_pos c25] at H
                  have c25b0 := eq_true c25
                  have c25b1 : decide (t527 ≤ (a1.size : Int)) = true := decide_eq_true c25
                  clear c25
                  replace H := Option.bind_eq_some_iff.mp H
                  obtain ⟨t528, A260, H⟩ := H
                  replace H : (if t528 ≥ 0 then (numnahref08_Once.l1 kj13 l0 a1 x6_1 t524 (-1) (wrap64 (x9_2 + 1))) else (numnahref08_Once.l1 kj13 l0 a1 x6_1 t524 x8_2 (wrap64 (x9_2 + 1)))) = some (r1, r2) := H
                  have A26 := Aside0.mk A260
                  clear A260
                  by_cases c27 : t528 ≥ 0
                  ·rw [if_pos c27] at H
                   have c27b0 : decide (0 ≤ t528) = true := decide_eq_true c27
                   clear c27
                   have H' := Aside0.mk H
                   clear H
                   have p19 : 0 ≤ (x9_2 : Int) := of_decide_eq_true tA_
                   have q19 : x9_2 < (a1.size : Int) := of_decide_eq_true tA_
                   have hx19 := bt_at a1 x9_2
                   replace p19 := eq_true p19
                   replace q19 := eq_true q19
                   go_wp2_with (first | ((with_reducible refine gate_callee (f := 73) rfl ?_); refine goesL_ (some 46) rfl rfl Tryz.func73 (by kernel_rfl) rfl #[.int .u8 (bt a1 x9_2)] rfl tM_ ?_; (with_reducible refine (numnahref08_letter.calls kj13 (bt a1 x9_2) true _ A20.out).mono ?_); rintro e w' ⟨rfl, ⟨nd, rfl⟩⟩; refine ⟨_, rfl, ?_⟩) | (go_at_call 72; (with_reducible refine (numnahref08_End.calls kj13 a1 x9_2 t527 _ A22.out).mono ?_); rintro e w' ⟨rfl, ⟨nd, rfl⟩⟩) | (go_at_call 134; (with_reducible refine (numnahref08_fits.calls kj13 _ _ l0 (a1.extract (x9_2 : Int).toNat (t527 : Int).toNat) t528 _ ?side1 ?side2 A26.out).mono ?_); (case side1 => repeat (first | exact (Kd.C_below HR0.out (tB_ HB)) | (with_reducible refine Kd.C_alloc ?_ _) | (with_reducible refine Kd.C_drewN ?_ _) | (with_reducible refine Kd.C_drew ?_))); (case side2 => exact HC0.out); rintro e w28 ⟨rfl, hb⟩; have n0_ := Aside0.mk (below_step (tB_ HB) hb); clear HB; have HB := n0_; clear n0_; (try clear hb); (try clear hb2); (try clear hk); (try clear hi)))
                   go_roundg kj13
                   case measure => have := HK1.out; have := HK2.out; have := HJ13.out; omega
                   case rel => exact ⟨((-1)), (wrap64 (x9_2 + 1)), tS_, tS_, H', ⟨by have := HK1.out; have := HK2.out; have := HJ13.out; omega⟩, ⟨tB_ HB⟩⟩
                  ·rw [if_neg c27] at H
                   have c27b0 : decide (0 ≤ t528) = false := decide_eq_false c27
                   clear c27
                   have H' := Aside0.mk H
                   clear H
                   have p19 : 0 ≤ (x9_2 : Int) := of_decide_eq_true tA_
                   have q19 : x9_2 < (a1.size : Int) := of_decide_eq_true tA_
                   have hx19 := bt_at a1 x9_2
                   replace p19 := eq_true p19
                   replace q19 := eq_true q19
                   go_wp2_with (first | ((with_reducible refine gate_callee (f := 73) rfl ?_); refine goesL_ (some 46) rfl rfl Tryz.func73 (by kernel_rfl) rfl #[.int .u8 (bt a1 x9_2)] rfl tM_ ?_; (with_reducible refine (numnahref08_letter.calls kj13 (bt a1 x9_2) true _ A20.out).mono ?_); rintro e w' ⟨rfl, ⟨nd, rfl⟩⟩; refine ⟨_, rfl, ?_⟩) | (go_at_call 72; (with_reducible refine (numnahref08_End.calls kj13 a1 x9_2 t527 _ A22.out).mono ?_); rintro e w' ⟨rfl, ⟨nd, rfl⟩⟩) | (go_at_call 134; (with_reducible refine (numnahref08_fits.calls kj13 _ _ l0 (a1.extract (x9_2 : Int).toNat (t527 : Int).toNat) t528 _ ?side1 ?side2 A26.out).mono ?_); (case side1 => repeat (first | exact (Kd.C_below HR0.out (tB_ HB)) | (with_reducible refine Kd.C_alloc ?_ _) | (with_reducible refine Kd.C_drewN ?_ _) | (with_reducible refine Kd.C_drew ?_))); (case side2 => exact HC0.out); rintro e w29 ⟨rfl, hb⟩; have n0_ := Aside0.mk (below_step (tB_ HB) hb); clear HB; have HB := n0_; clear n0_; (try clear hb); (try clear hb2); (try clear hk); (try clear hi)))
                   go_roundg kj13
                   case measure => have := HK1.out; have := HK2.out; have := HJ13.out; omega
                   case rel => exact ⟨(x8_2), (wrap64 (x9_2 + 1)), tS_, tS_, H', ⟨by have := HK1.out; have := HK2.out; have := HJ13.out; omega⟩, ⟨tB_ HB⟩⟩
                 ·rw [if_neg c25] at H
                  exact absurd H (by simp)
                ·rw [if_neg c24] at H
                 exact absurd H (by simp)
               ·replace c21 := Bool.eq_false_iff.mpr c21
                subst c21
                have H1 : (numnahref08_Once.l1 kj13 l0 a1 x6_1 t524 x8_2 (wrap64 (x9_2 + 1))) = some (r1, r2) := by rw [if_neg (show ¬ (false = true) by decide)] at H; exact H
                clear H
                have H := H1
                clear H1
                have H' := Aside0.mk H
                clear H
                have p19 : 0 ≤ (x9_2 : Int) := of_decide_eq_true tA_
                have q19 : x9_2 < (a1.size : Int) := of_decide_eq_true tA_
                have hx19 := bt_at a1 x9_2
                replace p19 := eq_true p19
                replace q19 := eq_true q19
                go_wp2_with (first | ((with_reducible refine gate_callee (f := 73) rfl ?_); refine goesL_ (some 46) rfl rfl Tryz.func73 (by kernel_rfl) rfl #[.int .u8 (bt a1 x9_2)] rfl tM_ ?_; (with_reducible refine (numnahref08_letter.calls kj13 (bt a1 x9_2) false _ A20.out).mono ?_); rintro e w' ⟨rfl, ⟨nd, rfl⟩⟩; refine ⟨_, rfl, ?_⟩))
                go_roundg kj13
                case measure => have := HK1.out; have := HK2.out; have := HJ13.out; omega
                case rel => exact ⟨(x8_2), (wrap64 (x9_2 + 1)), tS_, tS_, H', ⟨by have := HK1.out; have := HK2.out; have := HJ13.out; omega⟩, ⟨tB_ HB⟩⟩
              ·rw [if_neg c18] at H
               exact absurd H (by simp)
             ·rw [if_neg c17] at H
              exact absurd H (by simp)
            ·replace c16 := Bool.eq_false_iff.mpr c16
             subst c16
             have H1 : (if x8_2 ≥ 0 then (if 0 ≤ x8_2 then (if x8_2 < (l0.length : Int) then (if 0 ≤ x6_1 then (if x6_1 ≤ t524 then (if t524 ≤ (a1.size : Int) then ((numnahref08_Match.f ((rd_T94 l0 x8_2).f0) (a1.extract (x6_1 : Int).toNat (t524 : Int).toNat)).bind fun bt530 => (if x6_1 ≤ (a1.size : Int) then ((numnahref08_Apply.f ((rd_T94 l0 x8_2).f1) bt530.1 bt530.2.1 bt530.2.2.1).bind fun t536 => (if (a1.extract 0 (x6_1 : Int).toNat).size + t536.size ≤ 9223372036854775807 then (if 0 ≤ t524 then (if ((a1.extract 0 (x6_1 : Int).toNat) ++ t536).size + (a1.extract (t524 : Int).toNat a1.size).size ≤ 9223372036854775807 then (some (((a1.extract 0 (x6_1 : Int).toNat) ++ t536) ++ (a1.extract (t524 : Int).toNat a1.size), true)) else (none)) else (none)) else (none))) else (none))) else (none)) else (none)) else (none)) else (none)) else (none)) else (numnahref08_Once.l0 kj13 l0 a1 (wrap64 (x6_1 + 1)))) = some (r1, r2) := by rw [if_neg (show ¬ (false = true) by decide)] at H; exact H
             clear H
             have H := H1
             clear H1
             by_cases c30 : x8_2 ≥ 0
             ·rw [if_pos c30] at H
              have c30b0 : decide (0 ≤ x8_2) = true := decide_eq_true c30
              clear c30
              by_cases c31 : 0 ≤ x8_2
              ·rw [if_pos c31] at H
               have c31b0 : decide (0 ≤ x8_2) = true := decide_eq_true c31
               clear c31
               by_cases c32 : x8_2 < (l0.length : Int)
               ·rw [if_pos c32] at H
                have c32b0 : decide (x8_2 < (l0.length : Int)) = true := decide_eq_true c32
                clear c32
                by_cases c33 : 0 ≤ x6_1
                ·rw [if_pos c33] at H
                 have c33b0 := eq_true c33
                 have c33b1 : decide (0 ≤ x6_1) = true := decide_eq_true c33
                 clear c33
                 by_cases c34 : x6_1 ≤ t524
                 ·rw [if_pos c34] at H
                  have c34b0 := eq_true c34
                  have c34b1 : decide (x6_1 ≤ t524) = true := decide_eq_true c34
                  clear c34
                  by_cases c35 : t524 ≤ (a1.size : Int)
                  ·rw [if_pos c35] at H
                   have c35b0 := eq_true c35
                   have c35b1 : decide (t524 ≤ (a1.size : Int)) = true := decide_eq_true c35
                   clear c35
                   replace H := Option.bind_eq_some_iff.mp H
                   obtain ⟨⟨t530, t531, t532, t533⟩, A360, H⟩ := H
                   replace H : (if x6_1 ≤ (a1.size : Int) then ((numnahref08_Apply.f ((rd_T94 l0 x8_2).f1) t530 t531 t532).bind fun t536 => (if (a1.extract 0 (x6_1 : Int).toNat).size + t536.size ≤ 9223372036854775807 then (if 0 ≤ t524 then (if ((a1.extract 0 (x6_1 : Int).toNat) ++ t536).size + (a1.extract (t524 : Int).toNat a1.size).size ≤ 9223372036854775807 then (some (((a1.extract 0 (x6_1 : Int).toNat) ++ t536) ++ (a1.extract (t524 : Int).toNat a1.size), true)) else (none)) else (none)) else (none))) else (none)) = some (r1, r2) := H
                   have A36 := Aside0.mk A360
                   clear A360
                   have c37b0 := eq_true (of_decide_eq_true tA_ : 0 ≤ x6_1)
                   by_cases c38 : x6_1 ≤ (a1.size : Int)
                   ·rw [if_pos c38] at H
                    have c38b0 := eq_true c38
                    have c38b1 : decide (x6_1 ≤ (a1.size : Int)) = true := decide_eq_true c38
                    clear c38
                    replace H := Option.bind_eq_some_iff.mp H
                    obtain ⟨t536, A390, H⟩ := H
                    replace H : (if (a1.extract 0 (x6_1 : Int).toNat).size + t536.size ≤ 9223372036854775807 then (if 0 ≤ t524 then (if ((a1.extract 0 (x6_1 : Int).toNat) ++ t536).size + (a1.extract (t524 : Int).toNat a1.size).size ≤ 9223372036854775807 then (some (((a1.extract 0 (x6_1 : Int).toNat) ++ t536) ++ (a1.extract (t524 : Int).toNat a1.size), true)) else (none)) else (none)) else (none)) = some (r1, r2) := H
                    have A39 := Aside0.mk A390
                    clear A390
                    by_cases c40 : (a1.extract 0 (x6_1 : Int).toNat).size + t536.size ≤ 9223372036854775807
                    ·rw [if_pos c40] at H
                     have c40b0 := eq_true c40
                     have c40b1 : decide ((a1.extract 0 (x6_1 : Int).toNat).size + t536.size ≤ 9223372036854775807) = true := decide_eq_true c40
                     try have c40b2 : (9223372036854775807 < (a1.extract 0 (x6_1 : Int).toNat).size + t536.size) = False := eq_false (Nat.not_lt.2 c40)
                     have c40b3 : (9223372036854775807 < x6_1.toNat + t536.size) = False := eq_false (by have h_ := c40; simp only [ByteArray.size_append, ByteArray.size_extract] at h_; (try have h1_ := of_eq_true c1b0); (try have h2_ := of_eq_true c2b0); (try have h3_ := of_eq_true c3b0); (try have h4_ := of_eq_true c4b0); (try have h5_ := of_eq_true c5b0); (try have h6_ := of_eq_true c6b0); (try have h7_ := of_eq_true c7b0); (try have h8_ := of_eq_true c8b0); (try have h9_ := of_eq_true c9b0); (try have h10_ := of_eq_true c10b0); (try have h11_ := of_eq_true c11b0); (try have h12_ := of_eq_true c12b0); (try have h13_ := of_eq_true c13b0); (try have h14_ := of_eq_true c14b0); (try have h15_ := of_eq_true c15b0); (try have h16_ := of_eq_true c16b0); (try have h17_ := of_eq_true c17b0); (try have h18_ := of_eq_true c18b0); (try have h19_ := of_eq_true c19b0); (try have h20_ := of_eq_true c20b0); (try have h21_ := of_eq_true c21b0); (try have h22_ := of_eq_true c22b0); (try have h23_ := of_eq_true c23b0); (try have h24_ := of_eq_true c24b0); (try have h25_ := of_eq_true c25b0); (try have h26_ := of_eq_true c26b0); (try have h27_ := of_eq_true c27b0); (try have h28_ := of_eq_true c28b0); (try have h29_ := of_eq_true c29b0); (try have h30_ := of_eq_true c30b0); (try have h31_ := of_eq_true c31b0); (try have h32_ := of_eq_true c32b0); (try have h33_ := of_eq_true c33b0); (try have h34_ := of_eq_true c34b0); (try have h35_ := of_eq_true c35b0); (try have h36_ := of_eq_true c36b0); (try have h37_ := of_eq_true c37b0); (try have h38_ := of_eq_true c38b0); (try have h39_ := of_eq_true c39b0); omega)
                     by_cases c41 : 0 ≤ t524
                     ·rw [if_pos c41] at H
                      have c41b0 := eq_true c41
                      have c41b1 : decide (0 ≤ t524) = true := decide_eq_true c41
                      clear c41
                      have c42b0 := eq_true (of_decide_eq_true tA_ : t524 ≤ (a1.size : Int))
                      by_cases c43 : ((a1.extract 0 (x6_1 : Int).toNat) ++ t536).size + (a1.extract (t524 : Int).toNat a1.size).size ≤ 9223372036854775807
                      ·rw [if_pos c43] at H
                       have c43b0 := eq_true c43
                       have c43b1 : decide (((a1.extract 0 (x6_1 : Int).toNat) ++ t536).size + (a1.extract (t524 : Int).toNat a1.size).size ≤ 9223372036854775807) = true := decide_eq_true c43
                       try have c43b2 : (9223372036854775807 < ((a1.extract 0 (x6_1 : Int).toNat) ++ t536).size + (a1.extract (t524 : Int).toNat a1.size).size) = False := eq_false (Nat.not_lt.2 c43)
                       have c43b3 : (9223372036854775807 < x6_1.toNat + t536.size + (a1.size - t524.toNat)) = False := eq_false (by have h_ := c43; simp only [ByteArray.size_append, ByteArray.size_extract] at h_; (try have h1_ := of_eq_true c1b0); (try have h2_ := of_eq_true c2b0); (try have h3_ := of_eq_true c3b0); (try have h4_ := of_eq_true c4b0); (try have h5_ := of_eq_true c5b0); (try have h6_ := of_eq_true c6b0); (try have h7_ := of_eq_true c7b0); (try have h8_ := of_eq_true c8b0); (try have h9_ := of_eq_true c9b0); (try have h10_ := of_eq_true c10b0); (try have h11_ := of_eq_true c11b0); (try have h12_ := of_eq_true c12b0); (try have h13_ := of_eq_true c13b0); (try have h14_ := of_eq_true c14b0); (try have h15_ := of_eq_true c15b0); (try have h16_ := of_eq_true c16b0); (try have h17_ := of_eq_true c17b0); (try have h18_ := of_eq_true c18b0); (try have h19_ := of_eq_true c19b0); (try have h20_ := of_eq_true c20b0); (try have h21_ := of_eq_true c21b0); (try have h22_ := of_eq_true c22b0); (try have h23_ := of_eq_true c23b0); (try have h24_ := of_eq_true c24b0); (try have h25_ := of_eq_true c25b0); (try have h26_ := of_eq_true c26b0); (try have h27_ := of_eq_true c27b0); (try have h28_ := of_eq_true c28b0); (try have h29_ := of_eq_true c29b0); (try have h30_ := of_eq_true c30b0); (try have h31_ := of_eq_true c31b0); (try have h32_ := of_eq_true c32b0); (try have h33_ := of_eq_true c33b0); (try have h34_ := of_eq_true c34b0); (try have h35_ := of_eq_true c35b0); (try have h36_ := of_eq_true c36b0); (try have h37_ := of_eq_true c37b0); (try have h38_ := of_eq_true c38b0); (try have h39_ := of_eq_true c39b0); (try have h40_ := of_eq_true c40b0); (try have h41_ := of_eq_true c41b0); (try have h42_ := of_eq_true c42b0); omega)
                       simp only [Option.some.injEq, Prod.mk.injEq] at H
                       obtain ⟨rfl, rfl⟩ := H
                       try go_wp2
                       have n0_ := Aside0.mk (below_drew1 HB.out)
                       clear HB
                       have HB := n0_
                       clear n0_
                       have p529 : 0 ≤ (x8_2 : Int) := of_decide_eq_true tA_
                       have q529 : x8_2 < (l0.length : Int) := of_decide_eq_true tA_
                       obtain ⟨ad529, e529, hx529_0, hx529_1⟩ := at_T94 HR0.out x8_2 p529 q529
                       have hw529_1 := hx529_1
                       have hw529_0 := hx529_0
                       cases e529
                       replace hx529_0 := (HB.out.cell (World.block_lt_of_cell? w _ hx529_0)).trans hx529_0
                       replace hx529_1 := (HB.out.cell (World.block_lt_of_cell? w _ hx529_1)).trans hx529_1
                       replace p529 := eq_true p529
                       replace q529 := eq_true q529
                       refine start_ (n := 16) (S := fun w' => w'.cell? (ad529.add ((x8_2).toNat * 2)) = some (.string ((rd_T94 l0 x8_2).f0)) ∧ w'.cell? ⟨(ad529.add ((x8_2).toNat * 2)).block, (ad529.add ((x8_2).toNat * 2)).off + 1, none⟩ = some (.string ((rd_T94 l0 x8_2).f1))) (ds := []) (bm 16 0) (by kernel_rfl) rfl rfl ⟨((HB.out.cell (World.block_lt_of_cell? w _ hw529_0)).trans hw529_0), ((HB.out.cell (World.block_lt_of_cell? w _ hw529_1)).trans hw529_1)⟩ (fun hHeld => ?_); refine with_tabW numnahref08_Once.tab13 numnahref08_Once.bits13 (fun HT_ HW_ => ?_)
                       generalize wc.drew = w44 at HB hx529_0 hx529_1 hHeld ⊢
                       refine pure_ (i := 0) (N := some 61) (bm 16 1) rfl rfl (any_of HT_.out (by kernel_rfl)) (fun _ _ _ h => h) (.inl ⟨rfl, tY_⟩) tP_ ?_
                       refine pure_ (i := 1) (N := some 62) (bm 16 3) rfl rfl (any_of HT_.out (by kernel_rfl)) (fun _ _ _ h => h) (.inl ⟨rfl, tY_⟩) tP_ ?_
                       refine pure_ (i := 2) (N := some 63) (bm 16 7) rfl rfl (any_of HT_.out (by kernel_rfl)) (fun _ _ _ h => h) (.inl ⟨rfl, tY_⟩) tP_ ?_
                       refine pure_ (i := 3) (N := some 64) (bm 16 15) rfl rfl (any_of HT_.out (by kernel_rfl)) (fun _ _ _ h => h) (.inl ⟨rfl, tY_⟩) tP_ ?_
                       refine pure_ (i := 5) (N := some 66) (bm 16 47) rfl rfl (any_of HT_.out (by kernel_rfl)) (fun _ _ _ h => h) (.inl ⟨rfl, tY_⟩) tP_ ?_
                       refine pure_ (i := 6) (N := some 67) (bm 16 111) rfl rfl (any_of HT_.out (by kernel_rfl)) (fun _ _ _ h => h) (.inl ⟨rfl, tY_⟩) tP_ ?_
                       refine pure_ (i := 7) (N := some 68) (bm 16 239) rfl rfl (any_of HT_.out (by kernel_rfl)) (fun _ _ _ h => h) (.inl ⟨rfl, tY_⟩) tP_ ?_
                       refine pure_ (i := 8) (N := some 69) (bm 16 495) rfl rfl (any_of HT_.out (by kernel_rfl)) (fun _ _ _ h => h) (.inl ⟨rfl, tY_⟩) tP_ ?_
                       refine take_ (i := 4) (N := some 65) (v := ?_) (a' := ?_) (bm 16 511) rfl rfl (take_ofW HT_.out HW_.out (by kernel_rfl)) (fun _ _ _ h => h) (Or.inl ⟨by rfl, ?_⟩) hHeld ?_ ?_; rotate_left; (rintro w' ⟨s0, s1⟩; go_simp; with_reducible rfl); rotate_left; exact tP_
                       refine join_ (σ := Nat) 2 #[true, true, true, true, true, true, true, true, true, true, true, true, true, true, false, false] (fun s_ => [(70, .tuple #[.agg #[.string t530, .string t531, .string t532], .bool t533]), (10, .pointer (some ⟨s_, 0, none⟩)), (60, .tuple #[.agg #[.string t530, .string t531, .string t532], .bool t533]), (71, .agg #[.string t530, .string t531, .string t532]), (72, .bool t533)]) (fun s_ w' => (w'.cell? (ad529.add ((x8_2).toNat * 2)) = some (.string ((rd_T94 l0 x8_2).f0)) ∧ w'.cell? ⟨(ad529.add ((x8_2).toNat * 2)).block, (ad529.add ((x8_2).toNat * 2)).off + 1, none⟩ = some (.string ((rd_T94 l0 x8_2).f1))) ∧ (w'.heap[s_]? = some (.cells #[.string (⟨#[]⟩ : ByteArray), .string (⟨#[]⟩ : ByteArray), .string (⟨#[]⟩ : ByteArray)] 61 (0, 0))) ∧ (w.heap.size ≤ s_) ∧ (w.heap.size ≤ s_) ∧ (Below w.heap.size w w')) ?_ ?_
                       rotate_left
                       ·intro hCont
                        refine two_ (i := 9) (j := 13) (Ni := some 70) (Nj := some 10) #[true, true, true, true, true, true, true, true, true, true, false, false, false, false, false, false] #[true, true, true, true, true, true, true, true, true, false, false, false, false, true, false, false] rfl rfl rfl rfl (two_of HT_.out (by kernel_rfl)) (by decide) (by decide) (fun K hK => ?_) (fun K hK => ?_)
                        ·skip
                         refine goes_ Tryz.func48 (by kernel_rfl) rfl #[.string ((rd_T94 l0 x8_2).f0), .string (a1.extract (x6_1 : Int).toNat (t524 : Int).toNat)] (by rfl) rfl rfl tM_ ?_
                         with_reducible refine (numnahref08_Match.calls ((rd_T94 l0 x8_2).f0) (a1.extract (x6_1 : Int).toNat (t524 : Int).toNat) t530 t531 t532 t533 _ A36.out).mono ?_
                         rintro e w45 ⟨rfl, hb⟩
                         refine ⟨_, rfl, ?_⟩
                         have n0_ := Aside0.mk (below_step (tB_ HB) hb)
                         clear HB
                         have HB := n0_
                         clear n0_
                         (try clear hb)
                         (try clear hb2)
                         (try clear hk)
                         (try clear hi)
                         refine hK.out _ _ ⟨((HB.out.cell (World.block_lt_of_cell? w _ hw529_0)).trans hw529_0), ((HB.out.cell (World.block_lt_of_cell? w _ hw529_1)).trans hw529_1)⟩ (fun hHeld => ?_)
                         clear hK K
                         refine norm_ (a' := ?_) ?_ ?_; rotate_left; (show Act.put _ (some 70) _ = _; exact tP_)
                         refine pure_ (i := 10) (N := some 60) (bm 16 2047) rfl rfl (any_of HT_.out (by kernel_rfl)) (fun _ _ _ h => h) (.inl ⟨rfl, tY_⟩) tP_ ?_
                         refine pure_ (i := 11) (N := some 71) (bm 16 4095) rfl rfl (any_of HT_.out (by kernel_rfl)) (fun _ _ _ h => h) (.inl ⟨rfl, tY_⟩) tP_ ?_
                         refine pure_ (i := 12) (N := some 72) (bm 16 8191) rfl rfl (any_of HT_.out (by kernel_rfl)) (fun _ _ _ h => h) (.inl ⟨rfl, tY_⟩) tP_ ?_
                         refine one_ (i := 13) (N := some 10) (bm 16 16383) rfl rfl (one_of HT_.out (by kernel_rfl)) (by decide) (fun K hK => ?_)
                         refine box_step ?hg (N := 10) ?hd (cs := #[.string (⟨#[]⟩ : ByteArray), .string (⟨#[]⟩ : ByteArray), .string (⟨#[]⟩ : ByteArray)]) (t := 61) ?hr ?_; (case hd => rfl); (case hg => rfl); (case hr => first | (go_simp; done) | (go_simp; rfl))
                         intro gb534 hg w46 hbox hb
                         have n0_ := Aside0.mk (below_step (tB_ HB) hb)
                         have n1_ := Aside0.mk (hbox)
                         have n2_ := Aside0.mk ((by rw [hg]; exact (below_size (tB_ HB)) : w.heap.size ≤ gb534))
                         have n3_ := Aside0.mk ((by rw [hg]; exact (below_size (tB_ HB)) : w.heap.size ≤ gb534))
                         clear HB
                         have HB := n0_
                         have BK534 := n1_
                         have GW534 := n2_
                         have GE534 := n3_
                         clear n0_ n1_ n2_ n3_
                         clear hb hbox hg
                         refine hK.out _ _ ⟨((HB.out.cell (World.block_lt_of_cell? w _ hw529_0)).trans hw529_0), ((HB.out.cell (World.block_lt_of_cell? w _ hw529_1)).trans hw529_1)⟩ (fun hHeld => ?_)
                         clear hK K
                         refine norm_ (a' := ?_) ?_ ?_; rotate_left; (show Act.put _ (some 10) _ = _; exact tP_)
                         exact norm_ (by simp only [putAll, Act.put, List.setIfInBounds_toArray, List.set_cons_zero, List.set_cons_succ]) (hCont (gb534) _ ⟨hHeld, (by (with_reducible repeat (first | refine blk_drewN ?_ _ | refine blk_drew ?_ | refine blk_alloc ?_ _)); exact BK534.out), GW534.out, GE534.out, (by repeat (first | (with_reducible first | exact HB.out | apply below_alloc | apply pw_below_drewN | apply below_drew1 | refine below_set ?_ GE534.out) | exact HB.out))⟩)
                        ·skip
                         refine box_step ?hg (N := 10) ?hd (cs := #[.string (⟨#[]⟩ : ByteArray), .string (⟨#[]⟩ : ByteArray), .string (⟨#[]⟩ : ByteArray)]) (t := 61) ?hr ?_; (case hd => rfl); (case hg => rfl); (case hr => first | (go_simp; done) | (go_simp; rfl))
                         intro gb534 hg w45 hbox hb
                         have n0_ := Aside0.mk (below_step (tB_ HB) hb)
                         have n1_ := Aside0.mk (hbox)
                         have n2_ := Aside0.mk ((by rw [hg]; exact (below_size (tB_ HB)) : w.heap.size ≤ gb534))
                         have n3_ := Aside0.mk ((by rw [hg]; exact (below_size (tB_ HB)) : w.heap.size ≤ gb534))
                         clear HB
                         have HB := n0_
                         have BK534 := n1_
                         have GW534 := n2_
                         have GE534 := n3_
                         clear n0_ n1_ n2_ n3_
                         clear hb hbox hg
                         refine hK.out _ _ ⟨((HB.out.cell (World.block_lt_of_cell? w _ hw529_0)).trans hw529_0), ((HB.out.cell (World.block_lt_of_cell? w _ hw529_1)).trans hw529_1)⟩ (fun hHeld => ?_)
                         clear hK K
                         refine norm_ (a' := ?_) ?_ ?_; rotate_left; (show Act.put _ (some 10) _ = _; exact tP_)
                         refine one_ (i := 9) (N := some 70) (bm 16 9215) rfl rfl (one_of HT_.out (by kernel_rfl)) (by decide) (fun K hK => ?_)
                         refine goes_ Tryz.func48 (by kernel_rfl) rfl #[.string ((rd_T94 l0 x8_2).f0), .string (a1.extract (x6_1 : Int).toNat (t524 : Int).toNat)] (by rfl) rfl rfl tM_ ?_
                         with_reducible refine (numnahref08_Match.calls ((rd_T94 l0 x8_2).f0) (a1.extract (x6_1 : Int).toNat (t524 : Int).toNat) t530 t531 t532 t533 _ A36.out).mono ?_
                         rintro e w46 ⟨rfl, hb⟩
                         refine ⟨_, rfl, ?_⟩
                         have n0_ := Aside0.mk (blk_below (g := gb534) (o := .cells #[.string (⟨#[]⟩ : ByteArray), .string (⟨#[]⟩ : ByteArray), .string (⟨#[]⟩ : ByteArray)] 61 (0, 0)) (by (with_reducible repeat (first | refine blk_drewN ?_ _ | refine blk_drew ?_ | refine blk_alloc ?_ _)); exact BK534.out) hb)
                         have n1_ := Aside0.mk (below_step (by repeat (first | (with_reducible first | exact HB.out | apply below_alloc | apply pw_below_drewN | apply below_drew1 | refine below_set ?_ GE534.out) | exact HB.out)) hb)
                         clear BK534
                         clear HB
                         have BK534 := n0_
                         have HB := n1_
                         clear n0_ n1_
                         (try clear hb)
                         (try clear hb2)
                         (try clear hk)
                         (try clear hi)
                         refine hK.out _ _ ⟨((HB.out.cell (World.block_lt_of_cell? w _ hw529_0)).trans hw529_0), ((HB.out.cell (World.block_lt_of_cell? w _ hw529_1)).trans hw529_1)⟩ (fun hHeld => ?_)
                         clear hK K
                         refine norm_ (a' := ?_) ?_ ?_; rotate_left; (show Act.put _ (some 70) _ = _; exact tP_)
                         refine pure_ (i := 10) (N := some 60) (bm 16 10239) rfl rfl (any_of HT_.out (by kernel_rfl)) (fun _ _ _ h => h) (.inl ⟨rfl, tY_⟩) tP_ ?_
                         refine pure_ (i := 11) (N := some 71) (bm 16 12287) rfl rfl (any_of HT_.out (by kernel_rfl)) (fun _ _ _ h => h) (.inl ⟨rfl, tY_⟩) tP_ ?_
                         refine pure_ (i := 12) (N := some 72) (bm 16 16383) rfl rfl (any_of HT_.out (by kernel_rfl)) (fun _ _ _ h => h) (.inl ⟨rfl, tY_⟩) tP_ ?_
                         exact norm_ (by simp only [putAll, Act.put, List.setIfInBounds_toArray, List.set_cons_zero, List.set_cons_succ]) (hCont (gb534) _ ⟨hHeld, (by (with_reducible repeat (first | refine blk_drewN ?_ _ | refine blk_drew ?_ | refine blk_alloc ?_ _)); exact BK534.out), GW534.out, GE534.out, (by repeat (first | (with_reducible first | exact HB.out | apply below_alloc | apply pw_below_drewN | apply below_drew1 | refine below_set ?_ GE534.out) | exact HB.out))⟩)
                       rintro gb534 w47 ⟨hS_, h0_, h1_, h2_, h3_⟩
                       have n0_ : Aside0 (w47.heap[gb534]? = some (.cells #[.string (⟨#[]⟩ : ByteArray), .string (⟨#[]⟩ : ByteArray), .string (⟨#[]⟩ : ByteArray)] 61 (0, 0))) := ⟨h0_⟩
                       have n1_ : Aside0 (w.heap.size ≤ gb534) := ⟨h1_⟩
                       have n2_ : Aside0 (w.heap.size ≤ gb534) := ⟨h2_⟩
                       have n3_ : Aside0 (Below w.heap.size w w47) := ⟨h3_⟩
                       clear HB
                       clear h0_ h1_ h2_ h3_
                       have BK534 := n0_
                       have GW534 := n1_
                       have GE534 := n2_
                       have HB := n3_
                       clear n0_ n1_ n2_ n3_
                       have hHeld : w47.cell? (ad529.add ((x8_2).toNat * 2)) = some (.string ((rd_T94 l0 x8_2).f0)) ∧ w47.cell? ⟨(ad529.add ((x8_2).toNat * 2)).block, (ad529.add ((x8_2).toNat * 2)).off + 1, none⟩ = some (.string ((rd_T94 l0 x8_2).f1)) := hS_
                       refine norm_ (a' := ?_) ?_ ?_; rotate_left
                       ·simp only [putAll, Act.put, List.setIfInBounds_toArray, List.set_cons_zero, List.set_cons_succ]
                        rfl
                       refine one_ (i := 14) (N := none) (bm 16 32767) rfl rfl (one_of HT_.out (by kernel_rfl)) (by decide) (fun K hK => ?_)
                       have hs48 : w47.cell? ⟨gb534, 0, none⟩ = some (.string (⟨#[]⟩ : ByteArray)) := (blk_cell BK534.out 0).trans rfl
                       have hfs48 := blk_frozen BK534.out 0
                       have hs49 : w47.cell? ⟨gb534, 1, none⟩ = some (.string (⟨#[]⟩ : ByteArray)) := (blk_cell BK534.out 1).trans rfl
                       have hfs49 := blk_frozen BK534.out 1
                       have hs50 : w47.cell? ⟨gb534, 2, none⟩ = some (.string (⟨#[]⟩ : ByteArray)) := (blk_cell BK534.out 2).trans rfl
                       have hfs50 := blk_frozen BK534.out 2
                       refine skip_ (w1 := ?_) (by rfl) rfl ?_ ?_
                       rotate_left
                       ·go_simp
                        rfl
                       refine hK.out _ _ ⟨((cell_far (p := ⟨gb534, _, none⟩) (by first | exact Nat.ne_of_lt (Nat.lt_of_lt_of_le (by have := World.block_lt_of_cell? _ _ hw529_0; first | rwa [add_block] at this | exact this) GW534.out) | (rw [add_block]; exact Nat.ne_of_lt (Nat.lt_of_lt_of_le (by have := World.block_lt_of_cell? _ _ hw529_0; first | rwa [add_block] at this | exact this) GW534.out)) | (show (Addr.add _ _).block ≠ _; rw [add_block]; exact Nat.ne_of_lt (Nat.lt_of_lt_of_le (by have := World.block_lt_of_cell? _ _ hw529_0; first | rwa [add_block] at this | exact this) GW534.out)) | (dsimp only; exact Nat.ne_of_lt (Nat.lt_of_lt_of_le (by have := World.block_lt_of_cell? _ _ hw529_0; first | rwa [add_block] at this | exact this) GW534.out))) _).trans (((cell_far (p := ⟨gb534, _, none⟩) (by first | exact Nat.ne_of_lt (Nat.lt_of_lt_of_le (by have := World.block_lt_of_cell? _ _ hw529_0; first | rwa [add_block] at this | exact this) GW534.out) | (rw [add_block]; exact Nat.ne_of_lt (Nat.lt_of_lt_of_le (by have := World.block_lt_of_cell? _ _ hw529_0; first | rwa [add_block] at this | exact this) GW534.out)) | (show (Addr.add _ _).block ≠ _; rw [add_block]; exact Nat.ne_of_lt (Nat.lt_of_lt_of_le (by have := World.block_lt_of_cell? _ _ hw529_0; first | rwa [add_block] at this | exact this) GW534.out)) | (dsimp only; exact Nat.ne_of_lt (Nat.lt_of_lt_of_le (by have := World.block_lt_of_cell? _ _ hw529_0; first | rwa [add_block] at this | exact this) GW534.out))) _).trans (((cell_far (p := ⟨gb534, _, none⟩) (by first | exact Nat.ne_of_lt (Nat.lt_of_lt_of_le (by have := World.block_lt_of_cell? _ _ hw529_0; first | rwa [add_block] at this | exact this) GW534.out) | (rw [add_block]; exact Nat.ne_of_lt (Nat.lt_of_lt_of_le (by have := World.block_lt_of_cell? _ _ hw529_0; first | rwa [add_block] at this | exact this) GW534.out)) | (show (Addr.add _ _).block ≠ _; rw [add_block]; exact Nat.ne_of_lt (Nat.lt_of_lt_of_le (by have := World.block_lt_of_cell? _ _ hw529_0; first | rwa [add_block] at this | exact this) GW534.out)) | (dsimp only; exact Nat.ne_of_lt (Nat.lt_of_lt_of_le (by have := World.block_lt_of_cell? _ _ hw529_0; first | rwa [add_block] at this | exact this) GW534.out))) _).trans (hHeld.1)))))), ((cell_far (p := ⟨gb534, _, none⟩) (by first | exact Nat.ne_of_lt (Nat.lt_of_lt_of_le (by have := World.block_lt_of_cell? _ _ hw529_1; first | rwa [add_block] at this | exact this) GW534.out) | (rw [add_block]; exact Nat.ne_of_lt (Nat.lt_of_lt_of_le (by have := World.block_lt_of_cell? _ _ hw529_1; first | rwa [add_block] at this | exact this) GW534.out)) | (show (Addr.add _ _).block ≠ _; rw [add_block]; exact Nat.ne_of_lt (Nat.lt_of_lt_of_le (by have := World.block_lt_of_cell? _ _ hw529_1; first | rwa [add_block] at this | exact this) GW534.out)) | (dsimp only; exact Nat.ne_of_lt (Nat.lt_of_lt_of_le (by have := World.block_lt_of_cell? _ _ hw529_1; first | rwa [add_block] at this | exact this) GW534.out))) _).trans (((cell_far (p := ⟨gb534, _, none⟩) (by first | exact Nat.ne_of_lt (Nat.lt_of_lt_of_le (by have := World.block_lt_of_cell? _ _ hw529_1; first | rwa [add_block] at this | exact this) GW534.out) | (rw [add_block]; exact Nat.ne_of_lt (Nat.lt_of_lt_of_le (by have := World.block_lt_of_cell? _ _ hw529_1; first | rwa [add_block] at this | exact this) GW534.out)) | (show (Addr.add _ _).block ≠ _; rw [add_block]; exact Nat.ne_of_lt (Nat.lt_of_lt_of_le (by have := World.block_lt_of_cell? _ _ hw529_1; first | rwa [add_block] at this | exact this) GW534.out)) | (dsimp only; exact Nat.ne_of_lt (Nat.lt_of_lt_of_le (by have := World.block_lt_of_cell? _ _ hw529_1; first | rwa [add_block] at this | exact this) GW534.out))) _).trans (((cell_far (p := ⟨gb534, _, none⟩) (by first | exact Nat.ne_of_lt (Nat.lt_of_lt_of_le (by have := World.block_lt_of_cell? _ _ hw529_1; first | rwa [add_block] at this | exact this) GW534.out) | (rw [add_block]; exact Nat.ne_of_lt (Nat.lt_of_lt_of_le (by have := World.block_lt_of_cell? _ _ hw529_1; first | rwa [add_block] at this | exact this) GW534.out)) | (show (Addr.add _ _).block ≠ _; rw [add_block]; exact Nat.ne_of_lt (Nat.lt_of_lt_of_le (by have := World.block_lt_of_cell? _ _ hw529_1; first | rwa [add_block] at this | exact this) GW534.out)) | (dsimp only; exact Nat.ne_of_lt (Nat.lt_of_lt_of_le (by have := World.block_lt_of_cell? _ _ hw529_1; first | rwa [add_block] at this | exact this) GW534.out))) _).trans (hHeld.2))))))⟩ (fun hHeld => ?_)
                       clear hK K
                       refine pure_ (i := 15) (N := some 11) (bm 16 65535) rfl rfl (any_of HT_.out (by kernel_rfl)) (fun _ _ _ h => h) (.inl ⟨rfl, tY_⟩) tP_ ?_
                       refine done_ (done_of HT_.out (by kernel_rfl)) ?_
                       try go_wp2
                       have n0_ : Aside0 ((((w47.setCell ⟨gb534, 0, none⟩ (.string t530)).setCell ⟨gb534, 1, none⟩ (.string t531)).setCell ⟨gb534, 2, none⟩ (.string t532)).heap[gb534]? = some (.cells #[.string t530, .string t531, .string t532] 61 (0, 0))) := ⟨by (with_reducible repeat (first | refine blk_drewN ?_ _ | refine blk_drew ?_ | refine blk_alloc ?_ _)); refine blk_put (cs := #[.string t530, .string t531, .string (⟨#[]⟩ : ByteArray)]) ?_ 2 _ rfl; (with_reducible repeat (first | refine blk_drewN ?_ _ | refine blk_drew ?_ | refine blk_alloc ?_ _)); refine blk_put (cs := #[.string t530, .string (⟨#[]⟩ : ByteArray), .string (⟨#[]⟩ : ByteArray)]) ?_ 1 _ rfl; (with_reducible repeat (first | refine blk_drewN ?_ _ | refine blk_drew ?_ | refine blk_alloc ?_ _)); refine blk_put (cs := #[.string (⟨#[]⟩ : ByteArray), .string (⟨#[]⟩ : ByteArray), .string (⟨#[]⟩ : ByteArray)]) ?_ 0 _ rfl; (with_reducible repeat (first | refine blk_drewN ?_ _ | refine blk_drew ?_ | refine blk_alloc ?_ _)); exact BK534.out⟩
                       have n1_ : Aside0 (Below w.heap.size w (((w47.setCell ⟨gb534, 0, none⟩ (.string t530)).setCell ⟨gb534, 1, none⟩ (.string t531)).setCell ⟨gb534, 2, none⟩ (.string t532))) := ⟨by repeat (first | (with_reducible first | exact HB.out | apply below_alloc | apply pw_below_drewN | apply below_drew1 | refine below_set ?_ GE534.out) | exact HB.out)⟩
                       (try clear BK534)
                       (try clear HB)
                       generalize (((w47.setCell ⟨gb534, 0, none⟩ (.string t530)).setCell ⟨gb534, 1, none⟩ (.string t531)).setCell ⟨gb534, 2, none⟩ (.string t532)) = w51 at n0_ n1_ ⊢
                       have BK534 := n0_
                       have HB := n1_
                       clear n0_ n1_
                       have n0_ := Aside0.mk (blk_drew BK534.out)
                       have n1_ := Aside0.mk (below_drew1 HB.out)
                       clear BK534
                       clear HB
                       have BK534 := n0_
                       have HB := n1_
                       clear n0_ n1_
                       have p535 : 0 ≤ (x8_2 : Int) := of_decide_eq_true tA_
                       have q535 : x8_2 < (l0.length : Int) := of_decide_eq_true tA_
                       obtain ⟨ad535, e535, hx535_0, hx535_1⟩ := at_T94 HR0.out x8_2 p535 q535
                       have hw535_1 := hx535_1
                       have hw535_0 := hx535_0
                       obtain rfl : ad529 = ad535 := (by injection e535)
                       replace hx535_0 := (HB.out.cell (World.block_lt_of_cell? w _ hx535_0)).trans hx535_0
                       replace hx535_1 := (HB.out.cell (World.block_lt_of_cell? w _ hx535_1)).trans hx535_1
                       replace p535 := eq_true p535
                       replace q535 := eq_true q535
                       refine start_ (n := 17) (S := fun w' => w'.cell? ⟨gb534, 0, none⟩ = some (.string t530) ∧ w'.cell? ⟨gb534, 1, none⟩ = some (.string t531) ∧ w'.cell? ⟨gb534, 2, none⟩ = some (.string t532) ∧ w'.cell? (ad529.add ((x8_2).toNat * 2)) = some (.string ((rd_T94 l0 x8_2).f0)) ∧ w'.cell? ⟨(ad529.add ((x8_2).toNat * 2)).block, (ad529.add ((x8_2).toNat * 2)).off + 1, none⟩ = some (.string ((rd_T94 l0 x8_2).f1))) (ds := []) (bm 17 0) (by kernel_rfl) rfl rfl ⟨(blk_cell BK534.out 0).trans rfl, (blk_cell BK534.out 1).trans rfl, (blk_cell BK534.out 2).trans rfl, ((HB.out.cell (World.block_lt_of_cell? w _ hw535_0)).trans hw535_0), ((HB.out.cell (World.block_lt_of_cell? w _ hw535_1)).trans hw535_1)⟩ (fun hHeld => ?_); refine with_tabW numnahref08_Once.tab14 numnahref08_Once.bits14 (fun HT_ HW_ => ?_)
                       generalize w51.drew = w52 at BK534 HB hx535_0 hx535_1 hHeld ⊢
                       refine pure_ (i := 0) (N := some 73) (bm 17 1) rfl rfl (any_of HT_.out (by kernel_rfl)) (fun _ _ _ h => h) (.inl ⟨rfl, tY_⟩) tP_ ?_
                       refine pure_ (i := 1) (N := some 74) (bm 17 3) rfl rfl (any_of HT_.out (by kernel_rfl)) (fun _ _ _ h => h) (.inl ⟨rfl, tY_⟩) tP_ ?_
                       refine pure_ (i := 2) (N := some 75) (bm 17 7) rfl rfl (any_of HT_.out (by kernel_rfl)) (fun _ _ _ h => h) (.inl ⟨rfl, tY_⟩) tP_ ?_
                       refine pure_ (i := 3) (N := some 76) (bm 17 15) rfl rfl (any_of HT_.out (by kernel_rfl)) (fun _ _ _ h => h) (.inl ⟨rfl, tY_⟩) tP_ ?_
                       refine pure_ (i := 4) (N := some 77) (bm 17 31) rfl rfl (any_of HT_.out (by kernel_rfl)) (fun _ _ _ h => h) (.inl ⟨rfl, tY_⟩) tP_ ?_
                       refine pure_ (i := 5) (N := some 78) (bm 17 63) rfl rfl (any_of HT_.out (by kernel_rfl)) (fun _ _ _ h => h) (.inl ⟨rfl, tY_⟩) tP_ ?_
                       refine pure_ (i := 6) (N := some 79) (bm 17 127) rfl rfl (any_of HT_.out (by kernel_rfl)) (fun _ _ _ h => h) (.inl ⟨rfl, tY_⟩) tP_ ?_
                       refine pure_ (i := 11) (N := some 84) (bm 17 2175) rfl rfl (any_of HT_.out (by kernel_rfl)) (fun _ _ _ h => h) (.inl ⟨rfl, tY_⟩) tP_ ?_
                       refine pure_ (i := 12) (N := some 85) (bm 17 6271) rfl rfl (any_of HT_.out (by kernel_rfl)) (fun _ _ _ h => h) (.inl ⟨rfl, tY_⟩) tP_ ?_
                       refine pure_ (i := 13) (N := some 86) (bm 17 14463) rfl rfl (any_of HT_.out (by kernel_rfl)) (fun _ _ _ h => h) (.inl ⟨rfl, tY_⟩) tP_ ?_
                       refine take_ (i := 7) (N := some 80) (v := ?_) (a' := ?_) (bm 17 14591) rfl rfl (take_ofW HT_.out HW_.out (by kernel_rfl)) (fun _ _ _ h => h) (Or.inl ⟨by rfl, ?_⟩) hHeld ?_ ?_; rotate_left; (rintro w' ⟨s0, s1, s2, s3, s4⟩; go_simp; with_reducible rfl); rotate_left; exact tP_
                       refine take_ (i := 8) (N := some 81) (v := ?_) (a' := ?_) (bm 17 14847) rfl rfl (take_ofW HT_.out HW_.out (by kernel_rfl)) (fun _ _ _ h => h) (Or.inl ⟨by rfl, ?_⟩) hHeld ?_ ?_; rotate_left; (rintro w' ⟨s0, s1, s2, s3, s4⟩; go_simp; with_reducible rfl); rotate_left; exact tP_
                       refine one_ (i := 9) (N := some 82) (bm 17 15359) rfl rfl (one_of HT_.out (by kernel_rfl)) (by decide) (fun K hK => ?_)
                       refine goes_ Tryz.func46 (by kernel_rfl) rfl #[.string ((rd_T94 l0 x8_2).f1), .agg #[.string t530, .string t531, .string t532]] (by rfl) rfl rfl tM_ ?_
                       with_reducible refine (numnahref08_Apply.calls ((rd_T94 l0 x8_2).f1) t530 t531 t532 t536 _ A39.out).mono ?_
                       rintro e w53 ⟨rfl, hb⟩
                       refine ⟨_, rfl, ?_⟩
                       have n0_ := Aside0.mk (blk_below (g := gb534) (o := .cells #[.string t530, .string t531, .string t532] 61 (0, 0)) (by (with_reducible repeat (first | refine blk_drewN ?_ _ | refine blk_drew ?_ | refine blk_alloc ?_ _)); exact BK534.out) hb)
                       have n1_ := Aside0.mk (below_step (by repeat (first | (with_reducible first | exact HB.out | apply below_alloc | apply pw_below_drewN | apply below_drew1 | refine below_set ?_ GE534.out) | exact HB.out)) hb)
                       clear BK534
                       clear HB
                       have BK534 := n0_
                       have HB := n1_
                       clear n0_ n1_
                       (try clear hb)
                       (try clear hb2)
                       (try clear hk)
                       (try clear hi)
                       refine hK.out _ _ ⟨(blk_cell BK534.out 0).trans rfl, (blk_cell BK534.out 1).trans rfl, (blk_cell BK534.out 2).trans rfl, ((HB.out.cell (World.block_lt_of_cell? w _ hw535_0)).trans hw535_0), ((HB.out.cell (World.block_lt_of_cell? w _ hw535_1)).trans hw535_1)⟩ (fun hHeld => ?_)
                       clear hK K
                       refine norm_ (a' := ?_) ?_ ?_; rotate_left; (show Act.put _ (some 82) _ = _; exact tP_)
                       refine pure_ (i := 10) (N := some 83) (bm 17 16383) rfl rfl (any_of HT_.out (by kernel_rfl)) (fun _ _ _ h => h) (.inl ⟨rfl, tY_⟩) tP_ ?_
                       refine pure_ (i := 14) (N := some 87) (bm 17 32767) rfl rfl (any_of HT_.out (by kernel_rfl)) (fun _ _ _ h => h) (.inl ⟨rfl, tY_⟩) tP_ ?_
                       refine pure_ (i := 15) (N := some 4) (bm 17 65535) rfl rfl (any_of HT_.out (by kernel_rfl)) (fun _ _ _ h => h) (.inl ⟨rfl, tY_⟩) tP_ ?_
                       refine pure_ (i := 16) (N := some 5) (bm 17 131071) rfl rfl (any_of HT_.out (by kernel_rfl)) (fun _ _ _ h => h) (.inl ⟨rfl, tY_⟩) tP_ ?_
                       refine done_ (done_of HT_.out (by kernel_rfl)) ?_
                       try go_wp2
                       go_ret2
                       exact ⟨tE_, by repeat (first | (with_reducible first | exact HB.out | apply below_alloc | apply pw_below_drewN | apply below_drew1 | refine below_set ?_ GE534.out) | exact HB.out)⟩
                      ·rw [if_neg c43] at H
                       exact absurd H (by simp)
                     ·rw [if_neg c41] at H
                      exact absurd H (by simp)
                    ·rw [if_neg c40] at H
                     exact absurd H (by simp)
                   ·rw [if_neg c38] at H
                    exact absurd H (by simp)
                  ·rw [if_neg c35] at H
                   exact absurd H (by simp)
                 ·rw [if_neg c34] at H
                  exact absurd H (by simp)
                ·rw [if_neg c33] at H
                 exact absurd H (by simp)
               ·rw [if_neg c32] at H
                exact absurd H (by simp)
              ·rw [if_neg c31] at H
               exact absurd H (by simp)
             ·rw [if_neg c30] at H
              have c30b0 : decide (0 ≤ x8_2) = false := decide_eq_false c30
              clear c30
              have H' := Aside0.mk H
              clear H
              go_wp2
              go_roundg kj13
              case measure => have := HK1.out; have := HK2.out; have := HJ13.out; omega
              case rel => exact ⟨(wrap64 (x6_1 + 1)), tS_, H', ⟨by have := HK1.out; have := HK2.out; have := HJ13.out; omega⟩, ⟨tB_ HB⟩⟩
       ·rw [if_neg c11] at H
        exact absurd H (by simp)
      ·rw [if_neg c10] at H
       exact absurd H (by simp)
     ·replace c7 := Bool.eq_false_iff.mpr c7
      subst c7
      have H1 : (numnahref08_Once.l0 k1 l0 a1 (wrap64 (x6_1 + 1))) = some (r1, r2) := by rw [if_neg (show ¬ (false = true) by decide)] at H; exact H
      clear H
      have H := H1
      clear H1
      have H' := Aside0.mk H
      clear H
      have p5 : 0 ≤ (x6_1 : Int) := of_decide_eq_true tA_
      have q5 : x6_1 < (a1.size : Int) := of_decide_eq_true tA_
      have hx5 := bt_at a1 x6_1
      replace p5 := eq_true p5
      replace q5 := eq_true q5
      go_wp2_with (first | ((with_reducible refine gate_callee (f := 73) rfl ?_); refine goesL_ (some 21) rfl rfl Tryz.func73 (by kernel_rfl) rfl #[.int .u8 (bt a1 x6_1)] rfl tM_ ?_; (with_reducible refine (numnahref08_letter.calls k1 (bt a1 x6_1) false _ A6.out).mono ?_); rintro e w' ⟨rfl, ⟨nd, rfl⟩⟩; refine ⟨_, rfl, ?_⟩))
      go_roundg k1
      case measure => have := HK1.out; omega
      case rel => exact ⟨(wrap64 (x6_1 + 1)), tS_, H', ⟨by have := HK1.out; omega⟩, ⟨tB_ HB⟩⟩
    ·rw [if_neg c4] at H
     exact absurd H (by simp)
   ·rw [if_neg c3] at H
    have c3b0 : decide (x6_1 < (a1.size : Int)) = false := decide_eq_false c3
    clear c3
    simp only [Option.some.injEq, Prod.mk.injEq] at H
    obtain ⟨rfl, rfl⟩ := H
    go_wp2
    go_ret2
    exact ⟨tE_, tB_ HB⟩
end Go.Proofs.YtaafeallcaiooaaGreat.Pr
