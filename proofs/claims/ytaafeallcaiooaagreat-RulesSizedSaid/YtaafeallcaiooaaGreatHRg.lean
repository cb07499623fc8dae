/- isReading: whether lists are a reading. -/
import Derived.Test.YtaafeallcaiooaaGreatHLp
namespace Go.Proofs.YtaafeallcaiooaaGreat.Pr
open Go.RowKit Go.Maps Go.Proofs.YtaafeallcaiooaaGreatW.PrintWords Go.Proofs.YtaafeallcaiooaaGreatW.PrintLast Go.Proofs.YtaafeallcaiooaaGreatW.PrintMore
set_option linter.unusedVariables false
set_option linter.unusedSimpArgs false
def withinB (n lo hi : Int) : Bool := decide (n ≥ lo) && decide (n ≤ hi)
theorem within_calls (n lo hi : Int) (w : World) : Calls Tryz.prog 101 #[.int .i64 n, .int .i64 lo, .int .i64 hi] w fun e w' => e = .returned (.bool (withinB n lo hi)) ∧ w' = w := by
 unfold withinB
 by_cases h1 : n ≥ lo
 ·by_cases h2 : n ≤ hi
  ·have d1 : decide (n ≥ lo) = true := decide_eq_true h1
   have d2 : decide (n ≤ hi) = true := decide_eq_true h2
   rw [d1, d2]
   clear h1 h2
   go_enter Tryz.func101, Tryz.ntmps101
   go_wp2
   go_ret
   exact ⟨rfl, rfl⟩
  ·have d1 : decide (n ≥ lo) = true := decide_eq_true h1
   have d2 : decide (n ≤ hi) = false := decide_eq_false h2
   rw [d1, d2]
   clear h1 h2
   go_enter Tryz.func101, Tryz.ntmps101
   go_wp2
   go_ret
   exact ⟨rfl, rfl⟩
 ·have d1 : decide (n ≥ lo) = false := decide_eq_false h1
  rw [d1]
  clear h1
  go_enter Tryz.func101, Tryz.ntmps101
  go_wp2
  go_ret
  exact ⟨rfl, rfl⟩
theorem notFactor_calls (n : Int) (w : World) : Calls Tryz.prog 118 #[.int .i64 n] w fun e w' => e = .returned (.bool (!withinB n 1 2)) ∧ w' = w := by
 have hw := within_calls n 1 2 w
 generalize withinB n 1 2 = b at *
 go_enter Tryz.func118, Tryz.ntmps118
 go_wp2_with (go_at_call 101; refine hw.mono ?_; rintro e w1 ⟨rfl, h1⟩; subst w1)
 go_ret
 exact ⟨rfl, rfl⟩
set_option maxRecDepth 100000 in
theorem indexInt_calls (xs : List Int) (A : Option Addr) (cap : Nat) (w : World) (hc : ∀ j (h : j < xs.length), ∃ ad, A = some ad ∧ w.cell? (ad.add j) = some (.int .i64 xs[j])) (hln : xs.length ≤ 1000) :
  Calls Tryz.prog 143 #[.slice A xs.length cap, .func (.func 118) #[] #[]] w fun e w' => ∃ k : Int, e = .returned (.int .i64 k) ∧ decide (k ≥ 0) = xs.any (fun n => !withinB n 1 2) ∧ w' = w := by
 have HP := Aside0.mk (And.intro hc hln)
 clear hc hln
 go_enter Tryz.func143, Tryz.ntmps143
 go_wp2
 go_loopw [8] (fun v8 wr => ∃ (i : Nat), v8 = .int .i64 (i : Int) ∧ Aside0 (i ≤ xs.length) ∧ Aside0 ((xs.take i).any (fun n => !withinB n 1 2) = false) ∧ wr = w) (fun v8 _ => xs.length - (intOf v8).toNat)
 case atStart => exact ⟨0, rfl, ⟨Nat.zero_le _⟩, ⟨rfl⟩, rfl⟩
 case round =>
  obtain ⟨i, rfl, HI, HA, hwr⟩ := hrel
  subst wr
  obtain ⟨hc, hln⟩ := HP.out
  by_cases hlt : i < xs.length
  ·have hlb : decide ((i : Int) < (xs.length : Int)) = true := decide_eq_true (by omega)
   obtain ⟨ad, rfl, hc1⟩ := hc i hlt
   have hcall := notFactor_calls xs[i] w
   have hsn : (xs.take (i + 1)).any (fun n => !withinB n 1 2) = !withinB xs[i] 1 2 := by
    rw [List.take_succ_eq_append_getElem hlt, List.any_append, HA.out]
    simp
   have htr : (!withinB xs[i] 1 2) = true → xs.any (fun n => !withinB n 1 2) = true := fun h => List.any_eq_true.2 ⟨xs[i], List.getElem_mem hlt, h⟩
   generalize (!withinB xs[i] 1 2) = b at *
   generalize xs[i] = x at *
   have HC := Aside0.mk hcall
   have HH := Aside0.mk (And.intro hsn htr)
   have w1i : wrap64 ((i : Int) + 1) = (i : Int) + 1 := wrp i (by omega)
   clear hcall hsn htr hc hln
   cases b with
   | true =>
    go_wp2_with (go_at_call 118; refine HC.out.mono ?_; rintro e w1 ⟨rfl, h1⟩; subst w1)
    go_ret
    exact ⟨_, rfl, (decide_eq_true (by omega)).trans (HH.out.2 (by simp)).symm, rfl⟩
   | false =>
    go_wp2_with (go_at_call 118; refine HC.out.mono ?_; rintro e w1 ⟨rfl, h1⟩; subst w1)
    try rw [w1i]
    refine ⟨⟨i + 1, by simp, ⟨by omega⟩, ⟨HH.out.1⟩, by first | rfl | trivial⟩, ?_⟩
    simp only [intOf]
    omega
  ·have hlb : decide ((i : Int) < (xs.length : Int)) = false := decide_eq_false (by omega)
   have hno : xs.any (fun n => !withinB n 1 2) = false := by have := HA.out; rwa [List.take_of_length_le (by omega)] at this
   have HN := Aside0.mk hno
   clear hc hln hno
   go_wp2
   go_ret
   exact ⟨-1, rfl, by rw [HN.out]; rfl, rfl⟩
theorem containsInt_calls (xs : List Int) (A : Option Addr) (cap : Nat) (w : World) (hc : ∀ j (h : j < xs.length), ∃ ad, A = some ad ∧ w.cell? (ad.add j) = some (.int .i64 xs[j])) (hln : xs.length ≤ 1000) (n : Nat) (hn : n = xs.length) :
  Calls Tryz.prog 117 #[.slice A n cap, .func (.func 118) #[] #[]] w fun e w' => e = .returned (.bool (xs.any (fun n => !withinB n 1 2))) ∧ w' = w := by
 subst hn
 have HC := Aside0.mk (indexInt_calls xs A cap w hc hln)
 clear hc hln
 generalize xs.any (fun n => !withinB n 1 2) = r at *
 generalize xs.length = n at *
 go_enter Tryz.func117, Tryz.ntmps117
 go_wp2_with (go_at_call 143; refine HC.out.mono ?_; rintro e w1 ⟨k, rfl, hk, h1⟩; subst w1; have H1 := Aside0.mk hk; clear hk)
 go_ret
 rw [← H1.out]
 exact ⟨rfl, rfl⟩
theorem add_one_add (ad : Addr) (j : Nat) : (⟨ad.block, ad.off + 1, none⟩ : Addr).add j = ad.add (1 + j) := by
 unfold Addr.add
 by_cases h : j = 0
 ·subst h
  simp
 ·simp [h]
  omega
theorem tailAt {w : World} {ad : Addr} {row : List Int} (h : (Kd.int .i64).C w (some ad) row.length row) (j : Nat) (hj : j < (row.drop 1).length) : ∃ a, some (⟨ad.block, ad.off + 1, none⟩ : Addr) = some a ∧ w.cell? (a.add j) = some (.int .i64 (row.drop 1)[j]) := by
 have hj2 : 1 + j < row.length := by rw [List.length_drop] at hj; omega
 obtain ⟨a, e, hc⟩ := Kd.at_int h ((1 + j : Nat) : Int) (by omega) (by omega)
 obtain rfl : ad = a := by injection e
 refine ⟨_, rfl, ?_⟩
 rw [add_one_add]
 rw [Int.toNat_natCast] at hc
 rw [hc]
 have hrd : rd row ((1 + j : Nat) : Int) = row[1 + j] := by
  show row.getD ((1 + j : Nat) : Int).toNat 0 = _
  rw [Int.toNat_natCast, List.getD_eq_getElem?_getD, List.getElem?_eq_getElem hj2]
  rfl
 rw [hrd, List.getElem_drop]
/-! ### isReading -/
def rowOk (i : Nat) (row : List Int) : Bool := decide ((row.length : Int) = 1 + nParts (97 + i)) && (withinB (row.getD 0 0) 0 2 && !(row.drop 1).any (fun n => !withinB n 1 2))
def isRdF : Nat → List (List Int) → Bool
 | _, [] => true
 | i, row :: l => rowOk i row && isRdF (i + 1) l
def isRd (l : List (List Int)) : Bool := decide (l.length = 6) && isRdF 0 l
set_option maxRecDepth 100000 in
set_option maxHeartbeats 1000000 in
theorem isReading_calls (xs : List (List Int)) (A : Option Addr) (cap : Nat) (w : World) (hC : Kd.C (Kd.slice 3 (Kd.int .i64)) w A xs.length xs) :
  Calls Tryz.prog 68 #[.slice A xs.length cap] w fun e w' => e = .returned (.bool (isRd xs)) ∧ w' = w := by
 by_cases h6 : xs.length = 6
 ·have hd6 : ((xs.length : Int) == 6) = true := beq_iff_eq.2 (by omega)
  obtain ⟨r, hr⟩ : ∃ r, r = isRd xs := ⟨_, rfl⟩
  have hrF : r = isRdF 0 xs := by rw [hr]; unfold isRd; rw [decide_eq_true h6, Bool.true_and]
  rw [← hr]
  have HP := Aside0.mk (And.intro hC (And.intro hrF h6))
  rw [h6]
  clear hC hrF hr hd6
  go_enter Tryz.func68, Tryz.ntmps68
  go_wp2
  go_loopw [10] (fun v10 wr => ∃ (i : Nat), v10 = .int .i64 (i : Int) ∧ Aside0 (i ≤ 6) ∧ Aside0 (r = isRdF i (xs.drop i)) ∧ wr = w) (fun v10 _ => 6 - (intOf v10).toNat)
  case atStart => exact ⟨0, rfl, ⟨by omega⟩, ⟨by rw [List.drop_zero]; exact HP.out.2.1⟩, rfl⟩
  case round =>
   obtain ⟨i, rfl, HI, HR, hwr⟩ := hrel
   subst wr
   obtain ⟨hC, hrF, h6b⟩ := HP.out
   by_cases hlt : i < 6
   ·have hlb : decide ((i : Int) < 6) = true := decide_eq_true (by omega)
    have hlx : i < xs.length := by omega
    rw [h6] at hC
    obtain ⟨ad, A0, c0, rfl, hcell, hlc, hrow⟩ := at_L1 hC (i : Int) (by omega) (by omega)
    have hrd : rd_L1 xs (i : Int) = xs[i] := by simp [rd_L1, hlx]
    rw [hrd] at hcell hlc hrow
    rw [Int.toNat_natCast] at hcell
    have hsym : ∀ h, ((((⟨#[97, 98, 99, 100, 101, 102]⟩ : ByteArray)[i]'h).toNat : Nat) : Int) = 97 + (i : Int) := by
     intro h
     have : i = 0 ∨ i = 1 ∨ i = 2 ∨ i = 3 ∨ i = 4 ∨ i = 5 := by omega
     rcases this with rfl | rfl | rfl | rfl | rfl | rfl <;> rfl
    have hnp : 0 ≤ nParts (97 + (i : Int)) ∧ nParts (97 + (i : Int)) ≤ 2 := by unfold nParts; omega
    have hpc := parts_calls (97 + (i : Int)) (by omega) w
    have hwp : wrap64 (1 + nParts (97 + (i : Int))) = 1 + nParts (97 + (i : Int)) := wr (by omega) (by omega)
    have hd : xs.drop i = xs[i] :: xs.drop (i + 1) := List.drop_eq_getElem_cons hlx
    have hR2 := HR.out
    rw [hd, isRdF] at hR2
    generalize xs[i] = row at *
    have HPC := Aside0.mk hpc
    by_cases hlen : (row.length : Int) = 1 + nParts (97 + (i : Int))
    ·have he : ((row.length : Int) == 1 + nParts (97 + (i : Int))) = true := beq_iff_eq.2 hlen
     have hr0 : 0 < row.length := by omega
     obtain ⟨ad0, rfl, hc0⟩ := Kd.at_int hrow 0 (by omega) (by omega)
     have hc00 : w.cell? ad0 = some (.int .i64 (rd row 0)) := by
      have := hc0
      simpa [Addr.add] using this
     clear hc0
     have hbn : ((row.length : Int) != 1 + nParts (97 + (i : Int))) = false := by rw [bne, he]; rfl
     have HRW := Aside0.mk hrow
     have HAT := Aside0.mk (tailAt hrow)
     have hr2 : row.length ≤ 3 := by omega
     have hne : ((1 : Int) ≤ (row.length : Int)) := by omega
     have HH := Aside0.mk (And.intro hR2 (And.intro hlen (And.intro hnp (And.intro hd (And.intro hC hrF)))))
     clear hC hrF hrd hpc hnp hd hR2 hlen hrow
     have hwi := within_calls (rd row 0) 0 2 w
     have hrow2 : rowOk i row = (withinB (rd row 0) 0 2 && !(row.drop 1).any (fun n => !withinB n 1 2)) := by
      unfold rowOk
      rw [decide_eq_true HH.out.2.1, Bool.true_and]
      rfl
     have hct := fun (A' : Option Addr) (cap' : Nat) (hA : ∀ j (h : j < (row.drop 1).length), ∃ ad, A' = some ad ∧ w.cell? (ad.add j) = some (.int .i64 (row.drop 1)[j])) => containsInt_calls (row.drop 1) A' cap' w hA (by rw [List.length_drop]; omega) (row.length - 1) (by rw [List.length_drop])
     generalize (row.drop 1).any (fun n => !withinB n 1 2) = b3 at *
     generalize withinB (rd row 0) 0 2 = b2 at *
     have HRO := Aside0.mk hrow2
     have HWI := Aside0.mk hwi
     have HCT := Aside0.mk hct
     clear hrow2 hwi hct
     have w1i : wrap64 ((i : Int) + 1) = (i : Int) + 1 := wrp i (by omega)
     cases b2 with
     | false =>
      have hr0 : r = false := by rw [HH.out.1, HRO.out]; rfl
      subst hr0
      go_wp2_with (first | (go_at_call 114; refine HPC.out.mono ?_; rintro e w1 ⟨rfl, h1⟩; subst w1) | (go_at_call 101; refine HWI.out.mono ?_; rintro e w1 ⟨rfl, h1⟩; subst w1))
      go_ret
      exact ⟨rfl, rfl⟩
     | true =>
      cases b3 with
      | true =>
       have hr0 : r = false := by rw [HH.out.1, HRO.out]; rfl
       subst hr0
       go_wp2_with (first | (go_at_call 114; refine HPC.out.mono ?_; rintro e w1 ⟨rfl, h1⟩; subst w1) | (go_at_call 101; refine HWI.out.mono ?_; rintro e w1 ⟨rfl, h1⟩; subst w1) | (go_at_call 117; refine (HCT.out _ _ (by intro j h; first | (exfalso; rw [List.length_drop] at h; omega) | exact HAT.out j h)).mono ?_; rintro e w1 ⟨rfl, h1⟩; subst w1))
       all_goals (go_ret; exact ⟨rfl, rfl⟩)
      | false =>
       go_wp2_with (first | (go_at_call 114; refine HPC.out.mono ?_; rintro e w1 ⟨rfl, h1⟩; subst w1) | (go_at_call 101; refine HWI.out.mono ?_; rintro e w1 ⟨rfl, h1⟩; subst w1) | (go_at_call 117; refine (HCT.out _ _ (by intro j h; first | (exfalso; rw [List.length_drop] at h; omega) | exact HAT.out j h)).mono ?_; rintro e w1 ⟨rfl, h1⟩; subst w1))
       all_goals (
        try rw [w1i]
        refine ⟨⟨i + 1, by simp, ⟨by omega⟩, ⟨by rw [HH.out.1, HRO.out]; rfl⟩, by first | rfl | trivial⟩, ?_⟩
        simp only [intOf]
        omega)
    ·have he : ((row.length : Int) == 1 + nParts (97 + (i : Int))) = false := beq_eq_false_iff_ne.2 hlen
     have hbn : ((row.length : Int) != 1 + nParts (97 + (i : Int))) = true := by rw [bne, he]; rfl
     have hr0 : r = false := by rw [hR2]; unfold rowOk; rw [decide_eq_false hlen]; rfl
     subst hr0
     clear hC hrF hrd hpc hnp hd hR2 hlen hrow
     go_wp2_with (go_at_call 114; refine HPC.out.mono ?_; rintro e w1 ⟨rfl, h1⟩; subst w1)
     go_ret
     exact ⟨rfl, rfl⟩
   ·have hlb : decide ((i : Int) < 6) = false := decide_eq_false (by omega)
    have hr1 : r = true := by
     have := HR.out
     rwa [List.drop_of_length_le (by omega), isRdF] at this
    subst hr1
    clear hC hrF h6b
    go_wp2
    go_ret
    exact ⟨rfl, rfl⟩
 ·have hd6 : ((xs.length : Int) == 6) = false := beq_eq_false_iff_ne.2 (by omega)
  have hr : isRd xs = false := by unfold isRd; rw [decide_eq_false h6, Bool.false_and]
  rw [hr]
  clear hC hr
  go_enter Tryz.func68, Tryz.ntmps68
  go_wp2
  go_ret
  exact ⟨rfl, rfl⟩
end Go.Proofs.YtaafeallcaiooaaGreat.Pr
-- indented by one
