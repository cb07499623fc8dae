/- tame(s, most) is a word of at most that many letters. -/
import Derived.Test.YtpeeflkodpnbpaaDoorHEv
import Derived.Test.YtpeeflkodpnbpaaDoorPrA23
import Derived.Test.YtpeeflkodpnbpaaDoorHWord
namespace Go.Proofs.YtpeeflkodpnbpaaDoor.Pr
open Go.RowKit Go.Proofs.YtpeeflkodpnbpaaDoorW.PrintWords Go.Proofs.YtpeeflkodpnbpaaDoorW.PrintLast Go.Proofs.YtpeeflkodpnbpaaDoorW.PrintMore
set_option linter.unusedVariables false
set_option linter.unusedSimpArgs false

theorem ok_nums (l : List Int) (h : ∀ x, x ∈ l → 97 ≤ x ∧ x ≤ 100) : ∀ i, i < (strOfNums l).size → okAt (strOfNums l) i := by
  intro i hi
  rw [strOfNums_size] at hi
  have e : (strOfNums l).get! i = UInt8.ofNat (l[i]).toNat := by
    have : ((strOfNums l).data[i]?) = some (UInt8.ofNat (l[i]).toNat) := by
      rw [← Array.getElem?_toList, strOfNums_data]
      simp [hi]
    show (strOfNums l).data[i]! = _
    rw [getElem!_def, this]
  have := h _ (List.getElem_mem hi)
  unfold okAt
  rw [e]
  have e2 : (UInt8.ofNat (l[i]).toNat).toNat = (l[i]).toNat := by
    rw [UInt8.toNat_ofNat']
    omega
  rw [e2]
  omega
theorem tame_l0 (a0 : ByteArray) (hz : a0.size ≤ 140737488351232) (most : Nat) (hm : most ≤ 1000) : ∀ (q i : Nat) (l : List Int), i + q = most → i ≤ a0.size → l.length = i → (∀ x, x ∈ l → 97 ≤ x ∧ x ≤ 100) →
    ∃ s, s.size ≤ most ∧ (∀ i, i < s.size → okAt s i) ∧ Evt (fun k => numnahlaw09_tame.l0 k a0 (most : Int) l (i : Int)) s
  | 0, i, l, hi, hi2, hl, h => by
    refine ⟨strOfNums l, by rw [strOfNums_size]; omega, ok_nums l h, Evt.now fun k => ?_⟩
    rw [numnahlaw09_tame.l0]
    by_cases c : (i : Int) < (a0.size : Int)
    · rw [if_pos c, if_neg (by omega)]
    · rw [if_neg c]
  | q + 1, i, l, hi, hi2, hl, h => by
    by_cases c : i < a0.size
    · have hr := bt_range a0 (i : Int)
      obtain ⟨s, h1, h2, h3⟩ := tame_l0 a0 hz most hm q (i + 1) (l ++ [(97 + (Int.tmod (bt a0 (i : Int)) 4)) % 256]) (by omega) (by omega) (by rw [List.length_append, hl]; rfl) (fun x hx => by
        rcases List.mem_append.1 hx with hx | hx
        · exact h x hx
        · rw [List.mem_singleton] at hx
          rw [hx, Int.tmod_eq_emod_of_nonneg hr.1]
          omega)
      refine ⟨s, h1, h2, Evt.step (fun k => ?_) h3⟩
      rw [numnahlaw09_tame.l0, if_pos (by omega), if_pos (by omega), if_pos (by omega), if_pos (by omega), wr (by omega) (by omega)]
      rfl
    · refine ⟨strOfNums l, by rw [strOfNums_size]; omega, ok_nums l h, Evt.now fun k => ?_⟩
      rw [numnahlaw09_tame.l0, if_neg (by omega)]
theorem tame_ev (a0 : ByteArray) (hz : a0.size ≤ 140737488351232) (most : Nat) (hm : most ≤ 160) : ∃ s, s.size ≤ most ∧ isWordC s = true ∧ Evt (fun k => numnahlaw09_tame.f k a0 (most : Int)) s := by
  obtain ⟨s, h1, h2, h3⟩ := tame_l0 a0 hz most (by omega) most 0 [] (by omega) (by omega) rfl (by simp)
  exact ⟨s, h1, (isWordC_iff s).2 ⟨by omega, h2⟩, h3⟩
theorem mod_some (x : Int) (n : Nat) (h1 : 1 ≤ n) (h2 : n ≤ 1000000) : ∃ r : Nat, r < n ∧ numnahlaw09_mod.f x (n : Int) = some (r : Int) := by
  have e : IntKind.u64.wrap (n : Int) = n := wu (by omega) (by omega)
  have h0 : 0 ≤ IntKind.u64.wrap x := by
    simp only [IntKind.wrap, IntKind.bits, IntKind.signed]
    simp
    omega
  refine ⟨(IntKind.u64.wrap x % n).toNat, ?_, ?_⟩
  · have := Int.emod_lt_of_pos (IntKind.u64.wrap x) (show (0 : Int) < n by omega)
    have := Int.emod_nonneg (IntKind.u64.wrap x) (show (n : Int) ≠ 0 by omega)
    omega
  · have := Int.emod_lt_of_pos (IntKind.u64.wrap x) (show (0 : Int) < n by omega)
    have h3 := Int.emod_nonneg (IntKind.u64.wrap x) (show (n : Int) ≠ 0 by omega)
    rw [numnahlaw09_mod.f, e, if_neg (by omega), Int.tmod_eq_emod_of_nonneg h0, wr (by omega) (by omega), Int.toNat_of_nonneg h3]
end Go.Proofs.YtpeeflkodpnbpaaDoor.Pr
