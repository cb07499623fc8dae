import Derived.Test.YthngclneffngbaaPr0
import Derived.Test.YthngclneffngbaaPrA1
import Derived.Test.YthngclneffngbaaPrA2
import Derived.Test.YthngclneffngbaaPrA3
namespace Go.Proofs.Ythngclneffngbaa.Pr
open Go.RowKit Go.Proofs.YthngclneffngbaaW.PrintWords Go.Proofs.YthngclneffngbaaW.PrintLast Go.Proofs.YthngclneffngbaaW.PrintMore
set_option linter.unusedVariables false
set_option linter.unusedSimpArgs false

/-- with enough rounds: this answer -/
def Evt {α : Type} (g : Nat → Option α) (r : α) : Prop := ∃ K, ∀ k, K ≤ k → g k = some r
theorem Evt.const {α : Type} {o : Option α} {r : α} (h : o = some r) : Evt (fun _ => o) r := ⟨0, fun _ _ => h⟩
theorem Evt.bind {α β : Type} {g : Nat → Option α} {h : Nat → α → Option β} {a : α} {b : β} (hg : Evt g a) (hh : Evt (fun k => h k a) b) : Evt (fun k => (g k).bind (h k)) b := by
  obtain ⟨K, h1⟩ := hg
  obtain ⟨K', h2⟩ := hh
  refine ⟨max K K', fun k hk => ?_⟩
  show (g k).bind (h k) = some b
  rw [h1 k (by omega), Option.bind_some]
  exact h2 k (by omega)
theorem Evt.ex {α : Type} {g : Nat → Option α} {r : α} (h : Evt g r) : ∃ k, g k = some r := by
  obtain ⟨K, h⟩ := h
  exact ⟨K, h K (Nat.le_refl _)⟩
theorem Evt.congr {α : Type} {g g' : Nat → Option α} {r : α} (h : Evt g r) (e : ∀ k, g' k = g k) : Evt g' r := by
  obtain ⟨K, h⟩ := h
  exact ⟨K, fun k hk => (e k).trans (h k hk)⟩
theorem Evt.val {α : Type} {g : Nat → Option α} {r r' : α} (h : Evt g r) (e : r = r') : Evt g r' := e ▸ h
/-- one round -/
theorem Evt.succ {α : Type} {g : Nat → Option α} {r : α} (h : Evt (fun k => g (k + 1)) r) : Evt g r := by
  obtain ⟨K, h⟩ := h
  refine ⟨K + 1, fun k hk => ?_⟩
  obtain ⟨m, rfl⟩ : ∃ m, k = m + 1 := ⟨k - 1, by omega⟩
  exact h m (by omega)
theorem Evt.step {α : Type} {g g' : Nat → Option α} {r : α} (e : ∀ k, g (k + 1) = g' k) (h : Evt g' r) : Evt g r := Evt.succ (h.congr e)
theorem Evt.now {α : Type} {g : Nat → Option α} {r : α} (e : ∀ k, g (k + 1) = some r) : Evt g r := Evt.succ ⟨0, fun k _ => e k⟩
theorem Evt.all {α : Type} {g : Nat → Option α} {r : α} (e : ∀ k, g k = some r) : Evt g r := ⟨0, fun k _ => e k⟩
theorem Evt.pos {α : Type} {c : Prop} [Decidable c] {g g' : Nat → Option α} {r : α} (hc : c) (h : Evt g r) : Evt (fun k => if c then g k else g' k) r := h.congr fun _ => if_pos hc
theorem Evt.neg {α : Type} {c : Prop} [Decidable c] {g g' : Nat → Option α} {r : α} (hc : ¬ c) (h : Evt g' r) : Evt (fun k => if c then g k else g' k) r := h.congr fun _ => if_neg hc

theorem wr {x : Int} (h1 : -9223372036854775808 ≤ x) (h2 : x ≤ 9223372036854775807) : wrap64 x = x := by unfold wrap64; omega
theorem wu {x : Int} (h1 : 0 ≤ x) (h2 : x ≤ 18446744073709551615) : IntKind.u64.wrap x = x := by
  simp only [IntKind.wrap, IntKind.bits, IntKind.signed]
  simp
  omega

/-! ### the greatest common divisor -/
theorem gcd_ev : ∀ (n : Nat) (a b : Int), 0 ≤ a → 0 ≤ b → b.toNat ≤ n → Evt (fun k => spread_gcd.f k a b) (Int.gcd a b : Int) := by
  intro n
  induction n with
  | zero =>
    intro a b ha hb hn
    obtain rfl : b = 0 := by omega
    refine Evt.now fun k => ?_
    simp only [spread_gcd.f, spread_gcd.l0]
    simp
    omega
  | succ n ih =>
    intro a b ha hb hn
    by_cases h0 : b = 0
    · subst h0
      refine Evt.now fun k => ?_
      simp only [spread_gcd.f, spread_gcd.l0]
      simp
      omega
    · have hm : Int.tmod a b = a % b := Int.tmod_eq_emod_of_nonneg ha
      have h1 := Int.emod_nonneg a h0
      have h2 := Int.emod_lt_of_pos a (show 0 < b by omega)
      have h3 := ih b (a % b) hb h1 (by omega)
      refine Evt.val (Evt.step (fun k => ?_) h3) ?_
      · simp only [spread_gcd.f, spread_gcd.l0]
        rw [if_pos (by omega), if_neg h0, hm]
      · obtain ⟨a, rfl⟩ := Int.eq_ofNat_of_zero_le ha
        obtain ⟨b, rfl⟩ := Int.eq_ofNat_of_zero_le hb
        rw [← Int.natCast_emod, Int.gcd_natCast_natCast, Int.gcd_natCast_natCast, Nat.gcd_comm a b, Nat.gcd_rec b a, Nat.gcd_comm]

/-- a fraction in lowest terms -/
def redF (num den : Int) : Int × Int := (num / (Int.gcd num den : Int), den / (Int.gcd num den : Int))
theorem gcd_pos (num den : Int) (h : 1 ≤ den) : 1 ≤ (Int.gcd num den : Int) := by
  have : 0 < Int.gcd num den := Int.gcd_pos_of_ne_zero_right _ (by omega)
  omega
theorem gcd_le (num den : Int) (h : 1 ≤ den) : (Int.gcd num den : Int) ≤ den := Int.le_of_dvd (by omega) (Int.gcd_dvd_right ..)
theorem ediv_bound {a g B : Int} (hg : 1 ≤ g) (hd : g ∣ a) (h1 : -B ≤ a) (h2 : a ≤ B) : -B ≤ a / g ∧ a / g ≤ B := by
  obtain ⟨q, rfl⟩ := hd
  rw [Int.mul_ediv_cancel_left _ (by omega)]
  by_cases h : 0 ≤ q
  · have : q * 1 ≤ q * g := Int.mul_le_mul_of_nonneg_left hg h
    rw [Int.mul_comm g q] at h1 h2
    omega
  · have : (-q) * 1 ≤ (-q) * g := Int.mul_le_mul_of_nonneg_left hg (by omega)
    rw [Int.mul_comm g q] at h1 h2
    rw [Int.neg_mul q g] at this
    omega
theorem frac_ev (num den : Int) (h1 : 1 ≤ den) (h2 : den ≤ 9000000000000000000) (h3 : -9000000000000000000 ≤ num) (h4 : num ≤ 9000000000000000000) :
    Evt (fun k => spread_frac.f k num den) (redF num den) := by
  have ha : spread_abs.f num = some (num.natAbs : Int) := by
    unfold spread_abs.f mx
    rw [wr (by omega) (by omega)]
    split <;> congr 1 <;> omega
  have hg := gcd_ev den.toNat num.natAbs den (by omega) (by omega) (Nat.le_refl _)
  have e : Int.gcd (num.natAbs : Int) den = Int.gcd num den := by simp [Int.gcd]
  rw [e] at hg
  have h5 := gcd_pos num den h1
  unfold spread_frac.f
  refine Evt.bind (Evt.const ha) (Evt.bind hg (Evt.all fun k => ?_))
  rw [if_neg (by omega), Int.tdiv_eq_ediv_of_dvd (Int.gcd_dvd_left ..), Int.tdiv_eq_ediv_of_dvd (Int.gcd_dvd_right ..)]
  have b1 := ediv_bound h5 (Int.gcd_dvd_left num den) h3 h4
  have b2 := ediv_bound (B := 9000000000000000000) h5 (Int.gcd_dvd_right num den) (by omega) h2
  rw [wr (by omega) (by omega), wr (by omega) (by omega)]
  rfl

/-! ### the reference's -/
theorem rgcd_ev : ∀ (n : Nat) (a b : Int), 0 ≤ a → 0 ≤ b → b.toNat ≤ n → Evt (fun k => numnahref03_gcd.f k a b) (Int.gcd a b : Int) := by
  intro n
  induction n with
  | zero =>
    intro a b ha hb hn
    obtain rfl : b = 0 := by omega
    refine Evt.now fun k => ?_
    simp only [numnahref03_gcd.f, numnahref03_gcd.l0]
    simp
    omega
  | succ n ih =>
    intro a b ha hb hn
    by_cases h0 : b = 0
    · subst h0
      refine Evt.now fun k => ?_
      simp only [numnahref03_gcd.f, numnahref03_gcd.l0]
      simp
      omega
    · have hm : Int.tmod a b = a % b := Int.tmod_eq_emod_of_nonneg ha
      have h1 := Int.emod_nonneg a h0
      have h2 := Int.emod_lt_of_pos a (show 0 < b by omega)
      have h3 := ih b (a % b) hb h1 (by omega)
      refine Evt.val (Evt.step (fun k => ?_) h3) ?_
      · simp only [numnahref03_gcd.f, numnahref03_gcd.l0]
        rw [if_pos (by omega), if_neg h0, hm]
      · obtain ⟨a, rfl⟩ := Int.eq_ofNat_of_zero_le ha
        obtain ⟨b, rfl⟩ := Int.eq_ofNat_of_zero_le hb
        rw [← Int.natCast_emod, Int.gcd_natCast_natCast, Int.gcd_natCast_natCast, Nat.gcd_comm a b, Nat.gcd_rec b a, Nat.gcd_comm]
theorem size_eq (x : Int) (h1 : -9223372036854775808 ≤ x) (h2 : x ≤ 9223372036854775807) : numnahref03_size.f x = some (x.natAbs : Int) := by
  unfold numnahref03_size.f
  split
  · rw [wr (x := x + 1) (by omega) (by omega), wr (by omega) (by omega), wu (x := -(x + 1)) (by omega) (by omega), wu (by omega) (by omega)]
    congr 1
    omega
  · rw [wu (by omega) (by omega)]
    congr 1
    omega
theorem reduced_ev (num den : Int) (h1 : 1 ≤ den) (h2 : den ≤ 9000000000000000000) (h3 : -9000000000000000000 ≤ num) (h4 : num ≤ 9000000000000000000) :
    Evt (fun k => numnahref03_Reduced.f k num den) (redF num den) := by
  have hg := rgcd_ev den.toNat num.natAbs den (by omega) (by omega) (Nat.le_refl _)
  have e : Int.gcd (num.natAbs : Int) den = Int.gcd num den := by simp [Int.gcd]
  rw [e] at hg
  have h5 := gcd_pos num den h1
  have h6 := gcd_le num den h1
  unfold numnahref03_Reduced.f
  refine Evt.bind (Evt.const (size_eq num (by omega) (by omega))) (Evt.bind (a := (Int.gcd num den : Int)) ?_ (Evt.all fun k => ?_))
  · rw [wu (by omega) (by omega)]
    exact hg
  rw [wr (x := (Int.gcd num den : Int)) (by omega) (by omega)]
  rw [if_neg (by omega), Int.tdiv_eq_ediv_of_dvd (Int.gcd_dvd_left ..), Int.tdiv_eq_ediv_of_dvd (Int.gcd_dvd_right ..)]
  have b1 := ediv_bound h5 (Int.gcd_dvd_left num den) h3 h4
  have b2 := ediv_bound (B := 9000000000000000000) h5 (Int.gcd_dvd_right num den) (by omega) h2
  rw [wr (by omega) (by omega), wr (by omega) (by omega)]
  rfl
end Go.Proofs.Ythngclneffngbaa.Pr
