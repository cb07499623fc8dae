/- Plans for some word: areFactors, and the number of single letters. -/
import Derived.Test.YtpeeflkodpnbpaaDoorPr0
import Derived.Test.YtpeeflkodpnbpaaDoorHSing
import Derived.Test.YtpeeflkodpnbpaaDoorPrA16
/- Tools of the plain laws: with enough rounds. -/
namespace Go.Proofs.YtpeeflkodpnbpaaDoor.Pr
open Go.RowKit Go.Proofs.YtpeeflkodpnbpaaDoorW.PrintWords Go.Proofs.YtpeeflkodpnbpaaDoorW.PrintLast Go.Proofs.YtpeeflkodpnbpaaDoorW.PrintMore
set_option linter.unusedVariables false
set_option linter.unusedSimpArgs false

/-- with enough rounds: this answer -/
def Evt {α : Type} (g : Nat → Option α) (r : α) : Prop := ∃ K, ∀ k, K ≤ k → g k = some r
theorem Evt.bind {α β : Type} {g : Nat → Option α} {h : Nat → α → Option β} {a : α} {b : β} (hg : Evt g a) (hh : Evt (fun k => h k a) b) : Evt (fun k => (g k).bind (h k)) b := by
  obtain ⟨K, h1⟩ := hg
  obtain ⟨K', h2⟩ := hh
  refine ⟨max K K', fun k hk => ?_⟩
  show (g k).bind (h k) = some b
  rw [h1 k (by omega), Option.bind_some]
  exact h2 k (by omega)
theorem Evt.ex {α : Type} {g : Nat → Option α} {r : α} (h : Evt g r) : ∃ k, g k = some r := by
  obtain ⟨K, h⟩ := h
  exact ⟨K, h K (Nat.le_refl _)⟩
theorem Evt.congr {α : Type} {g g' : Nat → Option α} {r : α} (h : Evt g r) (e : ∀ k, g' k = g k) : Evt g' r := by
  obtain ⟨K, h⟩ := h
  exact ⟨K, fun k hk => (e k).trans (h k hk)⟩
theorem Evt.val {α : Type} {g : Nat → Option α} {r r' : α} (h : Evt g r) (e : r = r') : Evt g r' := e ▸ h
/-- one round -/
theorem Evt.succ {α : Type} {g : Nat → Option α} {r : α} (h : Evt (fun k => g (k + 1)) r) : Evt g r := by
  obtain ⟨K, h⟩ := h
  refine ⟨K + 1, fun k hk => ?_⟩
  obtain ⟨m, rfl⟩ : ∃ m, k = m + 1 := ⟨k - 1, by omega⟩
  exact h m (by omega)
theorem Evt.step {α : Type} {g g' : Nat → Option α} {r : α} (e : ∀ k, g (k + 1) = g' k) (h : Evt g' r) : Evt g r := Evt.succ (h.congr e)
theorem Evt.now {α : Type} {g : Nat → Option α} {r : α} (e : ∀ k, g (k + 1) = some r) : Evt g r := Evt.succ ⟨0, fun k _ => e k⟩
theorem Evt.all {α : Type} {g : Nat → Option α} {r : α} (e : ∀ k, g k = some r) : Evt g r := ⟨0, fun k _ => e k⟩
theorem Evt.pos {α : Type} {c : Prop} [Decidable c] {g g' : Nat → Option α} {r : α} (hc : c) (h : Evt g r) : Evt (fun k => if c then g k else g' k) r := h.congr fun _ => if_pos hc
theorem Evt.neg {α : Type} {c : Prop} [Decidable c] {g g' : Nat → Option α} {r : α} (hc : ¬ c) (h : Evt g' r) : Evt (fun k => if c then g k else g' k) r := h.congr fun _ => if_neg hc

theorem wr {x : Int} (h1 : -9223372036854775808 ≤ x) (h2 : x ≤ 9223372036854775807) : wrap64 x = x := by unfold wrap64; omega
end Go.Proofs.YtpeeflkodpnbpaaDoor.Pr
namespace Go.Proofs.YtpeeflkodpnbpaaDoor.Pr
open Go.RowKit Go.Proofs.YtpeeflkodpnbpaaDoorW.PrintWords Go.Proofs.YtpeeflkodpnbpaaDoorW.PrintLast Go.Proofs.YtpeeflkodpnbpaaDoorW.PrintMore
set_option linter.unusedVariables false
set_option linter.unusedSimpArgs false

/-- a plan for some word -/
def okP : List S63 → Nat → Prop
  | [], _ => True
  | x :: l, at_ => 1 ≤ x.f1 ∧ x.f1 ≤ 160 - (at_ : Int) ∧ -1 ≤ x.f0 ∧ x.f0 < at_ ∧ (x.f0 < 0 → x.f1 = 1) ∧ okP l (at_ + x.f1.toNat)
def sgl : List S63 → Nat
  | [] => 0
  | x :: l => (if x.f0 < 0 then 1 else 0) + sgl l
/-! ### Read -/
instance okP_dec : (l : List S63) → (at_ : Nat) → Decidable (okP l at_)
  | [], _ => .isTrue trivial
  | x :: l, at_ => by
    unfold okP
    have := okP_dec l (at_ + x.f1.toNat)
    infer_instance
theorem areF_l0 (all : List S63) (hl : all.length ≤ 1000) : ∀ (l : List S63) (i at_ : Nat), all.drop i = l → at_ ≤ 160 → Evt (fun k => parse_areFactors.l0 k (at_ : Int) all (all.length : Int) (i : Int)) (decide (okP l at_))
  | [], i, at_, hi, ha => by
    have : all.length ≤ i := List.drop_eq_nil_iff.1 hi
    refine Evt.now fun k => ?_
    rw [parse_areFactors.l0, if_neg (by omega)]; rfl
  | x :: l, i, at_, hi, ha => by
    have hlt : i < all.length := by
      apply Decidable.byContradiction
      intro hn
      rw [List.drop_eq_nil_of_le (by omega)] at hi
      cases hi
    have hd := List.drop_eq_getElem_cons hlt
    rw [hi] at hd
    injection hd with h1 h2
    have e : rd_T63 all (i : Int) = x := by rw [h1]; simp [rd_T63, hlt]
    have w1 : Aside0 (wrap64 (160 - (at_ : Int)) = 160 - (at_ : Int)) := ⟨wr (by omega) (by omega)⟩
    have w2 : Aside0 (wrap64 ((at_ : Int) - 1) = (at_ : Int) - 1) := ⟨wr (by omega) (by omega)⟩
    have w3 : Aside0 (wrap64 ((i : Int) + 1) = ((i + 1 : Nat) : Int)) := ⟨(wr (by omega) (by omega)).trans (by omega)⟩
    have one : ∀ k, parse_areFactors.l0 (k + 1) (at_ : Int) all (all.length : Int) (i : Int) = ((parse_within.f x.f1 1 (160 - (at_ : Int))).bind fun t760 => (if t760 = true then ((parse_within.f x.f0 (-1) ((at_ : Int) - 1)).bind fun t761 => (if t761 = true then (if x.f0 < 0 then (if x.f1 = 1 then (parse_areFactors.l0 k (wrap64 ((at_ : Int) + x.f1)) all (all.length : Int) ((i + 1 : Nat) : Int)) else (some false)) else (parse_areFactors.l0 k (wrap64 ((at_ : Int) + x.f1)) all (all.length : Int) ((i + 1 : Nat) : Int))) else (some false))) else (some false))) := by
      intro k
      rw [parse_areFactors.l0, if_pos (by omega), if_pos (by omega), if_pos (by omega), e, w1.out, w2.out, w3.out]
    by_cases c1 : 1 ≤ x.f1 ∧ x.f1 ≤ 160 - (at_ : Int)
    · have b1 : parse_within.f x.f1 1 (160 - (at_ : Int)) = some true := by rw [parse_within.f, if_pos c1.1, decide_eq_true c1.2]
      by_cases c2 : -1 ≤ x.f0 ∧ x.f0 ≤ (at_ : Int) - 1
      · have b2 : parse_within.f x.f0 (-1) ((at_ : Int) - 1) = some true := by rw [parse_within.f, if_pos c2.1, decide_eq_true c2.2]
        have w4 : Aside0 (wrap64 ((at_ : Int) + x.f1) = ((at_ + x.f1.toNat : Nat) : Int)) := ⟨(wr (by omega) (by omega)).trans (by omega)⟩
        have ih := areF_l0 all hl l (i + 1) (at_ + x.f1.toNat) h2.symm (by omega)
        by_cases c3 : x.f0 < 0
        · by_cases c4 : x.f1 = 1
          · refine Evt.val (Evt.step (fun k => ?_) ih) ?_
            · rw [one, b1, Option.bind_some, if_pos rfl, b2, Option.bind_some, if_pos rfl, if_pos c3, if_pos c4, w4.out]
            · apply decide_eq_decide.2
              rw [okP]
              exact ⟨fun h => ⟨c1.1, c1.2, c2.1, by omega, fun _ => c4, h⟩, fun h => h.2.2.2.2.2⟩
          · refine Evt.val (Evt.now (r := false) fun k => ?_) ?_
            · rw [one, b1, Option.bind_some, if_pos rfl, b2, Option.bind_some, if_pos rfl, if_pos c3, if_neg c4]
            · symm
              apply decide_eq_false
              rw [okP]
              exact fun h => c4 (h.2.2.2.2.1 c3)
        · refine Evt.val (Evt.step (fun k => ?_) ih) ?_
          · rw [one, b1, Option.bind_some, if_pos rfl, b2, Option.bind_some, if_pos rfl, if_neg c3, w4.out]
          · apply decide_eq_decide.2
            rw [okP]
            exact ⟨fun h => ⟨c1.1, c1.2, c2.1, by omega, fun hh => absurd hh c3, h⟩, fun h => h.2.2.2.2.2⟩
      · have b2 : parse_within.f x.f0 (-1) ((at_ : Int) - 1) = some false := by
          rw [parse_within.f]
          by_cases c : x.f0 ≥ -1
          · rw [if_pos c, decide_eq_false (fun h => c2 ⟨c, h⟩)]
          · rw [if_neg c]
        refine Evt.val (Evt.now (r := false) fun k => ?_) ?_
        · rw [one, b1, Option.bind_some, if_pos rfl, b2, Option.bind_some, if_neg (by decide)]
        · symm
          apply decide_eq_false
          rw [okP]
          exact fun h => c2 ⟨h.2.2.1, by have := h.2.2.2.1; omega⟩
    · have b1 : parse_within.f x.f1 1 (160 - (at_ : Int)) = some false := by
        rw [parse_within.f]
        by_cases c : x.f1 ≥ 1
        · rw [if_pos c, decide_eq_false (fun h => c1 ⟨c, h⟩)]
        · rw [if_neg c]
      refine Evt.val (Evt.now (r := false) fun k => ?_) ?_
      · rw [one, b1, Option.bind_some, if_neg (by decide)]
      · symm
        apply decide_eq_false
        rw [okP]
        exact fun h => c1 ⟨h.1, h.2.1⟩
theorem areF_ev (l : List S63) (hl : l.length ≤ 1000) : Evt (fun k => parse_areFactors.f k l) (decide (okP l 0)) := areF_l0 l hl l 0 0 rfl (by omega)
theorem okP_mem : ∀ {l : List S63} {at_ : Nat}, okP l at_ → ∀ x, x ∈ l → (x.f0 < 0 ↔ x.f0 = -1 ∧ x.f1 = 1)
  | y :: l, at_, h, x, hx => by
    rw [okP] at h
    rcases List.mem_cons.1 hx with rfl | hx
    · exact ⟨fun c => ⟨by have := h.2.2.1; omega, h.2.2.2.2.1 c⟩, fun c => by omega⟩
    · exact okP_mem h.2.2.2.2.2 x hx
theorem sgl_snoc (x : S63) : ∀ l : List S63, sgl (l ++ [x]) = sgl l + (if x.f0 < 0 then 1 else 0)
  | [] => by simp [sgl]
  | y :: l => by rw [List.cons_append, sgl, sgl, sgl_snoc x l]; omega
theorem singN_sgl (l : List S63) (h : ∀ x, x ∈ l → (x.f0 < 0 ↔ x.f0 = -1 ∧ x.f1 = 1)) : ∀ k, k ≤ l.length → singN l k = (sgl (l.take k) : Int)
  | 0, _ => rfl
  | k + 1, hk => by
    have hlt : k < l.length := by omega
    have e : rd_T63 l (k : Int) = l[k] := by simp [rd_T63, hlt]
    rw [singN, singN_sgl l h k (by omega), e, List.take_succ_eq_append_getElem hlt, sgl_snoc]
    have := h _ (List.getElem_mem hlt)
    by_cases c : l[k].f0 < 0
    · rw [if_pos (this.1 c), if_pos c]; omega
    · rw [if_neg (fun hh => c (this.2 hh)), if_neg c]; omega
end Go.Proofs.YtpeeflkodpnbpaaDoor.Pr
