/- the reference's greater and decide, with their table. -/
import Derived.Test.YtaafeallcaiooaaGreatPr0
import Derived.Test.YtaafeallcaiooaaGreatPrA4
import Derived.Test.YtaafeallcaiooaaGreatHOr
import Derived.Test.YtaafeallcaiooaaGreatHVa
import Derived.Test.YtaafeallcaiooaaGreatHSr
import Derived.Test.YtaafeallcaiooaaGreatHRu
/- order: precedences made from numbers; their ranks differ. -/
-- Laid by wip/tools/inj.py of this project, which drives the kit's printer. Lean checks it.
namespace Go.Proofs.YtaafeallcaiooaaGreat.Pr
open Go.RowKit Go.Proofs.YtaafeallcaiooaaGreatW.PrintWords Go.Proofs.YtaafeallcaiooaaGreatW.PrintLast Go.Proofs.YtaafeallcaiooaaGreatW.PrintMore
attribute [local go_sem] max2_int min2_int max_two min_two max_three min_three max_four min_four   -- for this text's walks alone
set_option linter.unusedVariables false
set_option linter.unusedSimpArgs false

/-! ### numnahlaw08_mod: function 55 -/
def numnahlaw08_mod.f (a0 : Int) (a1 : Int) : Option (Int) := if (IntKind.u64.wrap (a1)) = 0 then (none) else (some (wrap64 (Int.tmod (IntKind.u64.wrap (a0)) (IntKind.u64.wrap (a1)))))
/-! ### numnahref08_rank: function 148 -/
def numnahref08_rank.l0 : Nat → ByteArray → Int → Int → Option (Int)
 | 0, _, _, _ => none
 | k + 1, x0, x1, x5 => if 0 ≤ x5 then (if x5 < (x0.size : Int) then (if (bt x0 x5) = x1 then (some x5) else (numnahref08_rank.l0 k x0 x1 (wrap64 (x5 + 1)))) else (none)) else (none)
def numnahref08_rank.f (k : Nat) (a0 : ByteArray) (a1 : Int) : Option (Int) := numnahref08_rank.l0 k a0 a1 0
theorem numnahref08_rank.mono_l : ∀ k, (∀ y0 y1 y2, LeO (numnahref08_rank.l0 k y0 y1 y2) (numnahref08_rank.l0 (k + 1) y0 y1 y2))
 | 0 => fun _ _ _ r h => by simp [numnahref08_rank.l0] at h
 | k + 1 => by
  have ih0 := numnahref08_rank.mono_l k
  ·intro y0 y1 y2
   unfold numnahref08_rank.l0
   repeat' first
   | (with_reducible exact ih0 _ _ _)
   | (with_reducible exact LeO.refl _)
   | (with_reducible exact LeO.none _)
   | (with_reducible refine LeO.ite ?_ ?_)
   | (with_reducible refine LeO.bind ?_ (fun _ => ?_))
   | exact ih0 _ _ _
   | exact LeO.none _
   | refine LeO.ite ?_ ?_
   | refine LeO.bind ?_ (fun _ => ?_)
theorem numnahref08_rank.mono : ∀ a0 a1 k, LeO (numnahref08_rank.f k a0 a1) (numnahref08_rank.f (k + 1) a0 a1) := by
 intro a0 a1 k
 have ih0 := numnahref08_rank.mono_l k
 unfold numnahref08_rank.f
 repeat' first
   | (with_reducible exact ih0 _ _ _)
   | (with_reducible exact LeO.refl _)
   | (with_reducible exact LeO.none _)
   | (with_reducible refine LeO.ite ?_ ?_)
   | (with_reducible refine LeO.bind ?_ (fun _ => ?_))
   | exact ih0 _ _ _
   | exact LeO.none _
   | refine LeO.ite ?_ ?_
   | refine LeO.bind ?_ (fun _ => ?_)
set_option maxHeartbeats 8000000 in
set_option maxRecDepth 100000 in
theorem numnahref08_rank.calls (k : Nat) (a0 : ByteArray) (a1 : Int) (r : Int) (w : World) (h : numnahref08_rank.f k a0 a1 = some r) :
  Calls Tryz.prog 148 #[.string a0, .int .u8 a1] w fun e w' => e = .returned (.int .i64 r) ∧ Drawn0 w w' := by
 have H : (numnahref08_rank.l0 k a0 a1 0) = some r := h
 clear h
 have H' := Aside0.mk H
 clear H
 go_enter Tryz.func148, Tryz.ntmps148
 go_wp2
 go_loopg [5] k (fun kq v5 w' => ∃ (x5_1 : Int), v5 = .int .i64 x5_1 ∧ Aside0 (numnahref08_rank.l0 kq a0 a1 x5_1 = some r) ∧ Aside0 (kq ≤ k) ∧ Drawn0 w w')
 case atStart => exact ⟨(0), tS_, H', ⟨Nat.le_refl _⟩, by repeat (first | exact Drawn0.refl _ | apply Drawn0.step)⟩
 case round =>
  clear H'
  try clear c1
  try clear p2
  obtain ⟨x5_1, rfl, HA, HK1, ⟨m1, rfl⟩⟩ := hrel
  cases gk with
  | zero => exact absurd HA.out (by simp [numnahref08_rank.l0])
  | succ k1 =>
   have H := HA.out
   clear HA
   simp only [numnahref08_rank.l0] at H
   by_cases c3 : 0 ≤ x5_1
   ·rw [if_pos c3] at H
    have c3b0 : decide (0 ≤ x5_1) = true := decide_eq_true c3
    clear c3
    by_cases c4 : x5_1 < (a0.size : Int)
    ·rw [if_pos c4] at H
     have c4b0 : decide (x5_1 < (a0.size : Int)) = true := decide_eq_true c4
     clear c4
     by_cases c6 : (bt a0 x5_1) = a1
     ·rw [if_pos c6] at H
      have c6b0 : ((bt a0 x5_1) == a1) = true := beq_iff_eq.mpr c6
      have c6b1 : ((bt a0 x5_1) != a1) = false := bne_eq_false_iff_eq.mpr c6
      clear c6
      obtain rfl := Option.some.inj H
      have p5 : 0 ≤ (x5_1 : Int) := of_decide_eq_true tA_
      have q5 : x5_1 < (a0.size : Int) := of_decide_eq_true tA_
      have hx5 := bt_at a0 x5_1
      replace p5 := eq_true p5
      replace q5 := eq_true q5
      go_wp2
      go_ret
      exact ⟨by first | rfl | (simp; done) | (simp [*]; done), by repeat (first | exact Drawn0.refl _ | apply Drawn0.step)⟩
     ·rw [if_neg c6] at H
      have c6b0 : ((bt a0 x5_1) == a1) = false := beq_eq_false_iff_ne.mpr c6
      have c6b1 : ((bt a0 x5_1) != a1) = true := bne_iff_ne.mpr c6
      have H' := Aside0.mk H
      clear H
      have p5 : 0 ≤ (x5_1 : Int) := of_decide_eq_true tA_
      have q5 : x5_1 < (a0.size : Int) := of_decide_eq_true tA_
      have hx5 := bt_at a0 x5_1
      replace p5 := eq_true p5
      replace q5 := eq_true q5
      go_wp2
      go_roundg k1
      case measure => have := HK1.out; omega
      case rel => exact ⟨(wrap64 (x5_1 + 1)), tS_, H', ⟨by have := HK1.out; omega⟩, by repeat (first | exact Drawn0.refl _ | apply Drawn0.step)⟩
    ·rw [if_neg c4] at H
     exact absurd H (by simp)
   ·rw [if_neg c3] at H
    exact absurd H (by simp)

end Go.Proofs.YtaafeallcaiooaaGreat.Pr
-- indented by one
-- Laid by wip/tools/inj.py of this project, which drives the kit's printer. Lean checks it.
namespace Go.Proofs.YtaafeallcaiooaaGreat.Pr
open Go.RowKit Go.Proofs.YtaafeallcaiooaaGreatW.PrintWords Go.Proofs.YtaafeallcaiooaaGreatW.PrintLast Go.Proofs.YtaafeallcaiooaaGreatW.PrintMore
attribute [local go_sem] max2_int min2_int max_two min_two max_three min_three max_four min_four   -- for this text's walks alone
set_option linter.unusedVariables false
set_option linter.unusedSimpArgs false

/-! ### numnahref08_Precedence: function 39 -/
def numnahref08_Precedence.l0 : Nat → ByteArray → Int → Option (Bool)
 | 0, _, _ => none
 | k + 1, x0, x3 => if x3 ≤ 102 then ((numnahref08_occurs.f k x3 x0).bind fun t411 => (if t411 = true then (numnahref08_Precedence.l0 k x0 ((x3 + 1) % 256)) else (some false))) else (some ((x0.size : Int) == 6))
def numnahref08_Precedence.f (k : Nat) (a0 : ByteArray) : Option (Bool) := numnahref08_Precedence.l0 k a0 97
theorem numnahref08_Precedence.mono_l : ∀ k, (∀ y0 y1, LeO (numnahref08_Precedence.l0 k y0 y1) (numnahref08_Precedence.l0 (k + 1) y0 y1))
 | 0 => fun _ _ r h => by simp [numnahref08_Precedence.l0] at h
 | k + 1 => by
  have ih0 := numnahref08_Precedence.mono_l k
  ·intro y0 y1
   unfold numnahref08_Precedence.l0
   repeat' first
   | (with_reducible exact ih0 _ _)
   | (with_reducible exact numnahref08_occurs.mono _ _ _)
   | (with_reducible exact LeO.refl _)
   | (with_reducible exact LeO.none _)
   | (with_reducible refine LeO.ite ?_ ?_)
   | (with_reducible refine LeO.bind ?_ (fun _ => ?_))
   | exact ih0 _ _
   | exact numnahref08_occurs.mono _ _ _
   | exact LeO.none _
   | refine LeO.ite ?_ ?_
   | refine LeO.bind ?_ (fun _ => ?_)
theorem numnahref08_Precedence.mono : ∀ a0 k, LeO (numnahref08_Precedence.f k a0) (numnahref08_Precedence.f (k + 1) a0) := by
 intro a0 k
 have ih0 := numnahref08_Precedence.mono_l k
 unfold numnahref08_Precedence.f
 repeat' first
   | (with_reducible exact ih0 _ _)
   | (with_reducible exact numnahref08_occurs.mono _ _ _)
   | (with_reducible exact LeO.refl _)
   | (with_reducible exact LeO.none _)
   | (with_reducible refine LeO.ite ?_ ?_)
   | (with_reducible refine LeO.bind ?_ (fun _ => ?_))
   | exact ih0 _ _
   | exact numnahref08_occurs.mono _ _ _
   | exact LeO.none _
   | refine LeO.ite ?_ ?_
   | refine LeO.bind ?_ (fun _ => ?_)
set_option maxHeartbeats 8000000 in
set_option maxRecDepth 100000 in
theorem numnahref08_Precedence.calls (k : Nat) (a0 : ByteArray) (r : Bool) (w : World) (h : numnahref08_Precedence.f k a0 = some r) :
  Calls Tryz.prog 39 #[.string a0] w fun e w' => e = .returned (.bool r) ∧ Drawn0 w w' := by
 have H : (numnahref08_Precedence.l0 k a0 97) = some r := h
 clear h
 have H' := Aside0.mk H
 clear H
 go_enter Tryz.func39, Tryz.ntmps39
 go_wp2
 go_loopg [3] k (fun kq v3 w' => ∃ (x3_1 : Int), v3 = .int .u8 x3_1 ∧ Aside0 (numnahref08_Precedence.l0 kq a0 x3_1 = some r) ∧ Aside0 (kq ≤ k) ∧ Drawn0 w w')
 case atStart => exact ⟨(97), tS_, H', ⟨Nat.le_refl _⟩, by repeat (first | exact Drawn0.refl _ | apply Drawn0.step)⟩
 case round =>
  clear H'
  obtain ⟨x3_1, rfl, HA, HK1, ⟨m1, rfl⟩⟩ := hrel
  cases gk with
  | zero => exact absurd HA.out (by simp [numnahref08_Precedence.l0])
  | succ k1 =>
   have H := HA.out
   clear HA
   simp only [numnahref08_Precedence.l0] at H
   by_cases c2 : x3_1 ≤ 102
   ·rw [if_pos c2] at H
    have c2b0 : decide (x3_1 ≤ 102) = true := decide_eq_true c2
    clear c2
    replace H := Option.bind_eq_some_iff.mp H
    obtain ⟨t411, A30, H⟩ := H
    replace H : (if t411 = true then (numnahref08_Precedence.l0 k1 a0 ((x3_1 + 1) % 256)) else (some false)) = some r := H
    have A3 := Aside0.mk A30
    clear A30
    by_cases c4 : t411 = true
    ·subst c4
     have H1 : (numnahref08_Precedence.l0 k1 a0 ((x3_1 + 1) % 256)) = some r := by rw [if_pos rfl] at H; exact H
     clear H
     have H := H1
     clear H1
     have H' := Aside0.mk H
     clear H
     go_wp2_with (first | ((with_reducible refine gate_callee (f := 80) rfl ?_); refine goesL_ (some 10) rfl rfl Tryz.func80 (by kernel_rfl) rfl #[.int .u8 x3_1, .string a0] rfl tM_ ?_; (with_reducible refine (numnahref08_occurs.calls k1 x3_1 a0 true _ A3.out).mono ?_); rintro e w' ⟨rfl, ⟨nd, rfl⟩⟩; refine ⟨_, rfl, ?_⟩))
     go_roundg k1
     case measure => have := HK1.out; omega
     case rel => exact ⟨((x3_1 + 1) % 256), tS_, H', ⟨by have := HK1.out; omega⟩, by repeat (first | exact Drawn0.refl _ | apply Drawn0.step)⟩
    ·replace c4 := Bool.eq_false_iff.mpr c4
     subst c4
     have H1 : (some false) = some r := by rw [if_neg (show ¬ (false = true) by decide)] at H; exact H
     clear H
     have H := H1
     clear H1
     obtain rfl := Option.some.inj H
     go_wp2_with (first | ((with_reducible refine gate_callee (f := 80) rfl ?_); refine goesL_ (some 10) rfl rfl Tryz.func80 (by kernel_rfl) rfl #[.int .u8 x3_1, .string a0] rfl tM_ ?_; (with_reducible refine (numnahref08_occurs.calls k1 x3_1 a0 false _ A3.out).mono ?_); rintro e w' ⟨rfl, ⟨nd, rfl⟩⟩; refine ⟨_, rfl, ?_⟩))
     go_ret
     exact ⟨by first | rfl | (simp; done) | (simp [*]; done), by repeat (first | exact Drawn0.refl _ | apply Drawn0.step)⟩
   ·rw [if_neg c2] at H
    have c2b0 : decide (x3_1 ≤ 102) = false := decide_eq_false c2
    clear c2
    obtain rfl := Option.some.inj H
    go_wp2
    go_ret
    exact ⟨by first | rfl | (simp; done) | (simp [*]; done), by repeat (first | exact Drawn0.refl _ | apply Drawn0.step)⟩

/-! ### numnahlaw08_order: function 42 -/
def numnahlaw08_order.l0 : Nat → Int → ByteArray → Int → Option (ByteArray)
 | 0, _, _, _ => none
 | k + 1, x0, x3, x4 => if x4 < 6 then ((numnahlaw08_mod.f x0 (wrap64 (x4 + 1))).bind fun t428 => ((numnahlaw08_mod.f x0 720).bind fun t429 => (if (wrap64 (x4 + 1)) = 0 then (none) else (if 0 ≤ t428 then (if t428 ≤ (x3.size : Int) then (if 0 ≤ x4 then (if x4 ≤ (wrap64 (x4 + 1)) then (if (wrap64 (x4 + 1)) ≤ 6 then (if (x3.extract 0 (t428 : Int).toNat).size + ((⟨#[97, 98, 99, 100, 101, 102]⟩ : ByteArray).extract (x4 : Int).toNat ((wrap64 (x4 + 1)) : Int).toNat).size ≤ 9223372036854775807 then (if ((x3.extract 0 (t428 : Int).toNat) ++ ((⟨#[97, 98, 99, 100, 101, 102]⟩ : ByteArray).extract (x4 : Int).toNat ((wrap64 (x4 + 1)) : Int).toNat)).size + (x3.extract (t428 : Int).toNat x3.size).size ≤ 9223372036854775807 then (numnahlaw08_order.l0 k (wrap64 (Int.tdiv t429 (wrap64 (x4 + 1)))) (((x3.extract 0 (t428 : Int).toNat) ++ ((⟨#[97, 98, 99, 100, 101, 102]⟩ : ByteArray).extract (x4 : Int).toNat ((wrap64 (x4 + 1)) : Int).toNat)) ++ (x3.extract (t428 : Int).toNat x3.size)) (wrap64 (x4 + 1))) else (none)) else (none)) else (none)) else (none)) else (none)) else (none)) else (none))))) else (some x3)
def numnahlaw08_order.f (k : Nat) (a0 : Int) : Option (ByteArray) := numnahlaw08_order.l0 k a0 (⟨#[]⟩ : ByteArray) 0
theorem numnahlaw08_order.mono_l : ∀ k, (∀ y0 y1 y2, LeO (numnahlaw08_order.l0 k y0 y1 y2) (numnahlaw08_order.l0 (k + 1) y0 y1 y2))
 | 0 => fun _ _ _ r h => by simp [numnahlaw08_order.l0] at h
 | k + 1 => by
  have ih0 := numnahlaw08_order.mono_l k
  ·intro y0 y1 y2
   unfold numnahlaw08_order.l0
   repeat' first
   | (with_reducible exact ih0 _ _ _)
   | (with_reducible exact LeO.refl _)
   | (with_reducible exact LeO.none _)
   | (with_reducible refine LeO.ite ?_ ?_)
   | (with_reducible refine LeO.bind ?_ (fun _ => ?_))
   | exact ih0 _ _ _
   | exact LeO.none _
   | refine LeO.ite ?_ ?_
   | refine LeO.bind ?_ (fun _ => ?_)
theorem numnahlaw08_order.mono : ∀ a0 k, LeO (numnahlaw08_order.f k a0) (numnahlaw08_order.f (k + 1) a0) := by
 intro a0 k
 have ih0 := numnahlaw08_order.mono_l k
 unfold numnahlaw08_order.f
 repeat' first
   | (with_reducible exact ih0 _ _ _)
   | (with_reducible exact LeO.refl _)
   | (with_reducible exact LeO.none _)
   | (with_reducible refine LeO.ite ?_ ?_)
   | (with_reducible refine LeO.bind ?_ (fun _ => ?_))
   | exact ih0 _ _ _
   | exact LeO.none _
   | refine LeO.ite ?_ ?_
   | refine LeO.bind ?_ (fun _ => ?_)
end Go.Proofs.YtaafeallcaiooaaGreat.Pr
-- indented by one
namespace Go.Proofs.YtaafeallcaiooaaGreat.Pr
open Go.RowKit Go.Proofs.YtaafeallcaiooaaGreatW.PrintWords Go.Proofs.YtaafeallcaiooaaGreatW.PrintLast Go.Proofs.YtaafeallcaiooaaGreatW.PrintMore
set_option linter.unusedVariables false
set_option linter.unusedSimpArgs false
/-! ### ranks -/
theorem rkL_get {L : List UInt8} (hn : L.Nodup) : ∀ m, m ≤ L.length → ∀ k (h : k < L.length), k < m → getL (rkL (B8 L) m) (L[k].toNat : Int) = some (.int .i64 (k : Int))
  | 0, _, k, _, h => by omega
  | m + 1, hm, k, hk, h => by
    have hml : m < L.length := by omega
    rw [rkL, bAt_list L m hml, getL_put]
    by_cases e : k = m
    · subst e
      rw [if_pos rfl]
    · rw [if_neg (fun h2 => e ((List.getElem_inj hn).1 (UInt8.toNat_inj.1 (by omega))))]
      exact rkL_get hn m (by omega) k hk (by omega)
theorem rank_get {L : List UInt8} (hn : L.Nodup) (k : Nat) (h : k < L.length) : rankP (B8 L) (L[k].toNat : Int) = k := by
  unfold rankP
  rw [B8_size, rkL_get hn L.length (Nat.le_refl _) k h h]
theorem sym_mem {L : List UInt8} (h6 : L.length = 6) (hn : L.Nodup) (hc : ∀ x, x ∈ L → x ∈ c6) (s : Int) (hs : 97 ≤ s ∧ s ≤ 102) : ∃ k, ∃ h : k < L.length, (L[k].toNat : Int) = s := by
  have hx : ∃ x : UInt8, x ∈ c6 ∧ (x.toNat : Int) = s := by
    have : s = 97 ∨ s = 98 ∨ s = 99 ∨ s = 100 ∨ s = 101 ∨ s = 102 := by omega
    rcases this with rfl | rfl | rfl | rfl | rfl | rfl
    · exact ⟨97, by decide, rfl⟩
    · exact ⟨98, by decide, rfl⟩
    · exact ⟨99, by decide, rfl⟩
    · exact ⟨100, by decide, rfl⟩
    · exact ⟨101, by decide, rfl⟩
    · exact ⟨102, by decide, rfl⟩
  obtain ⟨x, hx, rfl⟩ := hx
  obtain ⟨k, hk, rfl⟩ := List.getElem_of_mem (full6 h6 hn hc x hx)
  exact ⟨k, hk, rfl⟩
theorem rank_inj {L : List UInt8} (h6 : L.length = 6) (hn : L.Nodup) (hc : ∀ x, x ∈ L → x ∈ c6) : RankInj (rankP (B8 L)) := by
  intro s s' hs hs' he
  obtain ⟨k, hk, rfl⟩ := sym_mem h6 hn hc s hs
  obtain ⟨j, hj, rfl⟩ := sym_mem h6 hn hc s' hs'
  rw [rank_get hn k hk, rank_get hn j hj] at he
  have : k = j := by omega
  subst this
  rfl
/-! ### order -/
/-- an order of the six symbols -/
def IsPrec (p : ByteArray) : Prop := ∃ L : List UInt8, p = B8 L ∧ L.length = 6 ∧ L.Nodup ∧ ∀ x, x ∈ L → x ∈ c6
theorem IsPrec.ok {p : ByteArray} (h : IsPrec p) : precOk p = true := by
  obtain ⟨L, rfl, h6, hn, hc⟩ := h
  exact prec_perm h6 hn hc
theorem IsPrec.inj {p : ByteArray} (h : IsPrec p) : RankInj (rankP p) := by
  obtain ⟨L, rfl, h6, hn, hc⟩ := h
  exact rank_inj h6 hn hc
theorem IsPrec.size {p : ByteArray} (h : IsPrec p) : p.size = 6 := by
  obtain ⟨L, rfl, h6, hn, hc⟩ := h
  rw [B8_size]; exact h6
def precB (p : ByteArray) : Bool := decide (p.data.toList.length = 6) && (decide p.data.toList.Nodup && p.data.toList.all fun x => decide (x ∈ c6))
theorem precB_is {p : ByteArray} (h : precB p = true) : IsPrec p := by
  unfold precB at h
  rw [Bool.and_eq_true, Bool.and_eq_true, decide_eq_true_iff, decide_eq_true_iff, List.all_eq_true] at h
  exact ⟨p.data.toList, (B8_of p).symm, h.1, h.2.1, fun x hx => of_decide_eq_true (h.2.2 x hx)⟩
theorem ord_mono : ∀ (n k : Nat) (x : Int) (o : ByteArray) (i : Int) (r : ByteArray), numnahlaw08_order.l0 k x o i = some r → numnahlaw08_order.l0 (k + n) x o i = some r
  | 0, k, x, o, i, r, h => h
  | n + 1, k, x, o, i, r, h => by
    have h1 := ord_mono n k x o i r h
    exact numnahlaw08_order.mono_l (k + n) x o i r h1
end Go.Proofs.YtaafeallcaiooaaGreat.Pr
/- the reference's Value, on texts of terms. -/
namespace Go.Proofs.YtaafeallcaiooaaGreat.Pr
open Go.RowKit Go.Maps Go.Proofs.YtaafeallcaiooaaGreatW.PrintWords Go.Proofs.YtaafeallcaiooaaGreatW.PrintLast Go.Proofs.YtaafeallcaiooaaGreatW.PrintMore
set_option linter.unusedVariables false
set_option linter.unusedSimpArgs false
/-- where the parts of a term begin -/
def posn : Nat → List Tm → List Int
  | _, [] => []
  | p, t :: ts => ((p + 1 : Nat) : Int) :: posn (p + 1 + t.tx.length) ts
theorem posn_len : ∀ (ts : List Tm) (p : Nat), (posn p ts).length = ts.length
  | [], _ => rfl
  | t :: ts, p => by rw [posn, List.length_cons, List.length_cons, posn_len ts]
theorem starts_step (s : ByteArray) (h0 : 0 < s.size) (acc : List Int) (p j : Int) (k : Nat) : numnahref08_starts.l0 (k + 1) s 0 acc p j = (numnahref08_Parts.f k (bt s 0)).bind fun t178 => (if j < t178 then (if acc.length < 17592186044416 then ((numnahref08_End.f k s p).bind fun t182 => (numnahref08_starts.l0 k s 0 (acc ++ [p]) (wrap64 (t182 + 1)) (wrap64 (j + 1)))) else none) else some acc) := by
  rw [numnahref08_starts.l0, if_pos (by decide), if_pos (by omega)]
theorem startsL (s : ByteArray) (hs : s.size ≤ 140737488351232) (n : Nat) (hb : prt (bt s 0) = (n : Int)) (h0 : 0 < s.size) (hn2 : n ≤ 2) : ∀ (l : List Tm) (j p : Nat) (r : List UInt8) (acc : List Int), (∀ x, x ∈ l → x.good) → j + l.length = n → acc.length = j → (l = [] ∨ s.data.toList.drop p = txM j l ++ r) →
    Evt (fun k => numnahref08_starts.l0 k s 0 acc ((p + 1 : Nat) : Int) (j : Int)) (acc ++ posn p l)
  | [], j, p, r, acc, hx, hj, ha, h => by
    have hj2 : j = n := by simpa using hj
    refine Evt.step (fun k => starts_step s h0 acc ((p + 1 : Nat) : Int) (j : Int) k) ?_
    refine Evt.bind (partsE _) ?_
    rw [hb]
    refine Evt.neg (by omega) ?_
    rw [posn, List.append_nil]
    exact Evt.all fun k => rfl
  | x :: l, j, p, r, acc, hx, hj, ha, h => by
    have h := h.resolve_left (by simp)
    rw [txM, List.cons_append, List.append_assoc] at h
    obtain ⟨h1, h2, h3⟩ := at_cons h
    have hE := rEndE s hs x (hx x (by simp)) (p + 1) _ h3
    have hlen : j < n := by rw [List.length_cons] at hj; omega
    have hsz : p + 1 + x.tx.length ≤ s.size := by
      have h4 := congrArg List.length h3
      rw [List.length_drop, List.length_append] at h4
      have : s.data.toList.length = s.size := by simp
      omega
    have c1 : (j : Int) < (n : Int) := by omega
    have c2 : acc.length < 17592186044416 := Nat.lt_trans (show acc.length < 3 by omega) (by decide)
    have hjl : j + 1 + l.length = n := by rw [List.length_cons] at hj; omega
    have hwj : wrap64 ((j : Int) + 1) = ((j + 1 : Nat) : Int) := (wr (by omega) (by omega)).trans (by omega)
    have hw : wrap64 (((p + 1 : Nat) : Int) + x.tx.length + 1) = ((p + 1 + x.tx.length + 1 : Nat) : Int) := by
      clear hwj
      exact (wr (by omega) (by omega)).trans (by omega)
    refine Evt.step (fun k => starts_step s h0 acc ((p + 1 : Nat) : Int) (j : Int) k) ?_
    refine Evt.bind (partsE _) ?_
    rw [hb]
    simp only [if_pos c1, if_pos c2]
    refine Evt.bind hE ?_
    rw [hw, hwj]
    have := startsL s hs n hb h0 hn2 l (j + 1) (p + 1 + x.tx.length) r (acc ++ [((p + 1 : Nat) : Int)]) (fun y hy => hx y (by simp [hy])) hjl (by simp [ha]) (.inr (drop_app h3))
    refine this.val ?_
    rw [posn, List.append_assoc]
    rfl
theorem posn_at (s : ByteArray) : ∀ (l : List Tm) (j p i : Nat) (r : List UInt8) (hi : i < l.length), s.data.toList.drop p = txM j l ++ r → ∃ (q : Nat) (r' : List UInt8), rd (posn p l) (i : Int) = (q : Int) ∧ s.data.toList.drop q = l[i].tx ++ r'
  | x :: l, j, p, 0, r, hi, h => by
    rw [txM, List.cons_append, List.append_assoc] at h
    obtain ⟨h1, h2, h3⟩ := at_cons h
    exact ⟨p + 1, _, rfl, h3⟩
  | x :: l, j, p, i + 1, r, hi, h => by
    rw [txM, List.cons_append, List.append_assoc] at h
    obtain ⟨h1, h2, h3⟩ := at_cons h
    obtain ⟨q, r', a, b⟩ := posn_at s l (j + 1) (p + 1 + x.tx.length) i r (by simpa using hi) (drop_app h3)
    refine ⟨q, r', ?_, b⟩
    rw [← a]
    simp only [rd, Int.toNat_natCast, posn]
    rfl
theorem sliceT (s : ByteArray) (q : Nat) (t : Tm) (r : List UInt8) (h : s.data.toList.drop q = t.tx ++ r) (hq : q ≤ s.size) (w : World) : (Instr.sliceAt 9 (.string s) (some (.int .i64 (q : Int))) (some (.int .i64 ((q : Int) + t.tx.length))) none).run Tryz.prog w = .ok (.string t.text) w := by
  have hsz : q + t.tx.length ≤ s.size := by
    have h4 := congrArg List.length h
    rw [List.length_drop, List.length_append] at h4
    have : s.data.toList.length = s.size := by simp
    omega
  have h1 := run_slice_string (P := Tryz.prog) w 9 s .i64 .i64 (q : Int) ((q : Int) + t.tx.length) Tryz.underlying9 (by omega) (by omega) (by omega)
  have h2 : s.extract (q : Int).toNat ((q : Int) + t.tx.length).toNat = t.text := by
    apply ByteArray.ext
    apply Array.ext'
    have e1 : ((q : Int) + t.tx.length).toNat = q + t.tx.length := by omega
    rw [e1, Int.toNat_natCast, ByteArray.data_extract, Array.toList_extract]
    have h4 : (s.data.toList.drop q).take (q + t.tx.length - q) = t.tx := by
      rw [h, show q + t.tx.length - q = t.tx.length by omega, List.take_left]
    have h5 : t.text.data.toList = t.tx := by unfold Tm.text; simp
    rw [h5]
    first | exact h4 | (rw [List.extract_eq_take_drop]; exact h4) | (rw [List.extract_eq_drop_take]; exact h4) | simpa using h4
  rw [h2] at h1
  simp [go_sem, Instr.sliceAt, run_underlying Tryz.underlying9, Sem.run_bind, h1]
theorem But.cell {g : Nat} {w w' : World} (h : But g w w') {a : Addr} (hl : a.block < w.heap.size) (hg : a.block ≠ g) : w'.cell? a = w.cell? a := by
  have := h.block a.block hl hg
  unfold World.cell?
  rw [this]
end Go.Proofs.YtaafeallcaiooaaGreat.Pr
namespace Go.Proofs.YtaafeallcaiooaaGreat.Pr
open Go.RowKit Go.Maps Go.Proofs.YtaafeallcaiooaaGreatW.PrintWords Go.Proofs.YtaafeallcaiooaaGreatW.PrintLast Go.Proofs.YtaafeallcaiooaaGreatW.PrintMore
set_option linter.unusedVariables false
set_option linter.unusedSimpArgs false
/-- nothing is changed but blocks of some kind -/
structure ButP (P : Nat → Prop) (w w' : World) : Prop where
  os : w'.os = w.os
  tape : w'.tape = w.tape
  output : w'.output = w.output
  size : w.heap.size ≤ w'.heap.size
  block : ∀ k, k < w.heap.size → ¬ P k → w'.heap[k]? = w.heap[k]?
theorem ButP.refl (P : Nat → Prop) (w : World) : ButP P w w := ⟨rfl, rfl, rfl, Nat.le_refl _, fun _ _ _ => rfl⟩
theorem ButP.trans {P : Nat → Prop} {a b c : World} (h : ButP P a b) (k : ButP P b c) : ButP P a c :=
  ⟨k.os.trans h.os, k.tape.trans h.tape, k.output.trans h.output, Nat.le_trans h.size k.size, fun i hi hg => (k.block i (Nat.lt_of_lt_of_le hi h.size) hg).trans (h.block i hi hg)⟩
theorem ButP.of_below {P : Nat → Prop} {w w' : World} (h : Below w.heap.size w w') : ButP P w w' := ⟨h.os, h.tape, h.output, h.size, fun k hk _ => h.block k hk⟩
theorem ButP.set {P : Nat → Prop} {g : Nat} (hg : P g) (w : World) (j : Nat) (v : Value) : ButP P w (w.setCell ⟨g, j, none⟩ v) :=
  have h := But.set (g := g) w j v
  ⟨h.os, h.tape, h.output, h.size, fun k hk hn => h.block k hk (fun e => hn (e ▸ hg))⟩
theorem ButP.below {P : Nat → Prop} {B : Nat} {w w' : World} (h : ButP P w w') (hP : ∀ k, P k → B ≤ k) (hB : B ≤ w.heap.size) : Below B w w' :=
  ⟨h.os, h.tape, h.output, h.size, fun k hk => h.block k (by omega) (fun hp => by have := hP k hp; omega)⟩
theorem ButP.cell {P : Nat → Prop} {w w' : World} (h : ButP P w w') {a : Addr} {v : Value} (ha : w.cell? a = some v) (hn : ¬ P a.block) : w'.cell? a = some v := by
  have hl := World.block_lt_of_cell? w _ ha
  have := h.block a.block hl hn
  rw [← ha]
  unfold World.cell?
  rw [this]
theorem add0 (g j : Nat) : (⟨g, 0, none⟩ : Addr).add j = ⟨g, j, none⟩ := by unfold Addr.add; split <;> simp_all
theorem add_block' (a : Addr) (j : Nat) : (a.add j).block = a.block := by unfold Addr.add; split <;> rfl
/-- what the table knows, in memory: n rows of m numbers -/
structure Tab (A : Addr) (n m : Nat) (ar : Nat → Addr) (cr : Nat → Nat) (w : World) (K : Nat → Nat → Int) : Prop where
  row : ∀ i, i < n → w.cell? (A.add i) = some (.slice (some (ar i)) m (cr i))
  at0 : ∀ i, i < n → ar i = ⟨(ar i).block, 0, none⟩
  mem : ∀ i, i < n → ∃ cs, w.heap[(ar i).block]? = some (.cells cs 3 (0, 0)) ∧ ∀ j, j < m → cs[j]? = some (.int .i64 (K i j))
  inj : ∀ i i', i < n → i' < n → (ar i).block = (ar i').block → i = i'
  off : ∀ i, i < n → (ar i).block ≠ A.block
def InT (n : Nat) (ar : Nat → Addr) (k : Nat) : Prop := ∃ i, i < n ∧ k = (ar i).block
section
variable {A : Addr} {n m : Nat} {ar : Nat → Addr} {cr : Nat → Nat} {w w' : World} {K : Nat → Nat → Int}
theorem Tab.lt (h : Tab A n m ar cr w K) {i : Nat} (hi : i < n) : (ar i).block < w.heap.size := by
  obtain ⟨cs, h1, _⟩ := h.mem i hi
  exact Decidable.byContradiction fun hn => by
    rw [Array.getElem?_eq_none (by omega)] at h1
    cases h1
theorem Tab.ar_eq (h : Tab A n m ar cr w K) {i : Nat} (hi : i < n) (j : Nat) : (ar i).add j = ⟨(ar i).block, j, none⟩ := by
  have h1 := h.at0 i hi
  have h2 : (⟨(ar i).block, 0, none⟩ : Addr).add j = ⟨(ar i).block, j, none⟩ := add0 _ _
  rw [← h1] at h2
  exact h2
theorem Tab.ent (h : Tab A n m ar cr w K) {i j : Nat} (hi : i < n) (hj : j < m) : w.cell? ((ar i).add j) = some (.int .i64 (K i j)) := by
  obtain ⟨cs, h1, h2⟩ := h.mem i hi
  rw [h.ar_eq hi]
  unfold World.cell?
  simp only [h1]
  exact h2 j hj
theorem Tab.frz (h : Tab A n m ar cr w K) {i : Nat} (hi : i < n) (j : Nat) : w.frozen? ((ar i).add j) = false := by
  obtain ⟨cs, h1, h2⟩ := h.mem i hi
  rw [h.ar_eq hi]
  exact blk_frozen h1 j
theorem Tab.below (h : Tab A n m ar cr w K) (hb : Below w.heap.size w w') : Tab A n m ar cr w' K :=
  ⟨fun i hi => (hb.cell (World.block_lt_of_cell? w _ (h.row i hi))).trans (h.row i hi), h.at0, fun i hi => by
    obtain ⟨cs, h1, h2⟩ := h.mem i hi
    exact ⟨cs, blk_below h1 hb, h2⟩, h.inj, h.off⟩
def updK (K : Nat → Nat → Int) (i j : Nat) (v : Int) : Nat → Nat → Int := fun a b => if a = i ∧ b = j then v else K a b
theorem Tab.put (h : Tab A n m ar cr w K) {i j : Nat} (hi : i < n) (hj : j < m) (v : Int) : Tab A n m ar cr (w.setCell ((ar i).add j) (.int .i64 v)) (updK K i j v) := by
  rw [h.ar_eq hi]
  have hb := But.set (g := (ar i).block) w j (.int .i64 v)
  refine ⟨fun i' hi' => ?_, h.at0, fun i' hi' => ?_, h.inj, h.off⟩
  · have h1 := h.row i' hi'
    have hl := World.block_lt_of_cell? w _ h1
    exact (hb.cell hl (fun e => h.off i hi (by rw [← e, add_block']))).trans h1
  · obtain ⟨cs, h1, h2⟩ := h.mem i' hi'
    by_cases he : i' = i
    · subst he
      refine ⟨cs.setIfInBounds j (.int .i64 v), ?_, fun j' hj' => ?_⟩
      · simp [World.setCell, Array.getElem?_modify, h1]
      · have hjs : j < cs.size := by
          have := h2 j hj
          exact Decidable.byContradiction fun hn => by rw [Array.getElem?_eq_none (by omega)] at this; cases this
        rw [Array.getElem?_setIfInBounds]
        unfold updK
        by_cases e : j = j'
        · rw [if_pos e, if_pos hjs, if_pos ⟨rfl, e.symm⟩]
        · rw [if_neg e, if_neg (fun q => e q.2.symm)]
          exact h2 j' hj'
    · refine ⟨cs, ?_, fun j' hj' => ?_⟩
      · rw [hb.block _ (h.lt hi') (fun e => he (h.inj i' i hi' hi e))]
        exact h1
      · unfold updK
        rw [if_neg (fun q => he q.1)]
        exact h2 j' hj'
theorem Tab.set_but (h : Tab A n m ar cr w K) {i : Nat} (hi : i < n) (j : Nat) (v : Value) : ButP (InT n ar) w (w.setCell ((ar i).add j) v) := by
  rw [h.ar_eq hi]
  exact ButP.set (P := InT n ar) ⟨i, hi, rfl⟩ w j v
end
/-- a term stands at a place of a string -/
def AtB (s : ByteArray) (i : Nat) (a : Tm) : Prop := a.good ∧ ∃ r, s.data.toList.drop i = a.tx ++ r
theorem AtB.uniq {s : ByteArray} {i : Nat} {a a' : Tm} (h : AtB s i a) (h' : AtB s i a') : a = a' := by
  obtain ⟨g, r, e⟩ := h
  obtain ⟨g', r', e'⟩ := h'
  exact (tx_inj a g a' g' r r' (e.symm.trans e')).1
theorem AtB.lt {s : ByteArray} {i : Nat} {a : Tm} (h : AtB s i a) : i < s.size ∧ i + a.tx.length ≤ s.size := by
  obtain ⟨g, r, e⟩ := h
  obtain ⟨d, l, h1, _⟩ := tx_first a g
  have h4 := congrArg List.length e
  rw [List.length_drop, List.length_append, h1, List.length_cons] at h4
  have : s.data.toList.length = s.size := by simp
  rw [h1, List.length_cons]
  omega
def ansK (b : Bool) : Int := if b then 2 else 1
def ValidK (r : Int → Int) (s t : ByteArray) (M : Int) (K : Nat → Nat → Int) : Prop := ∀ i j a b, AtB s i a → AtB t j b → a.size + b.size ≤ M → K i j = 0 ∨ K i j = ansK (gt r a b)
def PostK (r : Int → Int) (s t : ByteArray) (M : Int) (K K' : Nat → Nat → Int) : Prop := ∀ i j, K' i j = K i j ∨ ∃ a b, AtB s i a ∧ AtB t j b ∧ a.size + b.size ≤ M ∧ K' i j = ansK (gt r a b)
section
variable {r : Int → Int} {s t : ByteArray} {M M' : Int} {K K' K'' : Nat → Nat → Int}
theorem PostK.refl (r : Int → Int) (s t : ByteArray) (M : Int) (K : Nat → Nat → Int) : PostK r s t M K K := fun _ _ => .inl rfl
theorem PostK.trans (h : PostK r s t M K K') (k : PostK r s t M K' K'') : PostK r s t M K K'' := fun i j => by
  rcases k i j with e | e
  · rw [e]; exact h i j
  · exact .inr e
theorem PostK.mono (h : PostK r s t M K K') (hm : M ≤ M') : PostK r s t M' K K' := fun i j => by
  rcases h i j with e | ⟨a, b, h1, h2, h3, h4⟩
  · exact .inl e
  · exact .inr ⟨a, b, h1, h2, by omega, h4⟩
theorem ValidK.mono (h : ValidK r s t M' K) (hm : M ≤ M') : ValidK r s t M K := fun i j a b h1 h2 h3 => h i j a b h1 h2 (by omega)
theorem ValidK.post (h : ValidK r s t M K) (k : PostK r s t M K K') : ValidK r s t M K' := fun i j a b h1 h2 h3 => by
  rcases k i j with e | ⟨a', b', g1, g2, g3, g4⟩
  · rw [e]; exact h i j a b h1 h2 h3
  · rw [h1.uniq g1, h2.uniq g2]; exact .inr g4
end
/-- what greater (94) and decide (131) do at two places -/
def GrK (F : Nat) (p s t : ByteArray) (A : Addr) (cap : Nat) (ar : Nat → Addr) (cr : Nat → Nat) (M : Int) (a b : Tm) (i j : Nat) : Prop := ∀ (w : World) (K : Nat → Nat → Int), Tab A s.size t.size ar cr w K → ValidK (rankP p) s t M K →
  Calls Tryz.prog F #[.string p, .string s, .string t, .int .i64 (i : Int), .int .i64 (j : Int), .slice (some A) s.size cap] w fun e w' => e = .returned (.bool (gt (rankP p) a b)) ∧ ButP (InT s.size ar) w w' ∧ ∃ K', Tab A s.size t.size ar cr w' K' ∧ PostK (rankP p) s t M K K'
set_option maxRecDepth 100000 in
set_option maxHeartbeats 2000000 in
theorem greaterK_of (p s t : ByteArray) (A : Addr) (cap : Nat) (ar : Nat → Addr) (cr : Nat → Nat) (a b : Tm) (i j : Nat) (ha : AtB s i a) (hb : AtB t j b)
    (hd : GrK 131 p s t A cap ar cr (a.size + b.size - 1) a b i j) : GrK 94 p s t A cap ar cr (a.size + b.size) a b i j := by
  intro w K hT hV
  have hi := ha.lt.1
  have hj := hb.lt.1
  obtain ⟨g, hg⟩ : ∃ g, g = gt (rankP p) a b := ⟨_, rfl⟩
  rw [← hg]
  have hrow := hT.row i hi
  have hent := hT.ent hi hj
  have hfz := hT.frz hi j
  have hbi : (i < s.size) = True := eq_true hi
  have hbj : (j < t.size) = True := eq_true hj
  obtain ⟨k0, hk0⟩ : ∃ k, k = K i j := ⟨_, rfl⟩
  rw [← hk0] at hent
  by_cases hz : k0 = 0
  · subst hz
    have hT1 := hT.put hi hj 1
    have hV1 : ValidK (rankP p) s t (a.size + b.size - 1) (updK K i j 1) := fun i' j' a' b' h1 h2 h3 => by
      unfold updK
      by_cases e : i' = i ∧ j' = j
      · obtain ⟨rfl, rfl⟩ := e
        rw [h1.uniq ha, h2.uniq hb] at h3
        omega
      · rw [if_neg e]
        exact hV i' j' a' b' h1 h2 (by omega)
    have HC := Aside0.mk (hd _ _ hT1 hV1)
    rw [← hg] at HC
    have HB1 := Aside0.mk (hT.set_but hi j (.int .i64 1))
    have HT := Aside0.mk hT
    have HA := Aside0.mk (And.intro ha hb)
    have HG := Aside0.mk hg
    have HK := Aside0.mk hk0
    clear hd hT1 hV1 hT hV ha hb hg hk0
    obtain ⟨ad1, had⟩ : ∃ x, x = ar i := ⟨_, rfl⟩
    rw [← had] at HC HB1 hrow hent hfz
    have HAD := Aside0.mk had
    clear had
    go_enter Tryz.func94, Tryz.ntmps94
    go_upto_region 3 with (fail)
    obtain ⟨w1, hw1⟩ : ∃ W, W = w.setCell (ad1.add j) (.int .i64 1) := ⟨_, rfl⟩
    rw [← hw1] at HC HB1 ⊢
    clear hw1 hrow hent hfz
    go_upto_if 33 with (go_at_call 131; refine HC.out.mono ?_; rintro e w2 ⟨rfl, hb2, K2, hT2, hP2⟩; have H2 : Aside0 (ButP (InT s.size ar) w w2 ∧ Tab A s.size t.size ar cr w2 K2 ∧ PostK (rankP p) s t (a.size + b.size - 1) (updK K i j 1) K2) := ⟨HB1.out.trans hb2, hT2, hP2⟩; clear hb2 hT2 hP2)
    have h21 : K2 i j = 1 := by
      rcases H2.out.2.2 i j with e | ⟨a', b', g1, g2, g3, _⟩
      · rw [e]; unfold updK; rw [if_pos ⟨rfl, rfl⟩]
      · rw [g1.uniq HA.out.1, g2.uniq HA.out.2] at g3; omega
    have hrow := H2.out.2.1.row i hi
    have hent := H2.out.2.1.ent hi hj
    have hfz := H2.out.2.1.frz hi j
    rw [h21] at hent
    rw [← HAD.out] at hrow hent hfz
    have hpost : ∀ K3, (∀ i' j', (i' = i ∧ j' = j → K3 i' j' = ansK g) ∧ (¬ (i' = i ∧ j' = j) → K3 i' j' = K2 i' j')) → PostK (rankP p) s t (a.size + b.size) K K3 := fun K3 h3 i' j' => by
      by_cases e : i' = i ∧ j' = j
      · right
        refine ⟨a, b, ?_, ?_, Int.le_refl _, ?_⟩
        · rw [e.1]; exact HA.out.1
        · rw [e.2]; exact HA.out.2
        · rw [(h3 i' j').1 e, HG.out]
      · rw [(h3 i' j').2 e]
        rcases H2.out.2.2 i' j' with q | ⟨a', b', g1, g2, g3, g4⟩
        · left
          rw [q]
          unfold updK
          rw [if_neg e]
        · exact .inr ⟨a', b', g1, g2, by omega, g4⟩
    cases g with
    | true =>
      have hT3 := H2.out.2.1.put hi hj 2
      have hb3 := H2.out.2.1.set_but hi j (.int .i64 2)
      have H3 : Aside0 (ButP (InT s.size ar) w (w2.setCell ((ar i).add j) (.int .i64 2)) ∧ Tab A s.size t.size ar cr (w2.setCell ((ar i).add j) (.int .i64 2)) (updK K2 i j 2) ∧ PostK (rankP p) s t (a.size + b.size) K (updK K2 i j 2)) := ⟨H2.out.1.trans hb3, hT3, hpost _ (fun i' j' => ⟨fun e => by unfold updK; rw [if_pos e]; rfl, fun e => by unfold updK; rw [if_neg e]⟩)⟩
      clear hT3 hb3 hpost h21
      rw [← HAD.out] at H3
      go_upto_region 5 with (fail)
      obtain ⟨w3, hw3⟩ : ∃ W, W = w2.setCell (ad1.add j) (.int .i64 2) := ⟨_, rfl⟩
      rw [← hw3] at H3 ⊢
      clear hw3 hrow hent hfz
      have hrow := H3.out.2.1.row i hi
      have hent := H3.out.2.1.ent hi hj
      rw [show updK K2 i j 2 i j = 2 from by unfold updK; rw [if_pos ⟨rfl, rfl⟩]] at hent
      rw [← HAD.out] at hrow hent
      go_wp2
      go_ret
      exact ⟨rfl, H3.out.1, _, H3.out.2.1, H3.out.2.2⟩
    | false =>
      have H3 : Aside0 (PostK (rankP p) s t (a.size + b.size) K K2) := ⟨hpost K2 (fun i' j' => ⟨fun e => by rw [e.1, e.2, h21]; rfl, fun _ => rfl⟩)⟩
      clear hpost h21
      go_wp2
      go_ret
      exact ⟨rfl, H2.out.1, _, H2.out.2.1, H3.out⟩
  · have hk : k0 = ansK g := by
      rcases hV i j a b ha hb (Int.le_refl _) with e | e
      · exact absurd (hk0.trans e) hz
      · rw [hk0, e, hg]
    have HT := Aside0.mk (And.intro hT (PostK.refl (rankP p) s t (a.size + b.size) K))
    clear hd hT hV ha hb hg hk0 hz
    obtain ⟨ad1, had⟩ : ∃ x, x = ar i := ⟨_, rfl⟩
    rw [← had] at hrow hent hfz
    clear had
    cases g with
    | true =>
      obtain rfl : k0 = 2 := hk
      go_enter Tryz.func94, Tryz.ntmps94
      go_wp2
      go_ret
      exact ⟨rfl, ButP.refl _ _, _, HT.out.1, HT.out.2⟩
    | false =>
      obtain rfl : k0 = 1 := hk
      go_enter Tryz.func94, Tryz.ntmps94
      go_wp2
      go_ret
      exact ⟨rfl, ButP.refl _ _, _, HT.out.1, HT.out.2⟩
/-! ### what decide calls -/
theorem startsI_step (s : ByteArray) (i0 : Nat) (h0 : i0 < s.size) (acc : List Int) (p j : Int) (k : Nat) : numnahref08_starts.l0 (k + 1) s (i0 : Int) acc p j = (numnahref08_Parts.f k (bt s (i0 : Int))).bind fun t178 => (if j < t178 then (if acc.length < 17592186044416 then ((numnahref08_End.f k s p).bind fun t182 => (numnahref08_starts.l0 k s (i0 : Int) (acc ++ [p]) (wrap64 (t182 + 1)) (wrap64 (j + 1)))) else none) else some acc) := by
  rw [numnahref08_starts.l0, if_pos (by omega), if_pos (by omega)]
theorem startsIL (s : ByteArray) (i0 : Nat) (hs : s.size ≤ 140737488351232) (n : Nat) (hb : prt (bt s (i0 : Int)) = (n : Int)) (h0 : i0 < s.size) (hn2 : n ≤ 2) : ∀ (l : List Tm) (j p : Nat) (r : List UInt8) (acc : List Int), (∀ x, x ∈ l → x.good) → j + l.length = n → acc.length = j → (l = [] ∨ s.data.toList.drop p = txM j l ++ r) →
    Evt (fun k => numnahref08_starts.l0 k s (i0 : Int) acc ((p + 1 : Nat) : Int) (j : Int)) (acc ++ posn p l)
  | [], j, p, r, acc, hx, hj, ha, h => by
    have hj2 : j = n := by simpa using hj
    refine Evt.step (fun k => startsI_step s i0 h0 acc ((p + 1 : Nat) : Int) (j : Int) k) ?_
    refine Evt.bind (partsE _) ?_
    rw [hb]
    refine Evt.neg (by omega) ?_
    rw [posn, List.append_nil]
    exact Evt.all fun k => rfl
  | x :: l, j, p, r, acc, hx, hj, ha, h => by
    have h := h.resolve_left (by simp)
    rw [txM, List.cons_append, List.append_assoc] at h
    obtain ⟨h1, h2, h3⟩ := at_cons h
    have hE := rEndE s hs x (hx x (by simp)) (p + 1) _ h3
    have hlen : j < n := by rw [List.length_cons] at hj; omega
    have hsz : p + 1 + x.tx.length ≤ s.size := by
      have h4 := congrArg List.length h3
      rw [List.length_drop, List.length_append] at h4
      have : s.data.toList.length = s.size := by simp
      omega
    have c1 : (j : Int) < (n : Int) := by omega
    have c2 : acc.length < 17592186044416 := Nat.lt_trans (show acc.length < 3 by omega) (by decide)
    have hjl : j + 1 + l.length = n := by rw [List.length_cons] at hj; omega
    have hwj : wrap64 ((j : Int) + 1) = ((j + 1 : Nat) : Int) := (wr (by omega) (by omega)).trans (by omega)
    have hw : wrap64 (((p + 1 : Nat) : Int) + x.tx.length + 1) = ((p + 1 + x.tx.length + 1 : Nat) : Int) := by
      clear hwj
      exact (wr (by omega) (by omega)).trans (by omega)
    refine Evt.step (fun k => startsI_step s i0 h0 acc ((p + 1 : Nat) : Int) (j : Int) k) ?_
    refine Evt.bind (partsE _) ?_
    rw [hb]
    simp only [if_pos c1, if_pos c2]
    refine Evt.bind hE ?_
    rw [hw, hwj]
    have := startsIL s i0 hs n hb h0 hn2 l (j + 1) (p + 1 + x.tx.length) r (acc ++ [((p + 1 : Nat) : Int)]) (fun y hy => hx y (by simp [hy])) hjl (by simp [ha]) (.inr (drop_app h3))
    refine this.val ?_
    rw [posn, List.append_assoc]
    rfl
theorem AtB.app_drop {s : ByteArray} {i : Nat} {c : Int} {ts : List Tm} (h : AtB s i (.app c ts)) : i < s.size ∧ bt s (i : Int) = c ∧ (ts = [] ∨ ∃ r, s.data.toList.drop (i + 1) = txM 0 ts ++ r) := by
  obtain ⟨hg, r, e⟩ := h
  have hl2 := good_len hg
  rw [Tm.good] at hg
  have hc := ch_toNat (c := c) (by omega)
  rw [tx_app2 c ts hl2, List.cons_append] at e
  obtain ⟨a, b, d⟩ := at_cons e
  refine ⟨a, by rw [← hc]; exact b, ?_⟩
  by_cases h0 : ts.length = 0
  · exact .inl (List.eq_nil_of_length_eq_zero h0)
  · rw [if_neg h0, List.append_assoc] at d
    exact .inr ⟨_, d⟩
theorem startsAt (s : ByteArray) (hs : s.size ≤ 1000000) (i : Nat) (c : Int) (ts : List Tm) (h : AtB s i (.app c ts)) : Evt (fun k => numnahref08_starts.f k s (i : Int)) (posn (i + 1) ts) := by
  obtain ⟨h0, hb, hd⟩ := h.app_drop
  have hg := h.1
  have hl2 := good_len hg
  rw [Tm.good] at hg
  have hn : prt (bt s (i : Int)) = (ts.length : Int) := by rw [hb, prt_sym hg.1]; omega
  have hw : wrap64 ((i : Int) + 2) = ((i + 1 + 1 : Nat) : Int) := (wr (by omega) (by omega)).trans (by omega)
  obtain ⟨r, hr⟩ : ∃ r, ts = [] ∨ s.data.toList.drop (i + 1) = txM 0 ts ++ r := by
    rcases hd with e | ⟨r, e⟩
    · exact ⟨[], .inl e⟩
    · exact ⟨r, .inr e⟩
  refine (startsIL s i (by omega) ts.length hn h0 hl2 ts 0 (i + 1) r [] (fun x hx => goods_mem hg.2.2 hx) (by omega) rfl hr).congr fun k => ?_
  rw [numnahref08_starts.f, hw]
  rfl
theorem parts_at {s : ByteArray} {i : Nat} {c : Int} {ts : List Tm} (h : AtB s i (.app c ts)) (k : Nat) (hk : k < ts.length) : ∃ q : Nat, rd (posn (i + 1) ts) (k : Int) = (q : Int) ∧ AtB s q ts[k] := by
  obtain ⟨_, _, hd⟩ := h.app_drop
  have hg := h.1
  rw [Tm.good] at hg
  rcases hd with e | ⟨r, e⟩
  · rw [e] at hk; simp at hk
  · obtain ⟨q, r', h1, h2⟩ := posn_at s ts 0 (i + 1) k r hk e
    exact ⟨q, h1, goods_mem hg.2.2 (List.getElem_mem hk), r', h2⟩
theorem rankL {L : List UInt8} (h6 : L.length = 6) (hn : L.Nodup) (k0 : Nat) (hk : k0 < L.length) : ∀ (n j : Nat), j + n = k0 → Evt (fun k => numnahref08_rank.l0 k (B8 L) (L[k0].toNat : Int) (j : Int)) (k0 : Int)
  | 0, j, hj => by
    have e : j = k0 := by omega
    subst e
    have hd : (B8 L).data.toList.drop j = L[j] :: L.drop (j + 1) := by rw [B8_list]; exact List.drop_eq_getElem_cons hk
    obtain ⟨h1, h2, _⟩ := at_cons hd
    refine Evt.now fun k => ?_
    rw [numnahref08_rank.l0, if_pos (by omega), if_pos (by omega), h2, if_pos rfl]
  | n + 1, j, hj => by
    have hjl : j < L.length := by omega
    have hd : (B8 L).data.toList.drop j = L[j] :: L.drop (j + 1) := by rw [B8_list]; exact List.drop_eq_getElem_cons hjl
    obtain ⟨h1, h2, _⟩ := at_cons hd
    have hw : wrap64 ((j : Int) + 1) = ((j + 1 : Nat) : Int) := (wr (by omega) (by omega)).trans (by omega)
    refine Evt.step (fun k => ?_) (rankL h6 hn k0 hk n (j + 1) (by omega))
    rw [numnahref08_rank.l0, if_pos (by omega), if_pos (by omega), h2, if_neg, hw]
    intro e
    have e2 : L[j] = L[k0] := UInt8.toNat_inj.1 (by omega)
    have := List.getElem_inj hn |>.1 e2
    omega
theorem rankE {p : ByteArray} (hP : IsPrec p) (c : Int) (hc : 97 ≤ c ∧ c ≤ 102) : Evt (fun k => numnahref08_rank.f k p c) (rankP p c) := by
  obtain ⟨L, rfl, h6, hn, hcc⟩ := hP
  obtain ⟨k, hk, rfl⟩ := sym_mem h6 hn hcc c hc
  rw [rank_get hn k hk]
  exact rankL h6 hn k hk k 0 (by omega)
theorem rank_C {p : ByteArray} (hP : IsPrec p) (c : Int) (hc : 97 ≤ c ∧ c ≤ 102) (w : World) : Calls Tryz.prog 148 #[.string p, .int .u8 c] w fun e w' => e = .returned (.int .i64 (rankP p c)) ∧ Below w.heap.size w w' := by
  obtain ⟨k, hk⟩ := (rankE hP c hc).ex
  exact (numnahref08_rank.calls k p c _ w hk).mono fun e w' h => ⟨h.1, by obtain ⟨nd, rfl⟩ := h.2; exact pw_below_drewN (Below.refl _ _) nd⟩
theorem end_C {s : ByteArray} (hs : s.size ≤ 1000000) {q : Nat} {u : Tm} (h : AtB s q u) (w : World) : Calls Tryz.prog 72 #[.string s, .int .i64 (q : Int)] w fun e w' => e = .returned (.int .i64 ((q : Int) + u.tx.length)) ∧ Below w.heap.size w w' := by
  obtain ⟨hg, r, e⟩ := h
  obtain ⟨k, hk⟩ := (rEndE s (by omega) u hg q r e).ex
  exact (numnahref08_End.calls k s q _ w hk).mono fun e w' h => ⟨h.1, by obtain ⟨nd, rfl⟩ := h.2; exact pw_below_drewN (Below.refl _ _) nd⟩
theorem occ_C {v : Int} (hv : 120 ≤ v ∧ v ≤ 122) {a : Tm} (ha : a.good) (hs : a.text.size ≤ 1000000) (w : World) : Calls Tryz.prog 80 #[.int .u8 v, .string a.text] w fun e w' => e = .returned (.bool (occT v a)) ∧ Below w.heap.size w w' := by
  have h1 := occursE v a.text (by omega)
  rw [text_data, occ_tx v hv a ha] at h1
  obtain ⟨k, hk⟩ := h1.ex
  exact (numnahref08_occurs.calls k v a.text _ w hk).mono fun e w' h => ⟨h.1, by obtain ⟨nd, rfl⟩ := h.2; exact pw_below_drewN (Below.refl _ _) nd⟩
/-- a slice of numbers, read one by one, in blocks from B on -/
def SLn (w : World) (B : Nat) (Aa : Option Addr) (xs : List Int) : Prop := ∀ k, k < xs.length → ∃ ad, Aa = some ad ∧ B ≤ ad.block ∧ w.cell? (ad.add k) = some (.int .i64 (rd xs (k : Int)))
theorem SLn.below {w w' : World} {B : Nat} {Aa : Option Addr} {xs : List Int} (h : SLn w B Aa xs) (hb : Below w.heap.size w w') : SLn w' B Aa xs := fun k hk => by
  obtain ⟨ad, h1, h2, h3⟩ := h k hk
  exact ⟨ad, h1, h2, (hb.cell (World.block_lt_of_cell? w _ h3)).trans h3⟩
theorem SLn.but {P : Nat → Prop} {w w' : World} {B : Nat} {Aa : Option Addr} {xs : List Int} (h : SLn w B Aa xs) (hb : ButP P w w') (hP : ∀ k, P k → k < B) : SLn w' B Aa xs := fun k hk => by
  obtain ⟨ad, h1, h2, h3⟩ := h k hk
  exact ⟨ad, h1, h2, hb.cell h3 (fun hp => by rw [add_block'] at hp; have := hP _ hp; omega)⟩
theorem starts_C {s : ByteArray} (hs : s.size ≤ 1000000) {i : Nat} {c : Int} {ts : List Tm} (h : AtB s i (.app c ts)) (w : World) : Calls Tryz.prog 75 #[.string s, .int .i64 (i : Int)] w fun e w' => (∃ Aa cc, e = .returned (.slice Aa ts.length cc) ∧ SLn w' w.heap.size Aa (posn (i + 1) ts)) ∧ Below w.heap.size w w' := by
  obtain ⟨k, hk⟩ := (startsAt s hs i c ts h).ex
  refine (numnahref08_starts.calls k s i _ w hk).mono ?_
  rintro e w' ⟨v, rfl, hR, hb⟩
  obtain ⟨Aa, cc, rfl⟩ := Kd.R_slice hR
  refine ⟨⟨Aa, cc, by rw [posn_len], fun k hk => ?_⟩, hb⟩
  obtain ⟨ad, rfl, h2⟩ := Kd.at_int (Kd.R_reads' hR).2.2 (k : Int) (by omega) (by omega)
  rw [Int.toNat_natCast] at h2
  exact ⟨ad, rfl, Kd.R_base hR _ rfl, h2⟩
/-- the state of the loops of decide -/
def GSt (p s t : ByteArray) (A : Addr) (ar : Nat → Addr) (cr : Nat → Nat) (M : Int) (w0 : World) (K0 : Nat → Nat → Int) (w : World) : Prop := ButP (InT s.size ar) w0 w ∧ ∃ K, Tab A s.size t.size ar cr w K ∧ PostK (rankP p) s t M K0 K
section
variable {p s t : ByteArray} {A : Addr} {ar : Nat → Addr} {cr : Nat → Nat} {M : Int} {w0 w w' : World} {K0 : Nat → Nat → Int}
theorem GSt.below (h : GSt p s t A ar cr M w0 K0 w) (hb : Below w.heap.size w w') : GSt p s t A ar cr M w0 K0 w' := by
  obtain ⟨h1, K, h2, h3⟩ := h
  exact ⟨h1.trans (ButP.of_below hb), K, h2.below hb, h3⟩
theorem callG {cap : Nat} {a b : Tm} {i j : Nat} {N : Int} (hG : GrK 94 p s t A cap ar cr N a b i j) (hN : N ≤ M) (hV : ValidK (rankP p) s t M K0) (h : GSt p s t A ar cr M w0 K0 w) :
    Calls Tryz.prog 94 #[.string p, .string s, .string t, .int .i64 (i : Int), .int .i64 (j : Int), .slice (some A) s.size cap] w fun e w' => e = .returned (.bool (gt (rankP p) a b)) ∧ ButP (InT s.size ar) w w' ∧ GSt p s t A ar cr M w0 K0 w' := by
  obtain ⟨h1, K, h2, h3⟩ := h
  refine (hG w K h2 ((hV.post h3).mono hN)).mono ?_
  rintro e w' ⟨rfl, g1, K', g2, g3⟩
  exact ⟨rfl, g1, h1.trans g1, K', g2, h3.trans (g3.mono hN)⟩
def LS (p s t : ByteArray) (A : Addr) (ar : Nat → Addr) (cr : Nat → Nat) (M : Int) (w0 : World) (K0 : Nat → Nat → Int) (Aa : Option Addr) (xs : List Int) (Ab : Option Addr) (ys : List Int) (w : World) : Prop := GSt p s t A ar cr M w0 K0 w ∧ SLn w w0.heap.size Aa xs ∧ SLn w w0.heap.size Ab ys
variable {Aa Ab : Option Addr} {xs ys : List Int}
theorem LS.below (h : LS p s t A ar cr M w0 K0 Aa xs Ab ys w) (hb : Below w.heap.size w w') : LS p s t A ar cr M w0 K0 Aa xs Ab ys w' := ⟨h.1.below hb, h.2.1.below hb, h.2.2.below hb⟩
theorem LS.call (h : LS p s t A ar cr M w0 K0 Aa xs Ab ys w) (hb : ButP (InT s.size ar) w w') (hP : ∀ k, InT s.size ar k → k < w0.heap.size) (hg : GSt p s t A ar cr M w0 K0 w') : LS p s t A ar cr M w0 K0 Aa xs Ab ys w' := ⟨hg, h.2.1.but hb hP, h.2.2.but hb hP⟩
end
theorem AtB.chr {s : ByteArray} {i : Nat} {a : Tm} (h : AtB s i a) : ∀ h : i < s.size, ((s[i]'h).toNat : Int) = (match a with | .var c => c | .app c _ => c) := fun hi => by
  obtain ⟨hg, r, e⟩ := h
  obtain ⟨d, l, h1, h2⟩ := tx_first a hg
  rw [h1] at e
  obtain ⟨_, h3, _⟩ := at_cons e
  have h4 : ((s[i]'hi).toNat : Int) = bt s (i : Int) := by simp [bt, hi]
  rw [h4, h3, h2]
  cases a <;> rfl
theorem AtB.text_le {s : ByteArray} (hs : s.size ≤ 1000000) {i : Nat} {a : Tm} (h : AtB s i a) : a.text.size ≤ 1000000 := by
  have := h.lt.2
  rw [text_size]
  omega
theorem AtB.slice {s : ByteArray} {i : Nat} {a : Tm} (h : AtB s i a) (w : World) : (Instr.sliceAt 9 (.string s) (some (.int .i64 (i : Int))) (some (.int .i64 ((i : Int) + a.tx.length))) none).run Tryz.prog w = .ok (.string a.text) w := by
  have h1 := h.lt
  obtain ⟨hg, r, e⟩ := h
  exact sliceT s i a r e (by omega) w
theorem any_take {P : Tm → Bool} {l : List Tm} {k : Nat} (hk : k < l.length) (h : (l.take k).any P = false) (hu : P l[k] = false) : (l.take (k + 1)).any P = false := by
  rw [List.take_succ_eq_append_getElem hk, List.any_append, h, List.any_cons, hu]
  rfl
theorem all_take {P : Tm → Bool} {l : List Tm} {k : Nat} (hk : k < l.length) (h : (l.take k).all P = true) (hu : P l[k] = true) : (l.take (k + 1)).all P = true := by
  rw [List.take_succ_eq_append_getElem hk, List.all_append, h, List.all_cons, hu]
  rfl
theorem any_at {P : Tm → Bool} {l : List Tm} {k : Nat} (hk : k < l.length) (hu : P l[k] = true) : l.any P = true := List.any_eq_true.2 ⟨_, List.getElem_mem hk, hu⟩
theorem all_at {P : Tm → Bool} {l : List Tm} {k : Nat} (hk : k < l.length) (hu : P l[k] = false) : l.all P = false := by
  rw [← Bool.not_eq_true, List.all_eq_true]
  intro h
  have := h _ (List.getElem_mem hk)
  rw [hu] at this
  cases this
theorem sizes_at {l : List Tm} {k : Nat} (hk : k < l.length) : l[k].size ≤ Tm.sizes l := sizes_mem l _ (List.getElem_mem hk)
theorem wrK (k : Nat) (h : k < 1000000) : wrap64 ((k : Int) + 1) = (k : Int) + 1 := wrS (by omega) (by omega)
theorem varI {c : Int} (h : 120 ≤ c ∧ c ≤ 122) : isVarI c = true := by unfold isVarI; rw [decide_eq_true (show c ≥ 120 from h.1), decide_eq_true h.2]; rfl
theorem symI {c : Int} (h : 97 ≤ c ∧ c ≤ 102) : isVarI c = false := by unfold isVarI; rw [decide_eq_false (show ¬ c ≥ 120 by omega)]; rfl
/-! ### decide -/
set_option maxRecDepth 100000 in
set_option maxHeartbeats 2000000 in
theorem decide_v (p s t : ByteArray) (A : Addr) (cap : Nat) (ar : Nat → Addr) (cr : Nat → Nat) (c : Int) (b : Tm) (i j : Nat) (M : Int) (ha : AtB s i (.var c)) : GrK 131 p s t A cap ar cr M (.var c) b i j := by
  intro w K hT hV
  have hg : gt (rankP p) (.var c) b = false := by
    cases b with
    | var v => rw [gt_var]
    | app sy l => rw [gt_va]
  rw [hg]
  have hi := ha.lt.1
  have hch := ha.chr
  dsimp only at hch
  have hgd := ha.1
  rw [Tm.good] at hgd
  have hcl := fun w => isvar_calls c w
  rw [varI hgd] at hcl
  have HC := Aside0.mk hcl
  have HT := Aside0.mk (And.intro hT (PostK.refl (rankP p) s t M K))
  clear hT hV hg ha hgd hcl
  go_enter Tryz.func131, Tryz.ntmps131
  go_wp2_with (go_at_call 74; refine (HC.out _).mono ?_; rintro e w1 ⟨rfl, h1⟩; subst w1)
  go_ret
  exact ⟨rfl, ButP.refl _ _, _, HT.out.1, HT.out.2⟩
set_option maxRecDepth 100000 in
set_option maxHeartbeats 2000000 in
theorem decide_av (p s t : ByteArray) (hs : s.size ≤ 1000000) (A : Addr) (cap : Nat) (ar : Nat → Addr) (cr : Nat → Nat) (sy : Int) (l : List Tm) (v : Int) (i j : Nat) (M : Int) (ha : AtB s i (.app sy l)) (hb : AtB t j (.var v)) : GrK 131 p s t A cap ar cr M (.app sy l) (.var v) i j := by
  intro w K hT hV
  rw [gt_var]
  dsimp only
  have hi := ha.lt.1
  have hj := hb.lt.1
  have hch := ha.chr
  have hcj := hb.chr
  dsimp only at hch hcj
  have hgd := ha.1
  rw [Tm.good] at hgd
  have hgv := hb.1
  rw [Tm.good] at hgv
  have hcl := fun w => isvar_calls sy w
  rw [symI hgd.1] at hcl
  have hcv := fun w => isvar_calls v w
  rw [varI hgv] at hcv
  have HC := Aside0.mk hcl
  have HC2 := Aside0.mk hcv
  have hsl := ha.slice
  have HE := Aside0.mk (fun w => end_C hs ha w)
  have HO := Aside0.mk (fun w => occ_C hgv ha.1 (ha.text_le hs) w)
  have HT := Aside0.mk (And.intro hT (PostK.refl (rankP p) s t M K))
  clear hT hV ha hb hgd hgv hcl hcv
  generalize (Tm.app sy l).text = ta at *
  generalize occT v (.app sy l) = oc at *
  generalize (Tm.app sy l).tx.length = la at *
  go_enter Tryz.func131, Tryz.ntmps131
  go_wp2_with (first | (go_at_call 74; refine (HC.out _).mono ?_; rintro e w1 ⟨rfl, h1⟩; subst w1) | (go_at_call 74; refine (HC2.out _).mono ?_; rintro e w1 ⟨rfl, h1⟩; subst w1))
  refine start_ (n := 11) (S := fun w' => True) (ds := []) (bm 11 0) (by kernel_rfl) rfl rfl trivial (fun hHeld => ?_)
  refine pure_ (i := 0) (N := some 27) (bm 11 1) rfl rfl (by kernel_rfl) (fun _ _ _ h => h) (.inl ⟨rfl, tY_⟩) tP_ ?_
  refine pure_ (i := 1) (N := some 28) (bm 11 3) rfl rfl (by kernel_rfl) (fun _ _ _ h => h) (.inl ⟨rfl, tY_⟩) tP_ ?_
  refine pure_ (i := 3) (N := some 30) (bm 11 11) rfl rfl (by kernel_rfl) (fun _ _ _ h => h) (.inl ⟨rfl, tY_⟩) tP_ ?_
  refine pure_ (i := 4) (N := some 31) (bm 11 27) rfl rfl (by kernel_rfl) (fun _ _ _ h => h) (.inl ⟨rfl, tY_⟩) tP_ ?_
  refine pure_ (i := 5) (N := some 32) (bm 11 59) rfl rfl (by kernel_rfl) (fun _ _ _ h => h) (.inl ⟨rfl, tY_⟩) tP_ ?_
  refine pure_ (i := 6) (N := some 33) (bm 11 123) rfl rfl (by kernel_rfl) (fun _ _ _ h => h) (.inl ⟨rfl, tY_⟩) tP_ ?_
  refine take_ (i := 2) (N := some 29) (v := ?_) (a' := ?_) (bm 11 127) rfl rfl (by kernel_rfl) (fun _ _ _ h => h) (Or.inl ⟨by rfl, ?_⟩) hHeld ?_ ?_; rotate_left
  · intro w' _
    go_simp
    with_reducible rfl
  rotate_left; exact tP_
  refine one_ (i := 7) (N := some 34) (bm 11 255) rfl rfl (by kernel_rfl) (by decide) (fun K hK => ?_)
  refine goesD_ Tryz.func72 (by kernel_rfl) rfl #[.string s, .int .i64 (i : Int)] (by rfl) rfl rfl (by simp only [List.map_toArray, List.map_cons, List.map_nil]; rfl) ?_
  refine (HE.out _).mono ?_
  rintro e w4 ⟨rfl, hbw4⟩
  refine .inl ⟨_, rfl, ?_⟩
  refine hK.out _ _ trivial (fun hHeld => ?_)
  clear hK K
  refine norm_ (a' := ?_) ?_ ?_; rotate_left; (show Act.put _ (some 34) _ = _; exact tP_)
  refine pure_ (i := 8) (N := some 35) (bm 11 511) rfl rfl (by kernel_rfl) (fun _ _ _ h => h) (.inl ⟨rfl, tY_⟩) tP_ ?_
  refine one_ (i := 9) (N := some 36) (bm 11 1023) rfl rfl (by kernel_rfl) (by decide) (fun K hK => ?_)
  refine goesD_ Tryz.func80 (by kernel_rfl) rfl #[.int .u8 v, .string ta] (by rfl) rfl rfl (by simp only [List.map_toArray, List.map_cons, List.map_nil]; rfl) ?_
  refine (HO.out _).mono ?_
  rintro e w5 ⟨rfl, hbw5⟩
  refine .inl ⟨_, rfl, ?_⟩
  refine hK.out _ _ trivial (fun hHeld => ?_)
  clear hK K
  refine norm_ (a' := ?_) ?_ ?_; rotate_left; (show Act.put _ (some 36) _ = _; exact tP_)
  refine pure_ (i := 10) (N := some 12) (bm 11 2047) rfl rfl (by kernel_rfl) (fun _ _ _ h => h) (.inl ⟨rfl, tY_⟩) tP_ ?_
  refine done_ (by kernel_rfl) ?_
  have HB : Aside0 (Below w.heap.size w w5) := ⟨below_step (below_step (pw_below_drewN (Below.refl _ _) 1) hbw4) hbw5⟩
  go_wp2
  go_ret
  exact ⟨rfl, ButP.of_below HB.out, _, HT.out.1.below HB.out, HT.out.2⟩
end Go.Proofs.YtaafeallcaiooaaGreat.Pr
