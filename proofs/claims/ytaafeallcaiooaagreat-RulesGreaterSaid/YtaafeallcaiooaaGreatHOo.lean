/- order: precedences made from numbers; their ranks differ. -/
import Derived.Test.YtaafeallcaiooaaGreatPr0
import Derived.Test.YtaafeallcaiooaaGreatPrA4
import Derived.Test.YtaafeallcaiooaaGreatHEv
import Derived.Test.YtaafeallcaiooaaGreatHOr
import Derived.Test.YtaafeallcaiooaaGreatHGs
-- Laid by wip/tools/inj.py of this project, which drives the kit's printer. Lean checks it.
namespace Go.Proofs.YtaafeallcaiooaaGreat.Pr
open Go.RowKit Go.Proofs.YtaafeallcaiooaaGreatW.PrintWords Go.Proofs.YtaafeallcaiooaaGreatW.PrintLast Go.Proofs.YtaafeallcaiooaaGreatW.PrintMore
attribute [local go_sem] max2_int min2_int max_two min_two max_three min_three max_four min_four   -- for this text's walks alone
set_option linter.unusedVariables false
set_option linter.unusedSimpArgs false

/-! ### numnahlaw08_mod: function 55 -/
def numnahlaw08_mod.f (a0 : Int) (a1 : Int) : Option (Int) := if (IntKind.u64.wrap (a1)) = 0 then (none) else (some (wrap64 (Int.tmod (IntKind.u64.wrap (a0)) (IntKind.u64.wrap (a1)))))
/-! ### numnahref08_rank: function 148 -/
def numnahref08_rank.l0 : Nat → ByteArray → Int → Int → Option (Int)
 | 0, _, _, _ => none
 | k + 1, x0, x1, x5 => if 0 ≤ x5 then (if x5 < (x0.size : Int) then (if (bt x0 x5) = x1 then (some x5) else (numnahref08_rank.l0 k x0 x1 (wrap64 (x5 + 1)))) else (none)) else (none)
def numnahref08_rank.f (k : Nat) (a0 : ByteArray) (a1 : Int) : Option (Int) := numnahref08_rank.l0 k a0 a1 0
theorem numnahref08_rank.mono_l : ∀ k, (∀ y0 y1 y2, LeO (numnahref08_rank.l0 k y0 y1 y2) (numnahref08_rank.l0 (k + 1) y0 y1 y2))
 | 0 => fun _ _ _ r h => by simp [numnahref08_rank.l0] at h
 | k + 1 => by
  have ih0 := numnahref08_rank.mono_l k
  ·intro y0 y1 y2
   unfold numnahref08_rank.l0
   repeat' first
   | (with_reducible exact ih0 _ _ _)
   | (with_reducible exact LeO.refl _)
   | (with_reducible exact LeO.none _)
   | (with_reducible refine LeO.ite ?_ ?_)
   | (with_reducible refine LeO.bind ?_ (fun _ => ?_))
   | exact ih0 _ _ _
   | exact LeO.none _
   | refine LeO.ite ?_ ?_
   | refine LeO.bind ?_ (fun _ => ?_)
theorem numnahref08_rank.mono : ∀ a0 a1 k, LeO (numnahref08_rank.f k a0 a1) (numnahref08_rank.f (k + 1) a0 a1) := by
 intro a0 a1 k
 have ih0 := numnahref08_rank.mono_l k
 unfold numnahref08_rank.f
 repeat' first
   | (with_reducible exact ih0 _ _ _)
   | (with_reducible exact LeO.refl _)
   | (with_reducible exact LeO.none _)
   | (with_reducible refine LeO.ite ?_ ?_)
   | (with_reducible refine LeO.bind ?_ (fun _ => ?_))
   | exact ih0 _ _ _
   | exact LeO.none _
   | refine LeO.ite ?_ ?_
   | refine LeO.bind ?_ (fun _ => ?_)
set_option maxHeartbeats 8000000 in
set_option maxRecDepth 100000 in
theorem numnahref08_rank.calls (k : Nat) (a0 : ByteArray) (a1 : Int) (r : Int) (w : World) (h : numnahref08_rank.f k a0 a1 = some r) :
  Calls Tryz.prog 148 #[.string a0, .int .u8 a1] w fun e w' => e = .returned (.int .i64 r) ∧ Drawn0 w w' := by
 have H : (numnahref08_rank.l0 k a0 a1 0) = some r := h
 clear h
 have H' := Aside0.mk H
 clear H
 go_enter Tryz.func148, Tryz.ntmps148
 go_wp2
 go_loopg [5] k (fun kq v5 w' => ∃ (x5_1 : Int), v5 = .int .i64 x5_1 ∧ Aside0 (numnahref08_rank.l0 kq a0 a1 x5_1 = some r) ∧ Aside0 (kq ≤ k) ∧ Drawn0 w w')
 case atStart => exact ⟨(0), tS_, H', ⟨Nat.le_refl _⟩, by repeat (first | exact Drawn0.refl _ | apply Drawn0.step)⟩
 case round =>
  clear H'
  try clear c1
  try clear p2
  obtain ⟨x5_1, rfl, HA, HK1, ⟨m1, rfl⟩⟩ := hrel
  cases gk with
  | zero => exact absurd HA.out (by simp [numnahref08_rank.l0])
  | succ k1 =>
   have H := HA.out
   clear HA
   simp only [numnahref08_rank.l0] at H
   by_cases c3 : 0 ≤ x5_1
   ·rw [if_pos c3] at H
    have c3b0 : decide (0 ≤ x5_1) = true := decide_eq_true c3
    clear c3
    by_cases c4 : x5_1 < (a0.size : Int)
    ·rw [if_pos c4] at H
     have c4b0 : decide (x5_1 < (a0.size : Int)) = true := decide_eq_true c4
     clear c4
     by_cases c6 : (bt a0 x5_1) = a1
     ·rw [if_pos c6] at H
      have c6b0 : ((bt a0 x5_1) == a1) = true := beq_iff_eq.mpr c6
      have c6b1 : ((bt a0 x5_1) != a1) = false := bne_eq_false_iff_eq.mpr c6
      clear c6
      obtain rfl := Option.some.inj H
      have p5 : 0 ≤ (x5_1 : Int) := of_decide_eq_true tA_
      have q5 : x5_1 < (a0.size : Int) := of_decide_eq_true tA_
      have hx5 := bt_at a0 x5_1
      replace p5 := eq_true p5
      replace q5 := eq_true q5
      go_wp2
      go_ret
      exact ⟨by first | rfl | (simp; done) | (simp [*]; done), by repeat (first | exact Drawn0.refl _ | apply Drawn0.step)⟩
     ·rw [if_neg c6] at H
      have c6b0 : ((bt a0 x5_1) == a1) = false := beq_eq_false_iff_ne.mpr c6
      have c6b1 : ((bt a0 x5_1) != a1) = true := bne_iff_ne.mpr c6
      have H' := Aside0.mk H
      clear H
      have p5 : 0 ≤ (x5_1 : Int) := of_decide_eq_true tA_
      have q5 : x5_1 < (a0.size : Int) := of_decide_eq_true tA_
      have hx5 := bt_at a0 x5_1
      replace p5 := eq_true p5
      replace q5 := eq_true q5
      go_wp2
      go_roundg k1
      case measure => have := HK1.out; omega
      case rel => exact ⟨(wrap64 (x5_1 + 1)), tS_, H', ⟨by have := HK1.out; omega⟩, by repeat (first | exact Drawn0.refl _ | apply Drawn0.step)⟩
    ·rw [if_neg c4] at H
     exact absurd H (by simp)
   ·rw [if_neg c3] at H
    exact absurd H (by simp)

end Go.Proofs.YtaafeallcaiooaaGreat.Pr
-- indented by one
-- Laid by wip/tools/inj.py of this project, which drives the kit's printer. Lean checks it.
namespace Go.Proofs.YtaafeallcaiooaaGreat.Pr
open Go.RowKit Go.Proofs.YtaafeallcaiooaaGreatW.PrintWords Go.Proofs.YtaafeallcaiooaaGreatW.PrintLast Go.Proofs.YtaafeallcaiooaaGreatW.PrintMore
attribute [local go_sem] max2_int min2_int max_two min_two max_three min_three max_four min_four   -- for this text's walks alone
set_option linter.unusedVariables false
set_option linter.unusedSimpArgs false

/-! ### numnahref08_Precedence: function 39 -/
def numnahref08_Precedence.l0 : Nat → ByteArray → Int → Option (Bool)
 | 0, _, _ => none
 | k + 1, x0, x3 => if x3 ≤ 102 then ((numnahref08_occurs.f k x3 x0).bind fun t411 => (if t411 = true then (numnahref08_Precedence.l0 k x0 ((x3 + 1) % 256)) else (some false))) else (some ((x0.size : Int) == 6))
def numnahref08_Precedence.f (k : Nat) (a0 : ByteArray) : Option (Bool) := numnahref08_Precedence.l0 k a0 97
theorem numnahref08_Precedence.mono_l : ∀ k, (∀ y0 y1, LeO (numnahref08_Precedence.l0 k y0 y1) (numnahref08_Precedence.l0 (k + 1) y0 y1))
 | 0 => fun _ _ r h => by simp [numnahref08_Precedence.l0] at h
 | k + 1 => by
  have ih0 := numnahref08_Precedence.mono_l k
  ·intro y0 y1
   unfold numnahref08_Precedence.l0
   repeat' first
   | (with_reducible exact ih0 _ _)
   | (with_reducible exact numnahref08_occurs.mono _ _ _)
   | (with_reducible exact LeO.refl _)
   | (with_reducible exact LeO.none _)
   | (with_reducible refine LeO.ite ?_ ?_)
   | (with_reducible refine LeO.bind ?_ (fun _ => ?_))
   | exact ih0 _ _
   | exact numnahref08_occurs.mono _ _ _
   | exact LeO.none _
   | refine LeO.ite ?_ ?_
   | refine LeO.bind ?_ (fun _ => ?_)
theorem numnahref08_Precedence.mono : ∀ a0 k, LeO (numnahref08_Precedence.f k a0) (numnahref08_Precedence.f (k + 1) a0) := by
 intro a0 k
 have ih0 := numnahref08_Precedence.mono_l k
 unfold numnahref08_Precedence.f
 repeat' first
   | (with_reducible exact ih0 _ _)
   | (with_reducible exact numnahref08_occurs.mono _ _ _)
   | (with_reducible exact LeO.refl _)
   | (with_reducible exact LeO.none _)
   | (with_reducible refine LeO.ite ?_ ?_)
   | (with_reducible refine LeO.bind ?_ (fun _ => ?_))
   | exact ih0 _ _
   | exact numnahref08_occurs.mono _ _ _
   | exact LeO.none _
   | refine LeO.ite ?_ ?_
   | refine LeO.bind ?_ (fun _ => ?_)
set_option maxHeartbeats 8000000 in
set_option maxRecDepth 100000 in
theorem numnahref08_Precedence.calls (k : Nat) (a0 : ByteArray) (r : Bool) (w : World) (h : numnahref08_Precedence.f k a0 = some r) :
  Calls Tryz.prog 39 #[.string a0] w fun e w' => e = .returned (.bool r) ∧ Drawn0 w w' := by
 have H : (numnahref08_Precedence.l0 k a0 97) = some r := h
 clear h
 have H' := Aside0.mk H
 clear H
 go_enter Tryz.func39, Tryz.ntmps39
 go_wp2
 go_loopg [3] k (fun kq v3 w' => ∃ (x3_1 : Int), v3 = .int .u8 x3_1 ∧ Aside0 (numnahref08_Precedence.l0 kq a0 x3_1 = some r) ∧ Aside0 (kq ≤ k) ∧ Drawn0 w w')
 case atStart => exact ⟨(97), tS_, H', ⟨Nat.le_refl _⟩, by repeat (first | exact Drawn0.refl _ | apply Drawn0.step)⟩
 case round =>
  clear H'
  obtain ⟨x3_1, rfl, HA, HK1, ⟨m1, rfl⟩⟩ := hrel
  cases gk with
  | zero => exact absurd HA.out (by simp [numnahref08_Precedence.l0])
  | succ k1 =>
   have H := HA.out
   clear HA
   simp only [numnahref08_Precedence.l0] at H
   by_cases c2 : x3_1 ≤ 102
   ·rw [if_pos c2] at H
    have c2b0 : decide (x3_1 ≤ 102) = true := decide_eq_true c2
    clear c2
    replace H := Option.bind_eq_some_iff.mp H
    obtain ⟨t411, A30, H⟩ := H
    replace H : (if t411 = true then (numnahref08_Precedence.l0 k1 a0 ((x3_1 + 1) % 256)) else (some false)) = some r := H
    have A3 := Aside0.mk A30
    clear A30
    by_cases c4 : t411 = true
    ·subst c4
     have H1 : (numnahref08_Precedence.l0 k1 a0 ((x3_1 + 1) % 256)) = some r := by rw [if_pos rfl] at H; exact H
     clear H
     have H := H1
     clear H1
     have H' := Aside0.mk H
     clear H
     go_wp2_with (first | ((with_reducible refine gate_callee (f := 80) rfl ?_); refine goesL_ (some 10) rfl rfl Tryz.func80 (by kernel_rfl) rfl #[.int .u8 x3_1, .string a0] rfl tM_ ?_; (with_reducible refine (numnahref08_occurs.calls k1 x3_1 a0 true _ A3.out).mono ?_); rintro e w' ⟨rfl, ⟨nd, rfl⟩⟩; refine ⟨_, rfl, ?_⟩))
     go_roundg k1
     case measure => have := HK1.out; omega
     case rel => exact ⟨((x3_1 + 1) % 256), tS_, H', ⟨by have := HK1.out; omega⟩, by repeat (first | exact Drawn0.refl _ | apply Drawn0.step)⟩
    ·replace c4 := Bool.eq_false_iff.mpr c4
     subst c4
     have H1 : (some false) = some r := by rw [if_neg (show ¬ (false = true) by decide)] at H; exact H
     clear H
     have H := H1
     clear H1
     obtain rfl := Option.some.inj H
     go_wp2_with (first | ((with_reducible refine gate_callee (f := 80) rfl ?_); refine goesL_ (some 10) rfl rfl Tryz.func80 (by kernel_rfl) rfl #[.int .u8 x3_1, .string a0] rfl tM_ ?_; (with_reducible refine (numnahref08_occurs.calls k1 x3_1 a0 false _ A3.out).mono ?_); rintro e w' ⟨rfl, ⟨nd, rfl⟩⟩; refine ⟨_, rfl, ?_⟩))
     go_ret
     exact ⟨by first | rfl | (simp; done) | (simp [*]; done), by repeat (first | exact Drawn0.refl _ | apply Drawn0.step)⟩
   ·rw [if_neg c2] at H
    have c2b0 : decide (x3_1 ≤ 102) = false := decide_eq_false c2
    clear c2
    obtain rfl := Option.some.inj H
    go_wp2
    go_ret
    exact ⟨by first | rfl | (simp; done) | (simp [*]; done), by repeat (first | exact Drawn0.refl _ | apply Drawn0.step)⟩

/-! ### numnahlaw08_order: function 42 -/
def numnahlaw08_order.l0 : Nat → Int → ByteArray → Int → Option (ByteArray)
 | 0, _, _, _ => none
 | k + 1, x0, x3, x4 => if x4 < 6 then ((numnahlaw08_mod.f x0 (wrap64 (x4 + 1))).bind fun t428 => ((numnahlaw08_mod.f x0 720).bind fun t429 => (if (wrap64 (x4 + 1)) = 0 then (none) else (if 0 ≤ t428 then (if t428 ≤ (x3.size : Int) then (if 0 ≤ x4 then (if x4 ≤ (wrap64 (x4 + 1)) then (if (wrap64 (x4 + 1)) ≤ 6 then (if (x3.extract 0 (t428 : Int).toNat).size + ((⟨#[97, 98, 99, 100, 101, 102]⟩ : ByteArray).extract (x4 : Int).toNat ((wrap64 (x4 + 1)) : Int).toNat).size ≤ 9223372036854775807 then (if ((x3.extract 0 (t428 : Int).toNat) ++ ((⟨#[97, 98, 99, 100, 101, 102]⟩ : ByteArray).extract (x4 : Int).toNat ((wrap64 (x4 + 1)) : Int).toNat)).size + (x3.extract (t428 : Int).toNat x3.size).size ≤ 9223372036854775807 then (numnahlaw08_order.l0 k (wrap64 (Int.tdiv t429 (wrap64 (x4 + 1)))) (((x3.extract 0 (t428 : Int).toNat) ++ ((⟨#[97, 98, 99, 100, 101, 102]⟩ : ByteArray).extract (x4 : Int).toNat ((wrap64 (x4 + 1)) : Int).toNat)) ++ (x3.extract (t428 : Int).toNat x3.size)) (wrap64 (x4 + 1))) else (none)) else (none)) else (none)) else (none)) else (none)) else (none)) else (none))))) else (some x3)
def numnahlaw08_order.f (k : Nat) (a0 : Int) : Option (ByteArray) := numnahlaw08_order.l0 k a0 (⟨#[]⟩ : ByteArray) 0
theorem numnahlaw08_order.mono_l : ∀ k, (∀ y0 y1 y2, LeO (numnahlaw08_order.l0 k y0 y1 y2) (numnahlaw08_order.l0 (k + 1) y0 y1 y2))
 | 0 => fun _ _ _ r h => by simp [numnahlaw08_order.l0] at h
 | k + 1 => by
  have ih0 := numnahlaw08_order.mono_l k
  ·intro y0 y1 y2
   unfold numnahlaw08_order.l0
   repeat' first
   | (with_reducible exact ih0 _ _ _)
   | (with_reducible exact LeO.refl _)
   | (with_reducible exact LeO.none _)
   | (with_reducible refine LeO.ite ?_ ?_)
   | (with_reducible refine LeO.bind ?_ (fun _ => ?_))
   | exact ih0 _ _ _
   | exact LeO.none _
   | refine LeO.ite ?_ ?_
   | refine LeO.bind ?_ (fun _ => ?_)
theorem numnahlaw08_order.mono : ∀ a0 k, LeO (numnahlaw08_order.f k a0) (numnahlaw08_order.f (k + 1) a0) := by
 intro a0 k
 have ih0 := numnahlaw08_order.mono_l k
 unfold numnahlaw08_order.f
 repeat' first
   | (with_reducible exact ih0 _ _ _)
   | (with_reducible exact LeO.refl _)
   | (with_reducible exact LeO.none _)
   | (with_reducible refine LeO.ite ?_ ?_)
   | (with_reducible refine LeO.bind ?_ (fun _ => ?_))
   | exact ih0 _ _ _
   | exact LeO.none _
   | refine LeO.ite ?_ ?_
   | refine LeO.bind ?_ (fun _ => ?_)
end Go.Proofs.YtaafeallcaiooaaGreat.Pr
-- indented by one
namespace Go.Proofs.YtaafeallcaiooaaGreat.Pr
open Go.RowKit Go.Proofs.YtaafeallcaiooaaGreatW.PrintWords Go.Proofs.YtaafeallcaiooaaGreatW.PrintLast Go.Proofs.YtaafeallcaiooaaGreatW.PrintMore
set_option linter.unusedVariables false
set_option linter.unusedSimpArgs false
/-! ### ranks -/
theorem rkL_get {L : List UInt8} (hn : L.Nodup) : ∀ m, m ≤ L.length → ∀ k (h : k < L.length), k < m → getL (rkL (B8 L) m) (L[k].toNat : Int) = some (.int .i64 (k : Int))
  | 0, _, k, _, h => by omega
  | m + 1, hm, k, hk, h => by
    have hml : m < L.length := by omega
    rw [rkL, bAt_list L m hml, getL_put]
    by_cases e : k = m
    · subst e
      rw [if_pos rfl]
    · rw [if_neg (fun h2 => e ((List.getElem_inj hn).1 (UInt8.toNat_inj.1 (by omega))))]
      exact rkL_get hn m (by omega) k hk (by omega)
theorem rank_get {L : List UInt8} (hn : L.Nodup) (k : Nat) (h : k < L.length) : rankP (B8 L) (L[k].toNat : Int) = k := by
  unfold rankP
  rw [B8_size, rkL_get hn L.length (Nat.le_refl _) k h h]
theorem sym_mem {L : List UInt8} (h6 : L.length = 6) (hn : L.Nodup) (hc : ∀ x, x ∈ L → x ∈ c6) (s : Int) (hs : 97 ≤ s ∧ s ≤ 102) : ∃ k, ∃ h : k < L.length, (L[k].toNat : Int) = s := by
  have hx : ∃ x : UInt8, x ∈ c6 ∧ (x.toNat : Int) = s := by
    have : s = 97 ∨ s = 98 ∨ s = 99 ∨ s = 100 ∨ s = 101 ∨ s = 102 := by omega
    rcases this with rfl | rfl | rfl | rfl | rfl | rfl
    · exact ⟨97, by decide, rfl⟩
    · exact ⟨98, by decide, rfl⟩
    · exact ⟨99, by decide, rfl⟩
    · exact ⟨100, by decide, rfl⟩
    · exact ⟨101, by decide, rfl⟩
    · exact ⟨102, by decide, rfl⟩
  obtain ⟨x, hx, rfl⟩ := hx
  obtain ⟨k, hk, rfl⟩ := List.getElem_of_mem (full6 h6 hn hc x hx)
  exact ⟨k, hk, rfl⟩
theorem rank_inj {L : List UInt8} (h6 : L.length = 6) (hn : L.Nodup) (hc : ∀ x, x ∈ L → x ∈ c6) : RankInj (rankP (B8 L)) := by
  intro s s' hs hs' he
  obtain ⟨k, hk, rfl⟩ := sym_mem h6 hn hc s hs
  obtain ⟨j, hj, rfl⟩ := sym_mem h6 hn hc s' hs'
  rw [rank_get hn k hk, rank_get hn j hj] at he
  have : k = j := by omega
  subst this
  rfl
/-! ### order -/
/-- an order of the six symbols -/
def IsPrec (p : ByteArray) : Prop := ∃ L : List UInt8, p = B8 L ∧ L.length = 6 ∧ L.Nodup ∧ ∀ x, x ∈ L → x ∈ c6
theorem IsPrec.ok {p : ByteArray} (h : IsPrec p) : precOk p = true := by
  obtain ⟨L, rfl, h6, hn, hc⟩ := h
  exact prec_perm h6 hn hc
theorem IsPrec.inj {p : ByteArray} (h : IsPrec p) : RankInj (rankP p) := by
  obtain ⟨L, rfl, h6, hn, hc⟩ := h
  exact rank_inj h6 hn hc
theorem IsPrec.size {p : ByteArray} (h : IsPrec p) : p.size = 6 := by
  obtain ⟨L, rfl, h6, hn, hc⟩ := h
  rw [B8_size]; exact h6
def precB (p : ByteArray) : Bool := decide (p.data.toList.length = 6) && (decide p.data.toList.Nodup && p.data.toList.all fun x => decide (x ∈ c6))
theorem precB_is {p : ByteArray} (h : precB p = true) : IsPrec p := by
  unfold precB at h
  rw [Bool.and_eq_true, Bool.and_eq_true, decide_eq_true_iff, decide_eq_true_iff, List.all_eq_true] at h
  exact ⟨p.data.toList, (B8_of p).symm, h.1, h.2.1, fun x hx => of_decide_eq_true (h.2.2 x hx)⟩
theorem ord_mono : ∀ (n k : Nat) (x : Int) (o : ByteArray) (i : Int) (r : ByteArray), numnahlaw08_order.l0 k x o i = some r → numnahlaw08_order.l0 (k + n) x o i = some r
  | 0, k, x, o, i, r, h => h
  | n + 1, k, x, o, i, r, h => by
    have h1 := ord_mono n k x o i r h
    exact numnahlaw08_order.mono_l (k + n) x o i r h1
end Go.Proofs.YtaafeallcaiooaaGreat.Pr
