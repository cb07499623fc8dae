/- Delta's contract: the greatest quotient of a number of substrings and their length, as delF says. -/
import Derived.Test.YtpeeflkodpnbpaaDoorHSubs
import Derived.Test.YtpeeflkodpnbpaaDoorHCnt
import Derived.RangeFuncBox
import Derived.RegionTactic
import Derived.IntWalk
import Derived.OwnWalk
namespace Go.Proofs.YtpeeflkodpnbpaaDoor.Pr
open Go.RowKit Go.WideMaps Go.Maps Go.Proofs.YtpeeflkodpnbpaaDoorW Go.Proofs.YtpeeflkodpnbpaaDoorW.PrintWords Go.Proofs.YtpeeflkodpnbpaaDoorW.PrintLast Go.Proofs.YtpeeflkodpnbpaaDoorW.PrintMore
set_option linter.unusedVariables false
set_option linter.unusedSimpArgs false

def delL (s : ByteArray) : Nat → Nat → Int → Int → Int × Int
  | 0, _, b, a => (b, a)
  | m + 1, n, b, a => if (cntS s n : Int) * a > b * n then delL s m (n + 1) (cntS s n) n else delL s m (n + 1) b a
def gcdL : Nat → Int → Int → Int
  | 0, d, _ => d
  | q + 1, d, a => if a > 0 then gcdL q a (Int.tmod d a) else d
def delF (s : ByteArray) : Int × Int × Int × Int :=
  (wrap64 (Int.tdiv (delL s s.size 1 0 1).1 (gcdL ((delL s s.size 1 0 1).2.toNat + 1) (delL s s.size 1 0 1).1 (delL s s.size 1 0 1).2)), wrap64 (Int.tdiv (delL s s.size 1 0 1).2 (gcdL ((delL s s.size 1 0 1).2.toNat + 1) (delL s s.size 1 0 1).1 (delL s s.size 1 0 1).2)), (delL s s.size 1 0 1).2, 0)
set_option maxHeartbeats 8000000 in
set_option maxRecDepth 1000000 in
theorem delta_calls (u : ByteArray) (hu : isWordC u = true) (hne : 1 ≤ u.size) (hcnt : ∀ n, (cntS u n : Int) ≤ 161) (w : World) :
    Calls Tryd.prog 46 #[.string u] w fun e w' => e = .returned (.tuple #[.agg #[.int .i64 (delF u).1, .int .i64 (delF u).2.1], .int .i64 (delF u).2.2.1, .int .i64 (delF u).2.2.2]) ∧ Below w.heap.size w w' := by
  obtain ⟨R, hR⟩ : ∃ R, delF u = R := ⟨_, rfl⟩
  rw [hR]
  have H0 := Aside0.mk hR
  clear hR
  have hus : u.size ≤ 160 := ((isWordC_iff u).1 hu).1
  have hW := fun W => isWord_calls u W
  rw [hu] at hW
  have hemp : (u.toList == ([] : List UInt8)) = false := by
    apply beq_eq_false_iff_ne.2
    intro h
    rw [ByteArray.toList_eq] at h
    have h2 : u.data.toList.length = u.size := Array.length_toList
    rw [h] at h2
    simp at h2
    omega
  have HCN := Aside0.mk hcnt
  clear hu hcnt
  have a0_ := blk_new w (.cells #[.int .i64 0, .int .i64 0] 59)
  have hb0 : Below w.heap.size w (w.alloc (.cells #[.int .i64 0, .int .i64 0] 59)) := below_alloc (Below.refl _ _) _
  obtain ⟨Bs, hBs⟩ : ∃ Bs, Bs = w.heap.size := ⟨_, rfl⟩
  go_enter Tryd.func46, Tryd.ntmps46
  go_wp2_with (go_at_call 62; with_reducible refine (hW _).mono ?_; rintro e w1 ⟨rfl, hb⟩)
  have HB : Aside0 (Below w.heap.size w w1) := ⟨below_step hb0 hb⟩
  have HA : Aside0 (w1.heap[Bs]? = some (.cells #[.int .i64 0, .int .i64 0] 59 (0, 0))) := ⟨hBs ▸ blk_below a0_ hb⟩
  have HBs := Aside0.mk hBs
  rw [← hBs]
  clear hb hb0 a0_ hBs hW hemp
  obtain ⟨D, HD⟩ : ∃ D, Aside0 (delL u u.size 1 0 1 = D) := ⟨_, ⟨rfl⟩⟩
  go_loopg [5, 6, 7] u.size (fun q v5 v6 v7 wx => ∃ (n : Nat) (N b a : Int), v7 = .int .i64 N ∧ v5 = .int .i64 b ∧ v6 = .int .i64 a ∧ Aside0 (N = (n : Int)) ∧ Aside0 (1 ≤ n) ∧ Aside0 (n + q = u.size + 1) ∧ Aside0 (0 ≤ b ∧ b ≤ 161 ∧ 1 ≤ a ∧ a ≤ 160) ∧ Aside0 (delL u q n b a = D) ∧ Aside0 (wx.heap[Bs]? = some (.cells #[.int .i64 0, .int .i64 0] 59 (0, 0))) ∧ Aside0 (Below w.heap.size w wx))
  case atStart => exact ⟨1, 1, 0, 1, rfl, rfl, rfl, ⟨rfl⟩, ⟨by omega⟩, ⟨by omega⟩, ⟨by omega⟩, HD, HA, HB⟩
  case round =>
    clear HA HB
    obtain ⟨n, N, b, a, rfl, rfl, rfl, HN, Hn1, HQ, HR, HDD, HA, HB⟩ := hrel
    have hN := HN.out; have hQ := HQ.out; have hn1 := Hn1.out; have hr := HR.out
    cases gk with
    | zero =>
      have c1 : decide (N ≤ (u.size : Int)) = false := decide_eq_false (by omega)
      have HE : Aside0 ((b, a) = D) := ⟨HDD.out⟩
      have HG : Aside0 (gcdL (a.toNat + 1) b a = gcdL (a.toNat + 1) b a) := ⟨rfl⟩
      clear hN hQ hn1 hr
      go_wp2
      obtain ⟨G, HG2⟩ : ∃ G, Aside0 (gcdL (a.toNat + 1) b a = G) := ⟨_, ⟨rfl⟩⟩
      go_loopg [9, 10] (a.toNat + 1) (fun q v9 v10 wx => ∃ (d e : Int) (m : Nat), v9 = .int .i64 d ∧ v10 = .int .i64 e ∧ wx = wr.drewN m ∧ Aside0 (0 ≤ d ∧ d ≤ 161 ∧ 0 ≤ e ∧ e ≤ 160 ∧ 1 ≤ d + e) ∧ Aside0 (e.toNat + 1 ≤ q) ∧ Aside0 (gcdL q d e = G))
      case atStart => exact ⟨b, a, 0, rfl, rfl, rfl, ⟨by have := HR.out; omega⟩, ⟨Nat.le_refl _⟩, HG2⟩
      case round =>
        obtain ⟨d, e, m, rfl, rfl, rfl, HR2, HQ2, HG3⟩ := hrel
        have hr2 := HR2.out; have hq2 := HQ2.out
        cases gk with
        | zero => exact absurd hq2 (by omega)
        | succ q =>
          by_cases c : e > 0
          · have c1 : decide (e > 0) = true := decide_eq_true c
            have c2 : decide (0 < e) = true := decide_eq_true c
            have c3 : ¬ e = 0 := by omega
            have c4 : (e == 0) = false := beq_eq_false_iff_ne.2 c3
            have tm1 : 0 ≤ Int.tmod d e := Int.tmod_nonneg e hr2.1
            have tm2 : Int.tmod d e < e := Int.tmod_lt_of_pos d c
            have HR3 : Aside0 (0 ≤ e ∧ e ≤ 161 ∧ 0 ≤ Int.tmod d e ∧ Int.tmod d e ≤ 160 ∧ 1 ≤ e + Int.tmod d e) := ⟨by omega⟩
            have HQ3 : Aside0 ((Int.tmod d e).toNat + 1 ≤ q) := ⟨by omega⟩
            have HG4 : Aside0 (gcdL q e (Int.tmod d e) = G) := ⟨by have := HG3.out; rw [gcdL, if_pos c] at this; exact this⟩
            clear hr2 hq2 tm1 tm2 c
            go_wp2
            go_region
            go_wp2
            go_roundg q
            case measure => omega
            case rel => exact ⟨e, Int.tmod d e, m + 1, (by first | rfl | (simp; done)), (by first | rfl | (simp; done)), rfl, HR3, HQ3, HG4⟩
          · have c1 : decide (e > 0) = false := decide_eq_false c
            have c2 : decide (0 < e) = false := decide_eq_false c
            have hG : d = G := by have := HG3.out; rw [gcdL, if_neg c] at this; exact this
            have c3 : ¬ d = 0 := by omega
            have c4 : (d == 0) = false := beq_eq_false_iff_ne.2 c3
            have HGd := Aside0.mk hG
            have HAm : Aside0 ((wr.drewN m).heap[Bs]? = some (.cells #[.int .i64 0, .int .i64 0] 59 (0, 0))) := ⟨blk_drewN HA.out m⟩
            have x0 := blk_cell HA.out 0
            have x1 := blk_cell HA.out 1
            have y0 := blk_frozen HA.out 0
            have y1 := blk_frozen HA.out 1
            have hfin : R = (wrap64 (Int.tdiv b d), wrap64 (Int.tdiv a d), a, 0) := by
              rw [← H0.out]
              unfold delF
              rw [HD.out, ← HE.out]
              dsimp only
              rw [HG2.out, ← HGd.out]
            have HFin := Aside0.mk hfin
            clear hr2 hq2 c hG hfin
            go_wp2
            go_region
            go_wp2
            have hge : w.heap.size ≤ Bs := by rw [HBs.out]; exact Nat.le_refl _
            refine bodyPost_ret (results_ctt rfl _ _ Bs 59 #[.int .i64 _, .int .i64 _] (0, 0) _ rfl (blk_put (blk_put (blk_drewN HA.out (m + 1)) 0 _ rfl) 1 _ rfl) Tryd.underlying59 rfl (by kernel_rfl)) rfl ⟨?_, ?_⟩
            · rw [HFin.out]; rfl
            · exact below_set (below_set (pw_below_drewN HB.out (m + 1)) hge) hge
    | succ q =>
      have c1 : decide (N ≤ (u.size : Int)) = true := decide_eq_true (by omega)
      have hn : n ≤ u.size := by omega
      have hcn := HCN.out n
      obtain ⟨C, HC⟩ : ∃ C : Int, Aside0 (C = (cntS u n : Int)) := ⟨_, ⟨rfl⟩⟩
      have hC := HC.out
      have C0 : 0 ≤ C ∧ C ≤ 161 := by omega
      have HN2 : Aside0 (wrap64 (N + 1) = ((n + 1 : Nat) : Int)) := ⟨by rw [Go.IntWalk.wrap64_in _ (by omega)]; omega⟩
      have HQ2 : Aside0 (n + 1 + q = u.size + 1) := ⟨by omega⟩
      have m1 : 0 ≤ C * a ∧ C * a ≤ 161 * 160 := ⟨Int.mul_nonneg C0.1 (by omega), Int.mul_le_mul C0.2 hr.2.2.2 (by omega) (by omega)⟩
      have m2 : 0 ≤ b * N ∧ b * N ≤ 161 * 160 := ⟨Int.mul_nonneg hr.1 (by omega), Int.mul_le_mul hr.2.1 (by omega) (by omega) (by omega)⟩
      obtain ⟨P1, hP1⟩ : ∃ P1, P1 = C * a := ⟨_, rfl⟩
      obtain ⟨P2, hP2⟩ : ∃ P2, P2 = b * N := ⟨_, rfl⟩
      rw [← hP1] at m1
      rw [← hP2] at m2
      have w1_ : wrap64 (C * a) = P1 := by rw [← hP1]; exact Go.IntWalk.wrap64_in _ (by omega)
      have w2_ : wrap64 (b * N) = P2 := by rw [← hP2]; exact Go.IntWalk.wrap64_in _ (by omega)
      have w3_ : IntKind.i64.wrap (C * a) = P1 := (i64_w _).trans w1_
      have w4_ : IntKind.i64.wrap (b * N) = P2 := (i64_w _).trans w2_
      have HDn := HDD.out
      rw [delL, ← HC.out, ← HN.out, ← hP1, ← hP2] at HDn
      have HNA : Aside0 (1 ≤ N ∧ N ≤ 160) := ⟨by omega⟩
      have HCA := Aside0.mk C0
      clear hcn hC C0 m1 m2 hP1 hP2 hN hQ hn1 hr
      by_cases c : P1 > P2
      · rw [if_pos c] at HDn
        have HD2 := Aside0.mk HDn
        have c2 : decide (P1 > P2) = true := decide_eq_true c
        have c3 : decide (P2 < P1) = true := decide_eq_true c
        clear HDn c
        go_wp2_with (go_at_call 69; refine (substrings_len u n N C HN HC hus hn _).mono ?_; rintro e w5 ⟨b5, rfl, hlen, hb⟩; have n0_ := Aside0.mk (blk_below HA.out hb); have n1_ := Aside0.mk (below_step HB.out hb); clear HA HB; have HA := n0_; have HB := n1_; clear n0_ n1_ hb)
        go_roundg q
        case measure => omega
        case rel => exact ⟨n + 1, wrap64 (N + 1), C, N, (by first | rfl | (simp; done)), rfl, rfl, HN2, ⟨by omega⟩, HQ2, ⟨by have := HNA.out; have := HCA.out; omega⟩, HD2, HA, HB⟩
      · rw [if_neg c] at HDn
        have HD2 := Aside0.mk HDn
        have c2 : decide (P1 > P2) = false := decide_eq_false c
        have c3 : decide (P2 < P1) = false := decide_eq_false c
        clear HDn c
        go_wp2_with (go_at_call 69; refine (substrings_len u n N C HN HC hus hn _).mono ?_; rintro e w5 ⟨b5, rfl, hlen, hb⟩; have n0_ := Aside0.mk (blk_below HA.out hb); have n1_ := Aside0.mk (below_step HB.out hb); clear HA HB; have HA := n0_; have HB := n1_; clear n0_ n1_ hb)
        go_roundg q
        case measure => omega
        case rel => exact ⟨n + 1, wrap64 (N + 1), b, a, (by first | rfl | (simp; done)), rfl, rfl, HN2, ⟨by omega⟩, HQ2, HR, HD2, HA, HB⟩
/-! for the printer -/
def parse_Delta.f (a0 : ByteArray) : Option (Int × Int × Int × Int) := if isWordC a0 = true then (if a0.size = 0 then some (0, 0, 0, 2) else some (delF a0)) else some (0, 0, 0, 2)
set_option maxHeartbeats 4000000 in
set_option maxRecDepth 1000000 in
theorem parse_Delta.calls (a0 : ByteArray) (r1 r2 r3 r4 : Int) (w : World) (h : parse_Delta.f a0 = some (r1, r2, r3, r4)) :
    Calls Tryd.prog 46 #[.string a0] w fun e w' => e = .returned (.tuple #[.agg #[.int .i64 r1, .int .i64 r2], .int .i64 r3, .int .i64 r4]) ∧ Below w.heap.size w w' := by
  have hW := fun W => isWord_calls a0 W
  have a0_ := blk_new w (.cells #[.int .i64 0, .int .i64 0] 59)
  have hb0 : Below w.heap.size w (w.alloc (.cells #[.int .i64 0, .int .i64 0] 59)) := below_alloc (Below.refl _ _) _
  cases hu : isWordC a0 with
  | false =>
    rw [hu] at hW
    simp only [parse_Delta.f, hu, Bool.false_eq_true, if_false, Option.some.injEq, Prod.mk.injEq] at h
    obtain ⟨rfl, rfl, rfl, rfl⟩ := h
    go_enter Tryd.func46, Tryd.ntmps46
    go_wp2_with (go_at_call 62; with_reducible refine (hW _).mono ?_; rintro e w1 ⟨rfl, hb⟩; have HA := Aside0.mk (blk_below a0_ hb); have HB := Aside0.mk (below_step hb0 hb); have x0 := blk_cell (blk_below a0_ hb) 0; have x1 := blk_cell (blk_below a0_ hb) 1; have y0 := blk_frozen (blk_below a0_ hb) 0; have y1 := blk_frozen (blk_below a0_ hb) 1; clear hb hb0 a0_)
    refine bodyPost_ret (results_ctt rfl _ _ w.heap.size 59 #[.int .i64 _, .int .i64 _] (0, 0) _ rfl (blk_put (blk_put HA.out 0 _ rfl) 1 _ rfl) Tryd.underlying59 rfl (by kernel_rfl)) rfl ⟨rfl, ?_⟩
    exact below_set (below_set HB.out (Nat.le_refl _)) (Nat.le_refl _)
  | true =>
    by_cases hz : a0.size = 0
    · rw [hu] at hW
      simp only [parse_Delta.f, hu, hz, if_true, Option.some.injEq, Prod.mk.injEq] at h
      obtain ⟨rfl, rfl, rfl, rfl⟩ := h
      have hemp : (a0.toList == ([] : List UInt8)) = true := by
        apply beq_iff_eq.2
        rw [ByteArray.toList_eq]
        exact List.length_eq_zero_iff.1 (by have h2 : a0.data.toList.length = a0.size := Array.length_toList; omega)
      clear hz
      go_enter Tryd.func46, Tryd.ntmps46
      go_wp2_with (go_at_call 62; with_reducible refine (hW _).mono ?_; rintro e w1 ⟨rfl, hb⟩; have HA := Aside0.mk (blk_below a0_ hb); have HB := Aside0.mk (below_step hb0 hb); have x0 := blk_cell (blk_below a0_ hb) 0; have x1 := blk_cell (blk_below a0_ hb) 1; have y0 := blk_frozen (blk_below a0_ hb) 0; have y1 := blk_frozen (blk_below a0_ hb) 1; clear hb hb0 a0_)
      refine bodyPost_ret (results_ctt rfl _ _ w.heap.size 59 #[.int .i64 _, .int .i64 _] (0, 0) _ rfl (blk_put (blk_put HA.out 0 _ rfl) 1 _ rfl) Tryd.underlying59 rfl (by kernel_rfl)) rfl ⟨rfl, ?_⟩
      exact below_set (below_set HB.out (Nat.le_refl _)) (Nat.le_refl _)
    · simp only [parse_Delta.f, hu, if_neg hz, if_true, Option.some.injEq] at h
      have hs : a0.size ≤ 160 := ((isWordC_iff a0).1 hu).1
      have := delta_calls a0 hu (by omega) (fun n => by rw [cntS_eq]; have := partsS_len a0 n; omega) w
      rw [h] at this
      exact this
end Go.Proofs.YtpeeflkodpnbpaaDoor.Pr
