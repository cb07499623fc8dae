/- Common's contract: the first one of the longest strings that occur in two words, as comF says. -/
import Derived.Test.YtpeeflkodpnbpaaDoorHKeys
import Derived.RangeFuncBox
import Derived.RegionTactic
import Derived.IntWalk
import Derived.WalkSpells
namespace Go.Proofs.YtpeeflkodpnbpaaDoor.Pr
open Go.RowKit Go.WideMaps Go.Maps Go.Proofs.YtpeeflkodpnbpaaDoorW Go.Proofs.YtpeeflkodpnbpaaDoorW.PrintWords Go.Proofs.YtpeeflkodpnbpaaDoorW.PrintLast Go.Proofs.YtpeeflkodpnbpaaDoorW.PrintMore
set_option linter.unusedVariables false
set_option linter.unusedSimpArgs false

def findC (x : ByteArray) (n : Nat) : List ByteArray → Option ByteArray
  | [] => none
  | t :: l => if posS x n t = [] then findC x n l else some t
def comF (u x : ByteArray) : Nat → ByteArray
  | 0 => emptyB
  | n + 1 => match findC x (n + 1) (partsS u (n + 1)) with
    | some t => t
    | none => comF u x n
def minS (u x : ByteArray) : Nat := if u.size < x.size then u.size else x.size
theorem nil34 (W : World) : (binOp .neq 34 (.slice none 0 0) (.slice none 0 0)).run Tryd.prog W = .ok (.bool false) W := run_neq_slice_nil_any W 34 _ none 0 0 0 0 Tryd.underlying34
theorem some34 (g n c : Nat) (W : World) : (binOp .neq 34 (.slice (some ⟨g, 0, none⟩) n c) (.slice none 0 0)).run Tryd.prog W = .ok (.bool true) W := run_neq_slice_nil_any W 34 _ (some ⟨g, 0, none⟩) n c 0 0 Tryd.underlying34
set_option maxHeartbeats 8000000 in
set_option maxRecDepth 1000000 in
theorem common_calls (u x : ByteArray) (hu : isWordC u = true) (hx : isWordC x = true) (w : World) :
    Calls Tryd.prog 43 #[.string u, .string x] w fun e w' => e = .returned (.tuple #[.string (comF u x (minS u x)), .int .i64 0]) ∧ Below w.heap.size w w' := by
  obtain ⟨R, hR⟩ : ∃ R, comF u x (minS u x) = R := ⟨_, rfl⟩
  rw [hR]
  have H0 := Aside0.mk hR
  clear hR
  have HB := Aside0.mk (Below.refl w.heap.size w)
  have hus : u.size ≤ 160 := ((isWordC_iff u).1 hu).1
  have hxs : x.size ≤ 160 := ((isWordC_iff x).1 hx).1
  have hW := fun W => isWord_calls u W
  have hV := fun W => isWord_calls x W
  rw [hu] at hW
  rw [hx] at hV
  obtain ⟨M, HM⟩ : ∃ M : Int, Aside0 (M = (minS u x : Int)) := ⟨_, ⟨rfl⟩⟩
  have hmu : minS u x ≤ u.size := by unfold minS; split <;> omega
  have hmx : minS u x ≤ x.size := by unfold minS; split <;> omega
  have m1 : (if (x.size : Int) < (u.size : Int) then (x.size : Int) else (u.size : Int)) = M := by rw [HM.out]; unfold minS; first | rfl | (split <;> rfl) | (split <;> split <;> omega)
  have m2 : (if (u.size : Int) < (x.size : Int) then (u.size : Int) else (x.size : Int)) = M := by rw [HM.out]; unfold minS; first | rfl | (split <;> rfl) | (split <;> split <;> omega)
  have m3 : (if x.size < u.size then (x.size : Int) else (u.size : Int)) = M := by rw [HM.out]; unfold minS; first | rfl | (split <;> rfl) | (split <;> split <;> omega)
  have m4 : (if u.size < x.size then (u.size : Int) else (x.size : Int)) = M := by rw [HM.out]; unfold minS; first | rfl | (split <;> rfl) | (split <;> split <;> omega)
  have m5 : min (u.size : Int) (x.size : Int) = M := by rw [HM.out]; unfold minS; split <;> omega
  have hq0 := nil34
  have hq1 := some34
  clear hu hx
  go_enter Tryd.func43, Tryd.ntmps43
  go_wp2_with (first
    | (go_at_call 62; with_reducible refine (hW _).mono ?_; rintro e w1 ⟨rfl, hb⟩; have n1_ := Aside0.mk (below_step HB.out hb); clear HB hb; have HB := n1_; clear n1_)
    | (go_at_call 62; with_reducible refine (hV _).mono ?_; rintro e w2 ⟨rfl, hb⟩; have n1_ := Aside0.mk (below_step HB.out hb); clear HB hb; have HB := n1_; clear n1_))
  clear m1 m2 m3 m4 hW hV
  go_loopg [6] (minS u x) (fun q v6 wx => ∃ (N : Int), v6 = .int .i64 N ∧ Aside0 (N = (q : Int)) ∧ Aside0 (q ≤ minS u x) ∧ Aside0 (comF u x q = R) ∧ Aside0 (Below w.heap.size w wx))
  case atStart => exact ⟨_, rfl, ⟨by first | exact m5.trans HM.out | exact HM.out⟩, ⟨Nat.le_refl _⟩, H0, HB⟩
  case round =>
    clear H0 HB
    obtain ⟨N, rfl, HN, HQ, HR, HB⟩ := hrel
    have hN := HN.out; have hQ := HQ.out
    cases gk with
    | zero =>
      have c1 : decide (0 < N) = false := decide_eq_false (by omega)
      have c2 : decide (N > 0) = false := decide_eq_false (by omega)
      have hh : R = emptyB := HR.out.symm
      clear hN hQ
      go_wp2
      go_ret2
      exact ⟨by rw [hh]; rfl, HB.out⟩
    | succ q =>
      have c1 : decide (0 < N) = true := decide_eq_true (by omega)
      have c2 : decide (N > 0) = true := decide_eq_true (by omega)
      have hnu : q + 1 ≤ u.size := by omega
      have hnx : q + 1 ≤ x.size := by omega
      clear hN hQ
      go_wp2_with (first
        | (go_at_call 69; with_reducible refine (substrings_calls (H := Unit) x (q + 1) N HN hxs hnx _).mono ?_; rintro e w4 ⟨rfl, hown, hb⟩; have n1_ := Aside0.mk (below_step HB.out hb); have n3_ := Aside0.mk hown; clear HB hb hown; have HB := n1_; have HX := n3_; clear n1_ n3_)
        | (go_at_call 69; with_reducible refine (substrings_calls (H := Unit) u (q + 1) N HN hus hnu _).mono ?_; rintro e w5 ⟨rfl, hown, hb⟩; have n1_ := Aside0.mk (below_step HB.out hb); have n2_ := Aside0.mk (groups_below HX.out hb); have n3_ := Aside0.mk hown; clear HB HX hb hown; have HB := n1_; have HX := n2_; have HO := n3_; clear n1_ n2_ n3_)
        | (go_at_call 78; refine (keys_calls _ _).mono ?_; rintro e w6 ⟨rfl, rfl⟩)
        | (go_at_call 77; refine (sorted_calls u (q + 1) hus _ _ _ _ HO.out).mono ?_; rintro e w7 ⟨v53, rfl, hks, hb0⟩; have hb : Below (w5.alloc (.cells #[.map (some w4.heap.size)] 92)).heap.size (w5.alloc (.cells #[.map (some w4.heap.size)] 92)) w7 := (by rw [World.size_alloc]; exact hb0); obtain ⟨A53, c53, rfl, _, hC53⟩ := Kd.R_reads hks; have hal := below_alloc (Below.refl w5.heap.size w5) (.cells #[.map (some w4.heap.size)] 92); have n1_ := Aside0.mk (below_step (below_step HB.out hal) hb); have n2_ := Aside0.mk (groups_below (groups_below HX.out hal) hb); have n4_ := Aside0.mk hC53; clear HB HX HO hb hb0 hks hC53 hal; have HB := n1_; have HX := n2_; have HK := n4_; clear n1_ n2_ n4_))
      obtain ⟨mb, hmb⟩ : ∃ mb, mb = wr.heap.size := ⟨_, rfl⟩
      rw [← hmb] at HX ⊢
      clear hmb c1 c2
      obtain ⟨F, HF0⟩ : ∃ F, Aside0 (findC x (q + 1) (partsS u (q + 1)) = F) := ⟨_, ⟨rfl⟩⟩
      go_loopg [36] (partsS u (q + 1)).length (fun q3 v36 wx => ∃ (k : Nat) (K : Int) (m : Nat), v36 = .int .i64 K ∧ wx = w7.drewN m ∧ Aside0 (K = (k : Int)) ∧ Aside0 (k + q3 = (partsS u (q + 1)).length) ∧ Aside0 (findC x (q + 1) ((partsS u (q + 1)).drop k) = F))
      case atStart => exact ⟨0, 0, 0, rfl, rfl, ⟨rfl⟩, ⟨by omega⟩, HF0⟩
      case round =>
        obtain ⟨k, K, m, rfl, rfl, HK3, HQ3, HF⟩ := hrel
        have hK := HK3.out; have hQ3 := HQ3.out
        have hlen := partsS_len u (q + 1)
        cases gk with
        | zero =>
          have c1 : decide (K < ((partsS u (q + 1)).length : Int)) = false := decide_eq_false (by omega)
          have hF : F = none := by have := HF.out; rw [List.drop_eq_nil_of_le (by omega)] at this; exact this.symm
          have HR2 : Aside0 (comF u x q = R) := ⟨by have h := HR.out; rw [comF, HF0.out, hF] at h; exact h⟩
          have HN2 : Aside0 (wrap64 (N - 1) = (q : Int)) := ⟨by have := HN.out; have := HQ.out; rw [Go.IntWalk.wrap64_in _ (by omega)]; omega⟩
          clear hK hQ3 hlen hF
          go_wp2
          go_roundg q
          case measure => omega
          case rel => exact ⟨wrap64 (N - 1), (by first | rfl | (simp; done)), HN2, ⟨by have := HQ.out; omega⟩, HR2, ⟨pw_below_drewN HB.out _⟩⟩
        | succ q3 =>
          have c1 : decide (K < ((partsS u (q + 1)).length : Int)) = true := decide_eq_true (by omega)
          have hk : k < (partsS u (q + 1)).length := by omega
          have p1 : 0 ≤ K := by omega
          have q1 : K < ((partsS u (q + 1)).length : Int) := by omega
          obtain ⟨ad, e, hx⟩ := Kd.at_string (Kd.C_drewN HK.out m) K p1 q1
          cases e
          obtain ⟨t, ht⟩ : ∃ t, t = rdOf ByteArray.empty (partsS u (q + 1)) K := ⟨_, rfl⟩
          rw [← ht] at hx
          have hte : t = (partsS u (q + 1))[k] := by rw [ht, hK]; simp [rdOf, hk]
          have hdr : (partsS u (q + 1)).drop k = t :: (partsS u (q + 1)).drop (k + 1) := by rw [hte]; exact List.drop_eq_getElem_cons hk
          obtain ⟨j0, hj0, htj⟩ := mem_partsS.1 (show t ∈ partsS u (q + 1) by rw [hte]; exact List.getElem_mem hk)
          have htz : t.size ≤ maxLen := by rw [← htj, subAt_size _ _ _ (by omega)]; unfold maxLen; omega
          have hkey := keyS_ok t htz
          have HFk := HF.out
          rw [hdr, findC] at HFk
          have hown := groups_below HX.out (pw_below_drewN (Below.refl w7.heap.size w7) m)
          have HK2 : Aside0 (wrap64 (K + 1) = ((k + 1 : Nat) : Int)) := ⟨by rw [Go.IntWalk.wrap64_in _ (by omega)]; omega⟩
          have HQ4 : Aside0 (k + 1 + q3 = (partsS u (q + 1)).length) := ⟨by omega⟩
          replace p1 := eq_true p1
          replace q1 := eq_true q1
          clear hK hQ3 ht hte hdr htj hj0 htz hlen hk
          by_cases hb : posS x (q + 1) t = []
          · rw [if_pos hb] at HFk
            have HF2 := Aside0.mk HFk
            clear HFk
            go_wp2_with (at_lookup; refine wpList_lookup_groups _ rfl _ _ 92 rfl 9 34 3 .i64 law9 Tryd.underlying92 (zero34 _) _ mb _ _ rfl hown (by unfold maxLen; omega) _ _ rfl hkey ?_; intro v61 zs hat hoi hzl hback; clear hback; rw [subG_at] at hat; obtain ⟨rfl, hnil⟩ := at_pos hoi hat; obtain rfl := hnil.2 hb; clear hat hoi hnil)
            try (rw [hq0]; go_wp2)
            go_roundg q3
            case measure => omega
            case rel => exact ⟨k + 1, wrap64 (K + 1), _, (by first | rfl | (simp; done)), rfl, HK2, HQ4, HF2⟩
          · rw [if_neg hb] at HFk
            have HR2 : Aside0 (t = R) := ⟨by have h := HR.out; rw [comF, HF0.out, ← HFk] at h; exact h⟩
            clear HFk
            go_wp2_with (at_lookup; refine wpList_lookup_groups _ rfl _ _ 92 rfl 9 34 3 .i64 law9 Tryd.underlying92 (zero34 _) _ mb _ _ rfl hown (by unfold maxLen; omega) _ _ rfl hkey ?_; intro v61 zs hat hoi hzl hback; clear hback; rw [subG_at] at hat; obtain ⟨rfl, hnil⟩ := at_pos hoi hat; obtain ⟨g9, n9, c9, rfl⟩ : ∃ g9 n9 c9, v61 = .slice (some ⟨g9, 0, none⟩) n9 c9 := (by rcases hoi.1.2 with ⟨rfl, h0⟩ | ⟨g, cap, cur, rfl, _⟩; exact absurd (hnil.1 rfl) hb; exact ⟨_, _, _, rfl⟩); clear hat hoi hnil)
            try (rw [hq1]; go_wp2)
            go_ret2
            exact ⟨by rw [← HR2.out]; rfl, pw_below_drewN HB.out _⟩
/-! for the printer -/
def parse_Common.f (a0 a1 : ByteArray) : Option (ByteArray × Int) := if isWordC a0 = true then (if isWordC a1 = true then some (comF a0 a1 (minS a0 a1), 0) else some (emptyB, 2)) else some (emptyB, 2)
set_option maxHeartbeats 4000000 in
set_option maxRecDepth 1000000 in
theorem parse_Common.calls (a0 a1 : ByteArray) (r1 : ByteArray) (r2 : Int) (w : World) (h : parse_Common.f a0 a1 = some (r1, r2)) :
    Calls Tryd.prog 43 #[.string a0, .string a1] w fun e w' => e = .returned (.tuple #[.string r1, .int .i64 r2]) ∧ Below w.heap.size w w' := by
  have HB := Aside0.mk (Below.refl w.heap.size w)
  have hW := fun W => isWord_calls a0 W
  have hV := fun W => isWord_calls a1 W
  cases hu : isWordC a0 with
  | false =>
    rw [hu] at hW
    simp only [parse_Common.f, hu, Bool.false_eq_true, if_false, Option.some.injEq, Prod.mk.injEq] at h
    obtain ⟨rfl, rfl⟩ := h
    clear hV
    go_enter Tryd.func43, Tryd.ntmps43
    go_wp2_with (go_at_call 62; with_reducible refine (hW _).mono ?_; rintro e w1 ⟨rfl, hb⟩; have n1_ := Aside0.mk (below_step HB.out hb); clear HB hb; have HB := n1_; clear n1_)
    go_ret2
    exact ⟨rfl, HB.out⟩
  | true =>
    cases hx : isWordC a1 with
    | false =>
      rw [hu] at hW
      rw [hx] at hV
      simp only [parse_Common.f, hu, hx, if_true, Bool.false_eq_true, if_false, Option.some.injEq, Prod.mk.injEq] at h
      obtain ⟨rfl, rfl⟩ := h
      go_enter Tryd.func43, Tryd.ntmps43
      go_wp2_with (first
        | (go_at_call 62; with_reducible refine (hW _).mono ?_; rintro e w1 ⟨rfl, hb⟩; have n1_ := Aside0.mk (below_step HB.out hb); clear HB hb; have HB := n1_; clear n1_)
        | (go_at_call 62; with_reducible refine (hV _).mono ?_; rintro e w2 ⟨rfl, hb⟩; have n1_ := Aside0.mk (below_step HB.out hb); clear HB hb; have HB := n1_; clear n1_))
      go_ret2
      exact ⟨rfl, HB.out⟩
    | true =>
      simp only [parse_Common.f, hu, hx, if_true, Option.some.injEq, Prod.mk.injEq] at h
      obtain ⟨rfl, rfl⟩ := h
      exact common_calls a0 a1 hu hx w
end Go.Proofs.YtpeeflkodpnbpaaDoor.Pr
