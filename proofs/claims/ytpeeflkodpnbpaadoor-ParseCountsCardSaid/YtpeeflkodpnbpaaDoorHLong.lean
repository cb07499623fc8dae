/- Longest's contract: the first one of the longest strings that occur twice, and where, as lonF says. -/
import Derived.Test.YtpeeflkodpnbpaaDoorHKeys
import Derived.RangeFuncBox
import Derived.RegionTactic
import Derived.IntWalk
import Derived.OwnWalk
namespace Go.Proofs.YtpeeflkodpnbpaaDoor.Pr
open Go.RowKit Go.WideMaps Go.Maps Go.Proofs.YtpeeflkodpnbpaaDoorW Go.Proofs.YtpeeflkodpnbpaaDoorW.PrintWords Go.Proofs.YtpeeflkodpnbpaaDoorW.PrintLast Go.Proofs.YtpeeflkodpnbpaaDoorW.PrintMore
set_option linter.unusedVariables false
set_option linter.unusedSimpArgs false

theorem results_tmp4 {fn : Func} {t u v x : Tmp} (h : fn.results = #[.tmp t, .tmp u, .tmp v, .tmp x]) (tmps : Array Value) (P : Program) (w : World) :
    (results fn tmps).run P w = .ok (.tuple #[tmps.getD t undef, tmps.getD u undef, tmps.getD v undef, tmps.getD x undef]) w := by
  simp [results, h]
def findL (s : ByteArray) (n : Nat) : List ByteArray → Option ByteArray
  | [] => none
  | t :: l => if 1 < (posS s n t).length then some t else findL s n l
def lonF (s : ByteArray) : Nat → ByteArray × Int × Int × Int
  | 0 => (emptyB, 0, 0, 6)
  | n + 1 => match findL s (n + 1) (partsS s (n + 1)) with
    | some t => (t, PrintWords.rd (posS s (n + 1) t) 0, PrintWords.rd (posS s (n + 1) t) 1, 0)
    | none => lonF s n
set_option maxHeartbeats 8000000 in
set_option maxRecDepth 1000000 in
theorem longest_calls (u : ByteArray) (hu : isWordC u = true) (w : World) :
    Calls Tryd.prog 47 #[.string u] w fun e w' => e = .returned (.tuple #[.string (lonF u (u.size - 1)).1, .int .i64 (lonF u (u.size - 1)).2.1, .int .i64 (lonF u (u.size - 1)).2.2.1, .int .i64 (lonF u (u.size - 1)).2.2.2]) ∧ Below w.heap.size w w' := by
  obtain ⟨R, hR⟩ : ∃ R, lonF u (u.size - 1) = R := ⟨_, rfl⟩
  rw [hR]
  have H0 := Aside0.mk hR
  clear hR
  have HB := Aside0.mk (Below.refl w.heap.size w)
  have hus : u.size ≤ 160 := ((isWordC_iff u).1 hu).1
  have hW := fun W => isWord_calls u W
  rw [hu] at hW
  obtain ⟨M, HM⟩ : ∃ M : Int, Aside0 (M = (u.size : Int) - 1) := ⟨_, ⟨rfl⟩⟩
  have hM := HM.out
  have v1 : (IntKind.i64.wrap ((u.size : Int) - 1)) = M := (i64_w _).trans ((Go.IntWalk.wrap64_in _ (by omega)).trans (by omega))
  have v2 : wrap64 ((u.size : Int) - 1) = M := (Go.IntWalk.wrap64_in _ (by omega)).trans (by omega)
  clear hu hM
  go_enter Tryd.func47, Tryd.ntmps47
  go_wp2_with (go_at_call 62; with_reducible refine (hW _).mono ?_; rintro e w1 ⟨rfl, hb⟩; have n1_ := Aside0.mk (below_step HB.out hb); clear HB hb; have HB := n1_; clear n1_)
  clear v1 v2 hW
  go_loopg [6] (u.size - 1) (fun q v6 wx => ∃ (N : Int), v6 = .int .i64 N ∧ Aside0 (N = (q : Int) ∨ (q = 0 ∧ N = -1)) ∧ Aside0 (q ≤ u.size - 1) ∧ Aside0 (lonF u q = R) ∧ Aside0 (Below w.heap.size w wx))
  case atStart => exact ⟨M, rfl, ⟨by have := HM.out; omega⟩, ⟨Nat.le_refl _⟩, H0, HB⟩
  case round =>
    clear H0 HB
    obtain ⟨N, rfl, HN0, HQ, HR, HB⟩ := hrel
    have hN := HN0.out; have hQ := HQ.out
    cases gk with
    | zero =>
      have c1 : decide (0 < N) = false := decide_eq_false (by omega)
      have c2 : decide (N > 0) = false := decide_eq_false (by omega)
      have hh : R = (emptyB, 0, 0, 6) := HR.out.symm
      clear hN hQ
      go_wp2
      try simp only [Exit.inBlock, Exit.then]
      refine bodyPost_ret (results_tmp4 rfl _ _ _) rfl ?_
      exact ⟨by first | (rw [hh]; rfl) | rfl, HB.out⟩
    | succ q =>
      have HN : Aside0 (N = ((q + 1 : Nat) : Int)) := ⟨by omega⟩
      have c1 : decide (0 < N) = true := decide_eq_true (by omega)
      have c2 : decide (N > 0) = true := decide_eq_true (by omega)
      have hnu : q + 1 ≤ u.size := by omega
      clear hN hQ HN0
      go_wp2_with (first
        | (go_at_call 69; with_reducible refine (substrings_calls (H := Unit) u (q + 1) N HN hus hnu _).mono ?_; rintro e w5 ⟨rfl, hown, hb⟩; have n1_ := Aside0.mk (below_step HB.out hb); have n3_ := Aside0.mk hown; clear HB hb hown; have HB := n1_; have HO := n3_; clear n1_ n3_)
        | (go_at_call 78; refine (keys_calls _ _).mono ?_; rintro e w6 ⟨rfl, rfl⟩)
        | (go_at_call 77; refine (sorted_calls u (q + 1) hus _ _ _ _ HO.out).mono ?_; rintro e w7 ⟨v53, rfl, hks, hb0⟩; have hb : Below (w5.alloc (.cells #[.map (some wr.heap.size)] 92)).heap.size (w5.alloc (.cells #[.map (some wr.heap.size)] 92)) w7 := (by rw [World.size_alloc]; exact hb0); obtain ⟨A53, c53, rfl, _, hC53⟩ := Kd.R_reads hks; have hal := below_alloc (Below.refl w5.heap.size w5) (.cells #[.map (some wr.heap.size)] 92); have n1_ := Aside0.mk (below_step (below_step HB.out hal) hb); have n2_ := Aside0.mk (groups_below (groups_below HO.out hal) hb); have n4_ := Aside0.mk hC53; clear HB HO hb hb0 hks hC53 hal; have HB := n1_; have HO := n2_; have HK := n4_; clear n1_ n2_ n4_))
      obtain ⟨mb, hmb⟩ : ∃ mb, mb = wr.heap.size := ⟨_, rfl⟩
      rw [← hmb] at HO ⊢
      clear hmb c1 c2
      obtain ⟨F, HF0⟩ : ∃ F, Aside0 (findL u (q + 1) (partsS u (q + 1)) = F) := ⟨_, ⟨rfl⟩⟩
      go_loopg [28] (partsS u (q + 1)).length (fun q3 v36 wx => ∃ (k : Nat) (K : Int) (m : Nat), v36 = .int .i64 K ∧ wx = w7.drewN m ∧ Aside0 (K = (k : Int)) ∧ Aside0 (k + q3 = (partsS u (q + 1)).length) ∧ Aside0 (findL u (q + 1) ((partsS u (q + 1)).drop k) = F))
      case atStart => exact ⟨0, 0, 0, rfl, rfl, ⟨rfl⟩, ⟨by omega⟩, HF0⟩
      case round =>
        obtain ⟨k, K, m, rfl, rfl, HK3, HQ3, HF⟩ := hrel
        have hK := HK3.out; have hQ3 := HQ3.out
        have hlen := partsS_len u (q + 1)
        cases gk with
        | zero =>
          have c1 : decide (K < ((partsS u (q + 1)).length : Int)) = false := decide_eq_false (by omega)
          have hF : F = none := by have := HF.out; rw [List.drop_eq_nil_of_le (by omega)] at this; exact this.symm
          have HR2 : Aside0 (lonF u q = R) := ⟨by have h := HR.out; rw [lonF, HF0.out, hF] at h; exact h⟩
          have HN2 : Aside0 (wrap64 (N - 1) = (q : Int)) := ⟨by have := HN.out; have := HQ.out; rw [Go.IntWalk.wrap64_in _ (by omega)]; omega⟩
          clear hK hQ3 hlen hF
          go_wp2
          go_roundg q
          case measure => omega
          case rel => exact ⟨wrap64 (N - 1), (by first | rfl | (simp; done)), ⟨.inl HN2.out⟩, ⟨by have := HQ.out; omega⟩, HR2, ⟨pw_below_drewN HB.out _⟩⟩
        | succ q3 =>
          have c1 : decide (K < ((partsS u (q + 1)).length : Int)) = true := decide_eq_true (by omega)
          have hk : k < (partsS u (q + 1)).length := by omega
          have p1 : 0 ≤ K := by omega
          have q1 : K < ((partsS u (q + 1)).length : Int) := by omega
          obtain ⟨ad, e, hx⟩ := Kd.at_string (Kd.C_drewN HK.out m) K p1 q1
          cases e
          obtain ⟨t, ht⟩ : ∃ t, t = rdOf ByteArray.empty (partsS u (q + 1)) K := ⟨_, rfl⟩
          rw [← ht] at hx
          have hte : t = (partsS u (q + 1))[k] := by rw [ht, hK]; simp [rdOf, hk]
          have hdr : (partsS u (q + 1)).drop k = t :: (partsS u (q + 1)).drop (k + 1) := by rw [hte]; exact List.drop_eq_getElem_cons hk
          obtain ⟨j0, hj0, htj⟩ := mem_partsS.1 (show t ∈ partsS u (q + 1) by rw [hte]; exact List.getElem_mem hk)
          have htz : t.size ≤ maxLen := by rw [← htj, subAt_size _ _ _ (by omega)]; unfold maxLen; omega
          have hkey := keyS_ok t htz
          have HFk := HF.out
          rw [hdr, findL] at HFk
          have hown := groups_below HO.out (pw_below_drewN (Below.refl w7.heap.size w7) m)
          have HK2 : Aside0 (wrap64 (K + 1) = ((k + 1 : Nat) : Int)) := ⟨by rw [Go.IntWalk.wrap64_in _ (by omega)]; omega⟩
          have HQ4 : Aside0 (k + 1 + q3 = (partsS u (q + 1)).length) := ⟨by omega⟩
          obtain ⟨Z, HZ⟩ : ∃ Z : Int, Aside0 (Z = ((posS u (q + 1) t).length : Int)) := ⟨_, ⟨rfl⟩⟩
          have hZ := HZ.out
          replace p1 := eq_true p1
          replace q1 := eq_true q1
          clear hK hQ3 ht hte hdr htj hj0 htz hlen hk
          by_cases hb : 1 < (posS u (q + 1) t).length
          · rw [if_pos hb] at HFk
            have c3 : decide (Z > 1) = true := decide_eq_true (by omega)
            have c4 : decide (1 < Z) = true := decide_eq_true (by omega)
            have HZ1 := Aside0.mk hb
            have HR2 : Aside0 ((t, PrintWords.rd (posS u (q + 1) t) 0, PrintWords.rd (posS u (q + 1) t) 1, (0 : Int)) = R) := ⟨by have h := HR.out; rw [lonF, HF0.out, ← HFk] at h; exact h⟩
            clear HFk hZ hb
            go_wp2_with (at_lookup; refine wpList_lookup_groups _ rfl _ _ 92 rfl 9 34 3 .i64 law9 Tryd.underlying92 (zero34 _) _ mb _ _ rfl hown (by unfold maxLen; omega) _ _ rfl hkey ?_; intro v61 zs hat hoi hzl hback; clear hback; rw [subG_at] at hat; obtain ⟨hzs, hnil⟩ := at_pos hoi hat; have hzz := Aside0.mk ((show zs = posS u (q + 1) t from hzs)); have hR61 := Kd.R_of_own (enc := Value.int .i64) (h1 := fun _ => rfl) (ok := fun _ => True) hoi.1 (fun _ _ => trivial); obtain ⟨g9, hg9⟩ : ∃ g9 : Nat, ∀ A n c, v61 = .slice A n c → A = some ⟨g9, 0, none⟩ := (by rcases hoi.1.2 with ⟨rfl, h0⟩ | ⟨g, cap, cur, rfl, _⟩; exact absurd h0 (by rw [hzz.out]; have := HZ1.out; omega); exact ⟨g, fun A n c e => by injection e with e1 _ _; exact e1.symm⟩); obtain ⟨A61, c61, rfl, hc61, hC61⟩ := Kd.R_reads hR61; obtain rfl := hg9 _ _ _ rfl; have hlz : (zs.length : Int) = Z := (by rw [hzz.out]; exact HZ.out.symm); obtain ⟨ad6, e6, hy0⟩ := Kd.at_int hC61 0 (by decide) (by rw [hzz.out]; have := HZ1.out; omega); obtain ⟨ad7, e7, hy1⟩ := Kd.at_int hC61 1 (by decide) (by rw [hzz.out]; have := HZ1.out; omega); cases e6; cases e7; have hz0 : w7.cell? ⟨g9, 0, none⟩ = some (.int .i64 (PrintWords.rd zs 0)) := hy0; have hz1 : w7.cell? ⟨g9, 1, none⟩ = some (.int .i64 (PrintWords.rd zs 1)) := hy1; clear hy0 hy1 hg9; have z0 : ((0 : Int) < Z) = True := eq_true (by have := HZ1.out; have := HZ.out; omega); have z1 : ((1 : Int) < Z) = True := eq_true (by have := HZ1.out; have := HZ.out; omega); clear hat hoi hnil hR61 hzs hzl hC61 hc61)
            go_region
            go_wp2
            try simp only [Exit.inBlock, Exit.then]
            refine bodyPost_ret (results_tmp4 rfl _ _ _) rfl ?_
            exact ⟨by first | (rw [← HR2.out, ← hzz.out]; rfl) | (simp [← HR2.out, ← hzz.out]; done), by repeat (first | (with_reducible first | exact HB.out | apply below_alloc | apply pw_below_drewN | apply below_drew1) | exact HB.out)⟩
          · rw [if_neg hb] at HFk
            have c3 : decide (Z > 1) = false := decide_eq_false (by omega)
            have c4 : decide (1 < Z) = false := decide_eq_false (by omega)
            have HF2 := Aside0.mk HFk
            clear HFk hZ hb
            go_wp2_with (at_lookup; refine wpList_lookup_groups _ rfl _ _ 92 rfl 9 34 3 .i64 law9 Tryd.underlying92 (zero34 _) _ mb _ _ rfl hown (by unfold maxLen; omega) _ _ rfl hkey ?_; intro v61 zs hat hoi hzl hback; clear hback; rw [subG_at] at hat; obtain ⟨hzs, hnil⟩ := at_pos hoi hat; have hzz := Aside0.mk ((show zs = posS u (q + 1) t from hzs)); have hR61 := Kd.R_of_own (enc := Value.int .i64) (h1 := fun _ => rfl) (ok := fun _ => True) hoi.1 (fun _ _ => trivial); obtain ⟨A61, c61, rfl, hc61, hC61⟩ := Kd.R_reads hR61; have hlz : (zs.length : Int) = Z := (by rw [hzz.out]; exact HZ.out.symm); clear hat hoi hnil hR61 hzs hzl hC61 hc61)
            go_roundg q3
            case measure => omega
            case rel => exact ⟨k + 1, wrap64 (K + 1), _, (by first | rfl | (simp; done)), rfl, HK2, HQ4, HF2⟩
/-! for the printer -/
def parse_Longest.f (a0 : ByteArray) : Option (ByteArray × Int × Int × Int) := if isWordC a0 = true then some (lonF a0 (a0.size - 1)) else some (emptyB, 0, 0, 2)
set_option maxHeartbeats 4000000 in
set_option maxRecDepth 1000000 in
theorem parse_Longest.calls (a0 : ByteArray) (r1 : ByteArray) (r2 r3 r4 : Int) (w : World) (h : parse_Longest.f a0 = some (r1, r2, r3, r4)) :
    Calls Tryd.prog 47 #[.string a0] w fun e w' => e = .returned (.tuple #[.string r1, .int .i64 r2, .int .i64 r3, .int .i64 r4]) ∧ Below w.heap.size w w' := by
  have HB := Aside0.mk (Below.refl w.heap.size w)
  have hW := fun W => isWord_calls a0 W
  cases hu : isWordC a0 with
  | false =>
    rw [hu] at hW
    simp only [parse_Longest.f, hu, Bool.false_eq_true, if_false, Option.some.injEq, Prod.mk.injEq] at h
    obtain ⟨rfl, rfl, rfl, rfl⟩ := h
    go_enter Tryd.func47, Tryd.ntmps47
    go_wp2_with (go_at_call 62; with_reducible refine (hW _).mono ?_; rintro e w1 ⟨rfl, hb⟩; have n1_ := Aside0.mk (below_step HB.out hb); clear HB hb; have HB := n1_; clear n1_)
    try simp only [Exit.inBlock, Exit.then]
    refine bodyPost_ret (results_tmp4 rfl _ _ _) rfl ?_
    exact ⟨rfl, HB.out⟩
  | true =>
    simp only [parse_Longest.f, hu, if_true, Option.some.injEq] at h
    have := longest_calls a0 hu w
    rw [h] at this
    exact this
end Go.Proofs.YtpeeflkodpnbpaaDoor.Pr
