import Derived.Test.YtpeeflkodpnbpaaDoorHSub
import Derived.Maps.OwnSet
namespace Go.Proofs.YtpeeflkodpnbpaaDoor.Pr
open Go.RowKit Go.WideMaps Go.Maps Go.Proofs.YtpeeflkodpnbpaaDoorW.PrintWords Go.Proofs.YtpeeflkodpnbpaaDoorW.PrintLast Go.Proofs.YtpeeflkodpnbpaaDoorW.PrintMore
set_option linter.unusedVariables false
set_option linter.unusedSimpArgs false

/-- how many different strings of a length -/
def cntS (s : ByteArray) (n : Nat) : Nat := Maps.size (subG (H := Unit) s n (s.size + 1 - n))
theorem substrings_len (s : ByteArray) (n : Nat) (N C : Int) (HN : Aside0 (N = (n : Int))) (HC : Aside0 (C = (cntS s n : Int))) (hs : s.size ≤ 160) (hn : n ≤ s.size) (w : World) :
    Calls Tryd.prog 69 #[.string s, .int .i64 N] w fun e w' => ∃ b, e = .returned (.map (some b)) ∧ (∀ ty, (Builtin.len_ #[92] ty #[.map (some b)]).run Tryd.prog w' = .ok (.int .i64 C) w') ∧ Below w.heap.size w w' := by
  refine (substrings_calls (H := Unit) s n N HN hs hn w).mono ?_
  rintro e w' ⟨rfl, ⟨es, clock, hb, F, hz, hD, _⟩, hbel⟩
  have ho : w'.ownsMap Tryd.prog 9 (rowElem (H := Unit) w' (w.heap.size + 1) 3 .i64) w.heap.size (s.size + 1 - n) (subG (H := Unit) s n (s.size + 1 - n)) := ⟨es, clock, hb, F, hz, hD⟩
  exact ⟨_, rfl, fun ty => by rw [HC.out]; exact ho.len Tryd.underlying92 ty, hbel⟩

def subsF (s : ByteArray) : Nat → Nat → List Int → List Int
  | 0, _, l => l
  | m + 1, n, l => subsF s m (n + 1) (l ++ [(cntS s n : Int)])
def parse_Substrings.f (a0 : ByteArray) : Option (List Int × Int) := if isWordC a0 = true then some (subsF a0 (a0.size + 1) 0 [], 0) else some ([], 2)

set_option maxHeartbeats 4000000 in
set_option maxRecDepth 1000000 in
theorem parse_Substrings.calls (a0 : ByteArray) (r1 : List Int) (r2 : Int) (w : World) (h : parse_Substrings.f a0 = some (r1, r2)) :
    Calls Tryd.prog 32 #[.string a0] w fun e w' => ∃ v0_ : Value, e = .returned (.tuple #[v0_, .int .i64 r2]) ∧ Kd.R (Kd.int .i64) 3 w' w.heap.size (fun _ => True) v0_ r1 ∧ Below w.heap.size w w' := by
  have HB := Aside0.mk (Below.refl w.heap.size w)
  have hW := fun W => isWord_calls a0 W
  cases hc : isWordC a0 with
  | false =>
    rw [hc] at hW
    simp only [parse_Substrings.f, hc, Bool.false_eq_true, if_false, Option.some.injEq, Prod.mk.injEq] at h
    obtain ⟨rfl, rfl⟩ := h
    go_enter Tryd.func32, Tryd.ntmps32
    go_wp2_with (go_at_call 62; refine (hW _).mono ?_; rintro e w1 ⟨rfl, hb⟩)
    go_ret2
    exact ⟨_, rfl, Kd.R_nil _ _ _ _ _, hb⟩
  | true =>
    rw [hc] at hW
    have hsz : a0.size ≤ 160 := ((isWordC_iff a0).1 hc).1
    simp only [parse_Substrings.f, hc, if_true, Option.some.injEq, Prod.mk.injEq] at h
    obtain ⟨h1, rfl⟩ := h
    have H' := Aside0.mk h1
    clear h1
    obtain ⟨M, HM⟩ : ∃ M : Int, Aside0 (M = ((a0.size + 1 : Nat) : Int)) := ⟨_, ⟨rfl⟩⟩
    have hM := HM.out
    have v1 : (IntKind.i64.wrap ((a0.size : Int) + 1)) = M := (i64_w _).trans ((Go.IntWalk.wrap64_in _ (by omega)).trans (by omega))
    have v2 : wrap64 ((a0.size : Int) + 1) = M := (Go.IntWalk.wrap64_in _ (by omega)).trans (by omega)
    clear hM
    go_enter Tryd.func32, Tryd.ntmps32
    go_wp2_with (go_at_call 62; refine (hW _).mono ?_; rintro e w1 ⟨rfl, hb⟩; have HB := Aside0.mk hb; clear hb)
    clear v1 v2
    go_loopg [4, 12] (a0.size + 1) (fun q v4 v12 wx => ∃ (n : Nat) (N : Int) (l : List Int), v12 = .int .i64 N ∧ Aside0 (N = (n : Int)) ∧ Aside0 (n + q = a0.size + 1) ∧ Aside0 (l.length = n) ∧ Aside0 (subsF a0 q n l = r1) ∧ Aside0 (Kd.R (Kd.int .i64) 3 wx w.heap.size (fun _ => True) v4 l) ∧ Aside0 (Below w.heap.size w wx))
    case atStart => exact ⟨0, 0, [], rfl, ⟨rfl⟩, ⟨by omega⟩, ⟨rfl⟩, H', ⟨Kd.R_nil _ _ _ _ _⟩, ⟨by repeat (first | (with_reducible first | exact HB.out | apply below_alloc | apply pw_below_drewN | apply below_drew1) | exact HB.out)⟩⟩
    case round =>
      clear H' HB
      obtain ⟨n, N, l, rfl, HN, HQ, HL, HS, HO, HB⟩ := hrel
      have hN := HN.out; have hQ := HQ.out; have hM := HM.out; have hL := HL.out
      cases gk with
      | zero =>
        have c1 : decide (N < M) = false := decide_eq_false (by omega)
        have hh : l = r1 := HS.out
        subst hh
        clear hN hQ hM hL
        go_wp2
        go_ret2
        exact ⟨_, rfl, (by (with_reducible repeat (first | apply Kd.R_alloc | apply Kd.R_drewN | apply Kd.R_drew)); exact HO.out), HB.out⟩
      | succ q =>
        have c1 : decide (N < M) = true := decide_eq_true (by omega)
        have hn : n ≤ a0.size := by omega
        obtain ⟨C, HC⟩ : ∃ C : Int, Aside0 (C = (cntS a0 n : Int)) := ⟨_, ⟨rfl⟩⟩
        have LM : Aside0 (l.length < 17592186044416) := ⟨by omega⟩
        have HS2 : Aside0 (subsF a0 q (n + 1) (l ++ [C]) = r1) := ⟨by have := HS.out; rw [subsF, ← HC.out] at this; exact this⟩
        have HN2 : Aside0 (wrap64 (N + 1) = ((n + 1 : Nat) : Int)) := ⟨by rw [Go.IntWalk.wrap64_in _ (by omega)]; omega⟩
        have HQ2 : Aside0 (n + 1 + q = a0.size + 1) := ⟨by omega⟩
        have HL2 : Aside0 ((l ++ [C]).length = n + 1) := ⟨by simp [hL]⟩
        clear hN hQ hM hL
        go_wp2_with (first
          | (go_at_call 69; refine (substrings_len a0 n N C HN HC hsz hn _).mono ?_; rintro e w5 ⟨b5, rfl, hlen, hb⟩; have n0_ := Aside0.mk (Kd.R_below (by (with_reducible repeat (first | apply Kd.R_alloc | apply Kd.R_drewN | apply Kd.R_drew)); exact HO.out) hb); have n1_ := Aside0.mk (below_step (by repeat (first | (with_reducible first | exact HB.out | apply below_alloc | apply pw_below_drewN | apply below_drew1) | exact HB.out)) hb); clear HO HB; have HO := n0_; have HB := n1_; clear n0_ n1_ hb)
          | ((with_reducible refine gate_builtin (b := .append) (xs := #[.tmp 15, .tmp 20]) rfl ?_); at_builtin; refine Kd.R_append (Kd.int .i64) (w0 := w) w.heap.size rfl (.tmp 15) (.tmp 20) 34 3 (.int .i64 0) 8 rfl Tryd.underlying34 info3' rfl (by decide) (by omega) u4 l C [.int .i64 C] (fun _ => True) (fun _ => False) rfl rfl ?aP (fun _ hk => hk.elim) ?aF ?aO ?aB ?aS ?aL ?_; (case aP => exact rfl); (case aB => exact (by repeat (first | (with_reducible first | exact HB.out | apply below_alloc | apply pw_below_drewN | apply below_drew1) | exact HB.out))); (case aF => exact (fun _ _ => trivial)); (case aO => exact (by (with_reducible repeat (first | apply Kd.R_alloc | apply Kd.R_drewN | apply Kd.R_drew)); exact HO.out)); (case aS => exact (below_size (by repeat (first | (with_reducible first | exact HB.out | apply below_alloc | apply pw_below_drewN | apply below_drew1) | exact HB.out)))); (case aL => have := LM.out; omega); intro v616 w7 ho hb hg hat; have n1_ := Aside0.mk (hb); have n2_ := Aside0.mk (ho); clear HB HO; have HB := n1_; have HO := n2_; clear n1_ n2_; clear ho hb hg hat))
        go_roundg q
        case measure => omega
        case rel => exact ⟨n + 1, wrap64 (N + 1), l ++ [C], (by first | rfl | (simp; done)), HN2, HQ2, HL2, HS2, ⟨(by (with_reducible repeat (first | apply Kd.R_alloc | apply Kd.R_drewN | apply Kd.R_drew)); exact HO.out)⟩, ⟨by repeat (first | (with_reducible first | exact HB.out | apply below_alloc | apply pw_below_drewN | apply below_drew1) | exact HB.out)⟩⟩
end Go.Proofs.YtpeeflkodpnbpaaDoor.Pr
