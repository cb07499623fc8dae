/- ParseNested, plainly: there is one substring of length 0 and one of the length of the word, each substring continues by at most 4 letters, and one more letter at the end of a word adds at most one substring of each length. -/
import Derived.Test.YtpeeflkodpnbpaaDoorPrB4
import Derived.Test.YtpeeflkodpnbpaaDoorHAw
import Derived.Test.YtpeeflkodpnbpaaDoorHTame
import Derived.Test.YtpeeflkodpnbpaaDoorHCnt
namespace Go.Proofs.YtpeeflkodpnbpaaDoor.Pure
open Go.RowKit Go.Proofs.YtpeeflkodpnbpaaDoor.Pr Go.Proofs.YtpeeflkodpnbpaaDoorW.PrintWords Go.Proofs.YtpeeflkodpnbpaaDoorW.PrintLast
set_option linter.unusedVariables false

theorem nested_l0 (s p : ByteArray) (hs : s.size ≤ 100) (hp : p.size = 1) (hw : isWordC s = true) : ∀ (m k : Nat), k + m = s.size + 1 → Evt (fun K => numnahlaw09_ParseNested.l0 K s (subsL s) (subsL (s ++ p)) (k : Int)) true
  | 0, k, hk => by
    refine Evt.step (fun K => ?_) awake_bind
    rw [numnahlaw09_ParseNested.l0, if_neg (by omega)]
  | m + 1, k, hk => by
    have hz : (s ++ p).size = s.size + 1 := by rw [ByteArray.size_append, hp]
    have hks : k ≤ s.size := by omega
    have e1 := subsL_rd s k hks
    have e2 := subsL_rd (s ++ p) k (by omega)
    have l1 := subsL_len s
    have l2 := subsL_len (s ++ p)
    have g1 := cnt_app_le s p k
    have g2 := cnt_app_one s p hp k hks
    have g3 := cnt_le_pos s k
    have HA : ∀ q, k = q + 1 → ∃ c : Nat, rd (subsL s) (q : Int) = c ∧ cntS s k ≤ 4 * c ∧ c ≤ s.size + 1 := fun q hq => ⟨cntS s q, subsL_rd s q (by omega), hq ▸ cnt_four s hw q, by have := cnt_le_pos s q; omega⟩
    have ih := Aside0.mk (nested_l0 s p hs hp hw m (k + 1) (by omega))
    obtain ⟨a, ha⟩ : ∃ a, cntS s k = a := ⟨_, rfl⟩
    obtain ⟨b, hb⟩ : ∃ b, cntS (s ++ p) k = b := ⟨_, rfl⟩
    rw [ha] at e1 g1 g2 g3 HA
    rw [hb] at e2 g1 g2
    have HE := Aside0.mk (⟨e1, e2⟩ : rd (subsL s) (k : Int) = a ∧ rd (subsL (s ++ p)) (k : Int) = b)
    have HQ := Aside0.mk HA
    clear e1 e2 HA ha hb
    have HL := Aside0.mk (⟨by omega, by omega⟩ : (k : Int) < ((subsL (s ++ p)).length : Int) ∧ (k : Int) < ((subsL s).length : Int))
    clear l1 l2
    have n1 : Aside0 (¬ (b : Int) < (a : Int)) := ⟨by omega⟩
    have n2 : Aside0 (¬ (b : Int) > (a : Int) + 1) := ⟨by omega⟩
    have n3 : Aside0 (¬ (a : Int) > (s.size : Int) + 1 - (k : Int)) := ⟨by omega⟩
    have p1 : Aside0 ((k : Int) ≤ (s.size : Int)) := ⟨by omega⟩
    have p2 : Aside0 ((0 : Int) ≤ (k : Int)) := ⟨by omega⟩
    have w1 : Aside0 (wrap64 ((a : Int) + 1) = (a : Int) + 1) := ⟨wr (by omega) (by omega)⟩
    have w2 : Aside0 (wrap64 ((s.size : Int) + 1) = (s.size : Int) + 1) := ⟨wr (by omega) (by omega)⟩
    have w3 : Aside0 (wrap64 ((s.size : Int) + 1 - (k : Int)) = (s.size : Int) + 1 - (k : Int)) := ⟨wr (by omega) (by omega)⟩
    have w4 : Aside0 (wrap64 ((k : Int) + 1) = ((k + 1 : Nat) : Int)) := ⟨(wr (by omega) (by omega)).trans (by omega)⟩
    have hc : Aside0 ((k : Int) > 0 → ∃ q d : Nat, rd (subsL s) (q : Int) = d ∧ wrap64 ((k : Int) - 1) = (q : Int) ∧ wrap64 (4 * (d : Int)) = 4 * (d : Int) ∧ ¬ (a : Int) > 4 * (d : Int) ∧ (0 : Int) ≤ (q : Int) ∧ (q : Int) < ((subsL s).length : Int)) := ⟨fun c => by
      obtain ⟨q, hq⟩ : ∃ q, k = q + 1 := ⟨k - 1, by omega⟩
      obtain ⟨d, h1, h2, h3⟩ := HQ.out q hq
      have h4 := HL.out.2
      exact ⟨q, d, h1, (wr (by omega) (by omega)).trans (by omega), wr (by omega) (by omega), by omega, by omega, by omega⟩⟩
    clear g1 g2 g3 hz
    refine Evt.step (fun K => ?_) ih.out
    rw [numnahlaw09_ParseNested.l0, if_pos p1.out, if_pos p2.out, if_pos HL.out.1, if_pos HL.out.2, HE.out.1, HE.out.2, if_neg n1.out, w1.out, if_neg n2.out, w2.out, w3.out, if_neg n3.out]
    by_cases c : (k : Int) > 0
    · obtain ⟨q, d, h1, h2, h3, h4, h5, h6⟩ := hc.out c
      rw [if_pos c, h2, if_pos h5, if_pos h6, h1, h3, if_neg h4, w4.out]
    · rw [if_neg c, w4.out]
theorem ParseNested : numnahlaw09_ParseNested.Pure := by
  intro a0 a1 h0
  intros
  apply Evt.ex
  obtain ⟨s, hs, hw, ht⟩ := tame_ev a0 h0 100 (by omega)
  obtain ⟨r, hr, hm⟩ := mod_some a1 4 (by omega) (by omega)
  show Evt (fun k => numnahlaw09_ParseNested.f k a0 a1) true
  have hm' : numnahlaw09_mod.f a1 4 = some (r : Int) := hm
  unfold numnahlaw09_ParseNested.f
  refine Evt.bind ht (Evt.bind (Evt.all (fun _ => hm')) ?_)
  have w1 : wrap64 ((r : Int) + 1) = ((r + 1 : Nat) : Int) := (wr (by omega) (by omega)).trans (by omega)
  obtain ⟨p, hp⟩ : ∃ p, (⟨#[97, 98, 99, 100]⟩ : ByteArray).extract (r : Int).toNat ((r + 1 : Nat) : Int).toNat = p := ⟨_, rfl⟩
  have hpz : p.size = 1 := by
    rw [← hp, ByteArray.size_extract, Int.toNat_natCast, Int.toNat_natCast]
    have : (⟨#[97, 98, 99, 100]⟩ : ByteArray).size = 4 := rfl
    omega
  have hpm : ∀ c, c ∈ bl p → c = 97 ∨ c = 98 ∨ c = 99 ∨ c = 100 := by
    intro c hc
    rw [← hp, bl_extract] at hc
    have := List.mem_of_mem_drop (List.mem_of_mem_take hc)
    have h4 : c ∈ ([97, 98, 99, 100] : List UInt8) := this
    simpa using h4
  have hw2 : isWordC (s ++ p) = true := by
    refine word_of_mem _ (by rw [ByteArray.size_append]; omega) (fun c hc => ?_)
    rw [bl_append] at hc
    rcases List.mem_append.1 hc with hc | hc
    · exact ok_mem s hw c hc
    · exact hpm c hc
  rw [w1, hp]
  refine Evt.pos (by omega) (Evt.pos (by omega) (Evt.pos (by omega) (Evt.pos (by omega) ?_)))
  refine Evt.bind (Evt.all (fun _ => subs_some s hw)) (Evt.bind (Evt.all (fun _ => subs_some _ hw2)) ?_)
  have l1 := subsL_len s
  have l2 := subsL_len (s ++ p)
  have hz : (s ++ p).size = s.size + 1 := by rw [ByteArray.size_append, hpz]
  have w2 : wrap64 ((s.size : Int) + 1) = (s.size : Int) + 1 := wr (by omega) (by omega)
  have w3 : wrap64 ((s.size : Int) + 2) = (s.size : Int) + 2 := wr (by omega) (by omega)
  dsimp only
  rw [w2, w3]
  have e0 := subsL_rd s 0 (by omega)
  rw [cnt_zero] at e0
  have e1 := subsL_rd s s.size (by omega)
  rw [cnt_full] at e1
  refine Evt.pos rfl (Evt.pos rfl (Evt.pos (by omega) (Evt.pos (by omega) (Evt.pos (by omega) (Evt.pos e0 (Evt.pos (by omega) (Evt.pos (by omega) ?_)))))))
  rw [e1]
  refine Evt.step (g' := fun k => numnahlaw09_ParseNested.l0 k s (subsL s) (subsL (s ++ p)) ((0 : Nat) : Int)) (fun k => ?_) (nested_l0 s p hs hpz hw (s.size + 1) 0 (by omega))
  rw [numnahlaw09_ParseNested.j0, if_neg (by decide)]
  rfl
end Go.Proofs.YtpeeflkodpnbpaaDoor.Pure
