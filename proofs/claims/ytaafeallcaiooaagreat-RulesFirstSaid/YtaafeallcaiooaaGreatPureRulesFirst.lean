/- RulesFirst: Orient finds the first precedence that proves the rules. -/
import Derived.Test.YtaafeallcaiooaaGreatHEv
import Derived.Test.YtaafeallcaiooaaGreatHEx
import Derived.Test.YtaafeallcaiooaaGreatPrA7
import Derived.Test.YtaafeallcaiooaaGreatHSr
import Derived.Test.YtaafeallcaiooaaGreatDefRulesFirst
/- order makes a precedence of any number. -/
/- order: precedences made from numbers; their ranks differ. -/
namespace Go.Proofs.YtaafeallcaiooaaGreat.Pr
open Go.RowKit Go.Proofs.YtaafeallcaiooaaGreatW.PrintWords Go.Proofs.YtaafeallcaiooaaGreatW.PrintLast Go.Proofs.YtaafeallcaiooaaGreatW.PrintMore
set_option linter.unusedVariables false
set_option linter.unusedSimpArgs false
/-! ### ranks -/
theorem rkL_get {L : List UInt8} (hn : L.Nodup) : ∀ m, m ≤ L.length → ∀ k (h : k < L.length), k < m → getL (rkL (B8 L) m) (L[k].toNat : Int) = some (.int .i64 (k : Int))
  | 0, _, k, _, h => by omega
  | m + 1, hm, k, hk, h => by
    have hml : m < L.length := by omega
    rw [rkL, bAt_list L m hml, getL_put]
    by_cases e : k = m
    · subst e
      rw [if_pos rfl]
    · rw [if_neg (fun h2 => e ((List.getElem_inj hn).1 (UInt8.toNat_inj.1 (by omega))))]
      exact rkL_get hn m (by omega) k hk (by omega)
theorem rank_get {L : List UInt8} (hn : L.Nodup) (k : Nat) (h : k < L.length) : rankP (B8 L) (L[k].toNat : Int) = k := by
  unfold rankP
  rw [B8_size, rkL_get hn L.length (Nat.le_refl _) k h h]
theorem sym_mem {L : List UInt8} (h6 : L.length = 6) (hn : L.Nodup) (hc : ∀ x, x ∈ L → x ∈ c6) (s : Int) (hs : 97 ≤ s ∧ s ≤ 102) : ∃ k, ∃ h : k < L.length, (L[k].toNat : Int) = s := by
  have hx : ∃ x : UInt8, x ∈ c6 ∧ (x.toNat : Int) = s := by
    have : s = 97 ∨ s = 98 ∨ s = 99 ∨ s = 100 ∨ s = 101 ∨ s = 102 := by omega
    rcases this with rfl | rfl | rfl | rfl | rfl | rfl
    · exact ⟨97, by decide, rfl⟩
    · exact ⟨98, by decide, rfl⟩
    · exact ⟨99, by decide, rfl⟩
    · exact ⟨100, by decide, rfl⟩
    · exact ⟨101, by decide, rfl⟩
    · exact ⟨102, by decide, rfl⟩
  obtain ⟨x, hx, rfl⟩ := hx
  obtain ⟨k, hk, rfl⟩ := List.getElem_of_mem (full6 h6 hn hc x hx)
  exact ⟨k, hk, rfl⟩
theorem rank_inj {L : List UInt8} (h6 : L.length = 6) (hn : L.Nodup) (hc : ∀ x, x ∈ L → x ∈ c6) : RankInj (rankP (B8 L)) := by
  intro s s' hs hs' he
  obtain ⟨k, hk, rfl⟩ := sym_mem h6 hn hc s hs
  obtain ⟨j, hj, rfl⟩ := sym_mem h6 hn hc s' hs'
  rw [rank_get hn k hk, rank_get hn j hj] at he
  have : k = j := by omega
  subst this
  rfl
/-! ### order -/
/-- an order of the six symbols -/
def IsPrec (p : ByteArray) : Prop := ∃ L : List UInt8, p = B8 L ∧ L.length = 6 ∧ L.Nodup ∧ ∀ x, x ∈ L → x ∈ c6
theorem IsPrec.ok {p : ByteArray} (h : IsPrec p) : precOk p = true := by
  obtain ⟨L, rfl, h6, hn, hc⟩ := h
  exact prec_perm h6 hn hc
theorem IsPrec.inj {p : ByteArray} (h : IsPrec p) : RankInj (rankP p) := by
  obtain ⟨L, rfl, h6, hn, hc⟩ := h
  exact rank_inj h6 hn hc
theorem IsPrec.size {p : ByteArray} (h : IsPrec p) : p.size = 6 := by
  obtain ⟨L, rfl, h6, hn, hc⟩ := h
  rw [B8_size]; exact h6
def precB (p : ByteArray) : Bool := decide (p.data.toList.length = 6) && (decide p.data.toList.Nodup && p.data.toList.all fun x => decide (x ∈ c6))
theorem precB_is {p : ByteArray} (h : precB p = true) : IsPrec p := by
  unfold precB at h
  rw [Bool.and_eq_true, Bool.and_eq_true, decide_eq_true_iff, decide_eq_true_iff, List.all_eq_true] at h
  exact ⟨p.data.toList, (B8_of p).symm, h.1, h.2.1, fun x hx => of_decide_eq_true (h.2.2 x hx)⟩
def optOk : Option ByteArray → Bool
  | some p => precB p
  | none => false
def ordOk (x : Nat) : Bool := optOk (numnahlaw08_order.l0 10 (x : Int) ⟨#[97]⟩ 1)
theorem ord_all : (List.range 720).all ordOk = true := by kernel_rfl
theorem ord_mono : ∀ (n k : Nat) (x : Int) (o : ByteArray) (i : Int) (r : ByteArray), numnahlaw08_order.l0 k x o i = some r → numnahlaw08_order.l0 (k + n) x o i = some r
  | 0, k, x, o, i, r, h => h
  | n + 1, k, x, o, i, r, h => by
    have h1 := ord_mono n k x o i r h
    exact numnahlaw08_order.mono_l (k + n) x o i r h1
end Go.Proofs.YtaafeallcaiooaaGreat.Pr
namespace Go.Proofs.YtaafeallcaiooaaGreat.Pr
open Go.RowKit Go.Proofs.YtaafeallcaiooaaGreatW.PrintWords Go.Proofs.YtaafeallcaiooaaGreatW.PrintLast Go.Proofs.YtaafeallcaiooaaGreatW.PrintMore
set_option linter.unusedVariables false
set_option linter.unusedSimpArgs false
theorem u64_nn (a : Int) : 0 ≤ IntKind.u64.wrap a := by
  simp only [IntKind.wrap, IntKind.bits, IntKind.signed]
  exact Int.emod_nonneg _ (by decide)
theorem u64_1 : IntKind.u64.wrap 1 = 1 := by decide
theorem u64_720 : IntKind.u64.wrap 720 = 720 := by decide
theorem w64_0 : wrap64 0 = 0 := wr (by omega) (by omega)
theorem mod_1 (a0 : Int) : numnahlaw08_mod.f a0 1 = some 0 := by
  unfold numnahlaw08_mod.f
  rw [u64_1, if_neg (by decide), Int.tmod_one, w64_0]
theorem mod_720 (a0 : Int) : ∃ m : Nat, m < 720 ∧ numnahlaw08_mod.f a0 720 = some (m : Int) := by
  have hu0 := u64_nn a0
  unfold numnahlaw08_mod.f
  rw [u64_720]
  generalize IntKind.u64.wrap a0 = u at *
  refine ⟨(u % 720).toNat, by omega, ?_⟩
  rw [if_neg (by decide), Int.tmod_eq_emod_of_nonneg hu0, wr (by omega) (by omega)]
  congr 1
  omega
theorem order_1 (a0 : Int) (m : Nat) (hm : m < 720) (h2 : numnahlaw08_mod.f a0 720 = some (m : Int)) (k : Nat) : numnahlaw08_order.l0 (k + 1) a0 ⟨#[]⟩ 0 = numnahlaw08_order.l0 k (m : Int) ⟨#[97]⟩ 1 := by
  have hw : wrap64 (0 + 1) = 1 := wr (by omega) (by omega)
  have hd : wrap64 (Int.tdiv (m : Int) 1) = (m : Int) := by rw [Int.tdiv_one]; exact wr (by omega) (by omega)
  rw [numnahlaw08_order.l0, if_pos (by decide), hw, mod_1, h2, Option.bind_some, Option.bind_some, if_neg (by decide), if_pos (by decide), if_pos (by decide), if_pos (by decide), if_pos (by decide), if_pos (by decide), if_pos (by decide), if_pos (by decide), hd]
  rfl
theorem ord_some (o : Option ByteArray) (h : optOk o = true) : ∃ p, o = some p ∧ IsPrec p := by
  cases o with
  | none => cases h
  | some p => exact ⟨p, rfl, precB_is h⟩
theorem ordP (m : Nat) (hm : m < 720) : ∃ p, numnahlaw08_order.l0 10 (m : Int) ⟨#[97]⟩ 1 = some p ∧ IsPrec p := by
  have hk : ordOk m = true := List.all_eq_true.1 ord_all m (List.mem_range.2 hm)
  unfold ordOk at hk
  exact ord_some _ hk
theorem ord_ev {a0 : Int} {m : Nat} {p : ByteArray} (hs : ∀ k, numnahlaw08_order.l0 (k + 1) a0 ⟨#[]⟩ 0 = numnahlaw08_order.l0 k (m : Int) ⟨#[97]⟩ 1) (n : Nat) (hp : numnahlaw08_order.l0 n (m : Int) ⟨#[97]⟩ 1 = some p) : Evt (fun k => numnahlaw08_order.f k a0) p := by
  refine ⟨n + 1, fun k hk => ?_⟩
  have e := hs (k - 1)
  have e4 := ord_mono (k - 1 - n) n (m : Int) ⟨#[97]⟩ 1 p hp
  rw [show k - 1 + 1 = k by omega] at e
  rw [show n + (k - 1 - n) = k - 1 by omega] at e4
  exact e.trans e4
theorem orderE (a0 : Int) : ∃ p, Evt (fun k => numnahlaw08_order.f k a0) p ∧ IsPrec p := by
  obtain ⟨m, hm, h2⟩ := mod_720 a0
  obtain ⟨p, hp, hP⟩ := ordP m hm
  exact ⟨p, ord_ev (order_1 a0 m hm h2) 10 hp, hP⟩
end Go.Proofs.YtaafeallcaiooaaGreat.Pr
namespace Go.Proofs.YtaafeallcaiooaaGreat.Pr
open Go.RowKit Go.Proofs.YtaafeallcaiooaaGreatW.PrintWords Go.Proofs.YtaafeallcaiooaaGreatW.PrintLast Go.Proofs.YtaafeallcaiooaaGreatW.PrintMore
set_option linter.unusedVariables false
set_option linter.unusedSimpArgs false
def Perm6 (L : List UInt8) : Prop := L.length = 6 ∧ L.Nodup ∧ ∀ x, x ∈ L → x ∈ c6
theorem extO_suc (ls : List (Tm × Tm)) (n : Nat) (L : List UInt8) : extO ls (n + 1) L = c6.findSome? fun c => if L.any (fun x => x == c) then none else extO ls n (L ++ [c]) := by rw [extO]
theorem ext_some (ls : List (Tm × Tm)) : ∀ (n : Nat) (L q : List UInt8), L.length + n = 6 → L.Nodup → (∀ x, x ∈ L → x ∈ c6) → extO ls n L = some q → Perm6 q ∧ provT (rankP (B8 q)) ls = true ∧ ∃ r, q = L ++ r
 | 0, L, q, hl, hn, hc, h => by
  rw [extO] at h
  split at h
  ·rename_i hp
   injection h with h
   subst h
   exact ⟨⟨by omega, hn, hc⟩, hp, [], (List.append_nil _).symm⟩
  ·cases h
 | n + 1, L, q, hl, hn, hc, h => by
  rw [extO_suc] at h
  obtain ⟨c, hcm, hf⟩ := List.exists_of_findSome?_eq_some h
  split at hf
  ·cases hf
  ·rename_i hany
   have hcl : c ∉ L := fun hm => hany (List.any_eq_true.2 ⟨c, hm, by simp⟩)
   have h1 := ext_some ls n (L ++ [c]) q (by simp; omega) (List.nodup_append.2 ⟨hn, by simp, fun a ha b hb e => by rw [List.mem_singleton] at hb; subst hb; exact hcl (e ▸ ha)⟩) (fun x hx => by
    rcases List.mem_append.1 hx with hx | hx
    ·exact hc x hx
    ·rw [List.mem_singleton] at hx; exact hx ▸ hcm) hf
   obtain ⟨r, hr⟩ := h1.2.2
   exact ⟨h1.1, h1.2.1, c :: r, by rw [hr]; simp⟩
theorem findSome_first {f : UInt8 → Option (List UInt8)} {c : UInt8} {y : List UInt8} : ∀ {l : List UInt8}, l.Pairwise (· < ·) → c ∈ l → f c = some y → ∃ c' z, l.findSome? f = some z ∧ f c' = some z ∧ c' ∈ l ∧ (c' = c ∨ c' < c)
 | [], _, h, _ => by cases h
 | a :: l, hp, hm, hf => by
  rw [List.findSome?_cons]
  cases ha : f a with
  | some z =>
   refine ⟨a, z, rfl, ha, by simp, ?_⟩
   rcases List.mem_cons.1 hm with rfl | hm
   ·exact .inl rfl
   ·exact .inr ((List.pairwise_cons.1 hp).1 c hm)
  | none =>
   have hm2 : c ∈ l := (List.mem_cons.1 hm).resolve_left (fun e => by rw [e, ha] at hf; cases hf)
   obtain ⟨c', z, h1, h2, h3, h4⟩ := findSome_first (List.pairwise_cons.1 hp).2 hm2 hf
   exact ⟨c', z, h1, h2, List.mem_cons_of_mem _ h3, h4⟩
theorem lt_pre (L : List UInt8) {a b : List UInt8} (h : ¬ a < b) : ¬ (L ++ a) < (L ++ b) := by
 induction L with
 | nil => exact h
 | cons x L ih =>
  rw [List.cons_append, List.cons_append, List.cons_lt_cons_iff]
  rintro (h1 | ⟨_, h1⟩)
  ·exact absurd h1 (UInt8.lt_irrefl _)
  ·exact ih h1
theorem c6_sorted : c6.Pairwise (· < ·) := by decide
theorem ext_least (ls : List (Tm × Tm)) : ∀ (n : Nat) (L r : List UInt8), L.length + n = 6 → r.length = n → (L ++ r).Nodup → (∀ x, x ∈ L ++ r → x ∈ c6) → provT (rankP (B8 (L ++ r))) ls = true → ∃ q, extO ls n L = some q ∧ ¬ (L ++ r) < q
 | 0, L, r, hl, hr, hn, hc, hp => by
  obtain rfl := List.length_eq_zero_iff.1 hr
  rw [List.append_nil] at hp ⊢
  refine ⟨L, ?_, List.lt_irrefl _⟩
  rw [extO, if_pos hp]
 | n + 1, L, r, hl, hr, hn, hc, hp => by
  cases r with
  | nil => cases hr
  | cons c r =>
   rw [List.length_cons] at hr
   have e : L ++ c :: r = (L ++ [c]) ++ r := by simp
   have hcm : c ∈ c6 := hc c (by simp)
   have hna := List.nodup_append.1 hn
   have hcl : c ∉ L := fun h => hna.2.2 c h c (by simp) rfl
   obtain ⟨q', h1, h2⟩ := ext_least ls n (L ++ [c]) r (by simp; omega) (by omega) (e ▸ hn) (e ▸ hc) (e ▸ hp)
   have hf : (fun c => if L.any (fun x => x == c) then none else extO ls n (L ++ [c])) c = some q' := by
    dsimp only
    rw [if_neg, h1]
    rw [List.any_eq_true]
    rintro ⟨x, hx, hxe⟩
    exact hcl ((by simpa using hxe : x = c) ▸ hx)
   obtain ⟨c', z, g1, g2, g3, g4⟩ := findSome_first (f := fun c => if L.any (fun x => x == c) then none else extO ls n (L ++ [c])) (c := c) (y := q') c6_sorted hcm hf
   refine ⟨z, by rw [extO_suc]; exact g1, ?_⟩
   rcases g4 with g4 | g4
   ·subst g4
    have g5 : some q' = some z := hf.symm.trans g2
    injection g5 with g2
    rw [e, ← g2]
    exact h2
   ·split at g2
    ·cases g2
    ·rename_i hany
     have hcl' : c' ∉ L := fun hm => hany (List.any_eq_true.2 ⟨c', hm, by simp⟩)
     obtain ⟨_, _, s, hs⟩ := ext_some ls n (L ++ [c']) z (by simp; omega) (List.nodup_append.2 ⟨hna.1, by simp, fun a ha b hb e => by rw [List.mem_singleton] at hb; subst hb; exact hcl' (e ▸ ha)⟩) (fun x hx => by
      rcases List.mem_append.1 hx with hx | hx
      ·exact hc x (by simp [hx])
      ·rw [List.mem_singleton] at hx; exact hx ▸ g3) g2
     rw [hs, List.append_assoc]
     refine lt_pre L ?_
     rw [List.singleton_append, List.cons_lt_cons_iff]
     rintro (h5 | ⟨h5, _⟩)
     ·exact absurd (UInt8.lt_trans h5 g4) (UInt8.lt_irrefl _)
     ·rw [h5] at g4; exact absurd g4 (UInt8.lt_irrefl _)
theorem perm6_all {L : List UInt8} (h : Perm6 L) : ∀ c, c ∈ c6 → c ∈ L := by
 intro c hc
 refine Decidable.byContradiction fun hn => ?_
 have h1 := nodup_len L (c6.erase c) h.2.1 (fun x hx => (List.mem_erase_of_ne (fun e => hn (by rw [← e]; exact hx))).2 (h.2.2 x hx))
 rw [List.length_erase_of_mem hc] at h1
 have h2 := h.1
 have h3 : c6.length = 6 := rfl
 omega
theorem perm6_is {L : List UInt8} (h : Perm6 L) : IsPrec (B8 L) := ⟨L, rfl, h.1, h.2.1, h.2.2⟩
theorem precL (p : ByteArray) (hs : p.size ≤ 1000) (hall : ∀ c : Int, 97 ≤ c ∧ c ≤ 102 → hasB c p.data.toList = true) : ∀ (n : Nat) (c : Int), 97 ≤ c → c + n = 103 → Evt (fun k => numnahref08_Precedence.l0 k p c) ((p.size : Int) == 6)
 | 0, c, h1, h2 => Evt.now fun k => by rw [numnahref08_Precedence.l0, if_neg (by omega)]
 | n + 1, c, h1, h2 => by
  refine Evt.step (g' := fun k => (numnahref08_occurs.f k c p).bind fun t411 => (if t411 = true then (numnahref08_Precedence.l0 k p (c + 1)) else (some false))) (fun k => ?_) ?_
  ·rw [numnahref08_Precedence.l0, if_pos (by omega), show (c + 1) % 256 = c + 1 by omega]
  refine Evt.bind (occursE c p (by omega)) ?_
  rw [hall c (by omega)]
  exact Evt.pos rfl (precL p hs hall n (c + 1) (by omega) (by omega))
theorem precE {L : List UInt8} (h : Perm6 L) : Evt (fun k => numnahref08_Precedence.f k (B8 L)) true := by
 have hs : (B8 L).size = 6 := by rw [B8_size]; exact h.1
 refine (precL (B8 L) (by omega) (fun c hc => ?_) 6 97 (by omega) (by omega)).val (by rw [hs]; rfl)
 rw [B8_list, hasB_iff]
 have : c = 97 ∨ c = 98 ∨ c = 99 ∨ c = 100 ∨ c = 101 ∨ c = 102 := by omega
 rcases this with rfl | rfl | rfl | rfl | rfl | rfl
 ·exact ⟨97, perm6_all h 97 (by decide), rfl⟩
 ·exact ⟨98, perm6_all h 98 (by decide), rfl⟩
 ·exact ⟨99, perm6_all h 99 (by decide), rfl⟩
 ·exact ⟨100, perm6_all h 100 (by decide), rfl⟩
 ·exact ⟨101, perm6_all h 101 (by decide), rfl⟩
 ·exact ⟨102, perm6_all h 102 (by decide), rfl⟩
theorem first_all (l : List ByteArray) (hl : okStr l) (a1 : Int) : Evt (fun k => numnahlaw08_RulesFirst.f k l a1) true := by
 obtain ⟨p, hE, hP⟩ := orderE a1
 have hM := made_f hl
 obtain ⟨R, hR⟩ : ∃ R, R = (madeT l).map toS := ⟨_, rfl⟩
 obtain ⟨ls, hls⟩ : ∃ ls, ls = madeT l := ⟨_, rfl⟩
 have hN : newLawsT R = some ls := by rw [hR, hls]; exact madeT_laws hl
 rw [← hR] at hM
 have hO : rules_Orient.f R = some ((orientT R).2, (orientT R).1) := rfl
 have hps := hP.size
 have hV : rules_Proves.f R p = some (if provT (rankP p) ls then 0 else 10) := by
  unfold rules_Proves.f provesE
  rw [if_pos (by omega), hN]
  dsimp only
  rw [hP.ok]
 unfold numnahlaw08_RulesFirst.f
 simp only [hM, Option.bind_some]
 refine Evt.bind hE ?_
 simp only [hO, hV, Option.bind_some]
 obtain ⟨Lp, rfl, h6, hnd, hc6⟩ := hP
 cases hx : extO ls 6 [] with
 | none =>
  have eo : orientT R = (6, ⟨#[]⟩) := by unfold orientT; rw [hN]; dsimp only; rw [hx]
  have hnp : provT (rankP (B8 Lp)) ls = false := by
   rw [← Bool.not_eq_true]
   intro h
   obtain ⟨q, h1, _⟩ := ext_least ls 6 [] Lp (by simp) h6 hnd hc6 h
   rw [hx] at h1
   cases h1
  rw [eo, hnp]
  dsimp only
  exact Evt.neg (by omega) (Evt.pos rfl (Evt.pos (by simp) awakeF))
 | some q =>
  have eo : orientT R = (0, B8 q) := by unfold orientT; rw [hN]; dsimp only; rw [hx]
  obtain ⟨hq, hpv, _⟩ := ext_some ls 6 [] q (by simp) (by simp) (by simp) hx
  have hqi := perm6_is hq
  have hqs := hqi.size
  have hV2 : rules_Proves.f R (B8 q) = some 0 := by
   unfold rules_Proves.f provesE
   rw [if_pos (by omega), hN]
   dsimp only
   rw [hqi.ok]
   dsimp only
   rw [if_pos hpv]
  rw [eo]
  dsimp only
  refine Evt.pos rfl (Evt.bind (precE hq) (Evt.pos rfl ?_))
  simp only [hV2, Option.bind_some]
  refine Evt.pos (by trivial) ?_
  cases hb : provT (rankP (B8 Lp)) ls with
  | true =>
   obtain ⟨q', h1, h2⟩ := ext_least ls 6 [] Lp (by simp) h6 hnd hc6 hb
   rw [hx] at h1
   injection h1 with h1
   subst h1
   rw [List.nil_append] at h2
   refine Evt.pos (by simp) (Evt.neg ?_ awakeF)
   rw [less_iff, B8_list, B8_list]
   exact h2
  | false =>
   refine Evt.neg (by simp) (Evt.pos (by simp) (Evt.neg (fun e => ?_) awakeF))
   have e2 : Lp = q := by
    rw [ByteArray.toList_eq, ByteArray.toList_eq, B8_list, B8_list] at e
    exact e
   rw [e2, hpv] at hb
   cases hb
end Go.Proofs.YtaafeallcaiooaaGreat.Pr
namespace Go.Proofs.YtaafeallcaiooaaGreat.Pure
open Go.RowKit Go.Proofs.YtaafeallcaiooaaGreat.Pr Go.Proofs.YtaafeallcaiooaaGreatW.PrintWords Go.Proofs.YtaafeallcaiooaaGreatW.PrintLast
theorem RulesFirst : numnahlaw08_RulesFirst.Pure := by
 intro l a _ _ h _
 exact (first_all l (fun x hx => Nat.le_trans (h x hx) (by decide)) a).ex
end Go.Proofs.YtaafeallcaiooaaGreat.Pure
-- indented by one
