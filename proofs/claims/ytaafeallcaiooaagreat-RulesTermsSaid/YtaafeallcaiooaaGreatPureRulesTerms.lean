/- RulesTerms: Size and Match answer as the reference says. -/
import Derived.Test.YtaafeallcaiooaaGreatHGt0
import Derived.Test.YtaafeallcaiooaaGreatHRm
import Derived.Test.YtaafeallcaiooaaGreatHRt2
import Derived.Test.YtaafeallcaiooaaGreatPrB1
import Derived.Test.YtaafeallcaiooaaGreatHOt
import Derived.Test.YtaafeallcaiooaaGreatHGw
import Derived.Test.YtaafeallcaiooaaGreatHAp
import Derived.Test.YtaafeallcaiooaaGreatPrD9
/- the path order: transitive, irreflexive, total on terms without variables, stable. -/
namespace Go.Proofs.YtaafeallcaiooaaGreat.Pr
open Go.RowKit
set_option linter.unusedVariables false
set_option linter.unusedSimpArgs false
theorem same_iff {a b : Tm} (ha : a.good) (hb : b.good) : sameB a b = true ↔ a = b := by
  rw [sameB_eq ha hb, decide_eq_true_iff]
  exact ⟨text_inj ha hb, fun h => by rw [h]⟩
theorem same_refl (a : Tm) : sameB a a = true := by unfold sameB; simp
theorem occ_app (v s : Int) (l : List Tm) : occT v (.app s l) = l.any (occT v) := by
  unfold occT
  rw [Tm.subs, List.any_cons]
  have : isVar v (.app s l) = false := by rfl
  rw [this, Bool.false_or]
  clear this
  induction l with
  | nil => rfl
  | cons t l ih => rw [Tm.subsL, List.any_append, List.any_cons, ih]
theorem occ_var (v c : Int) : occT v (.var c) = decide (v = c) := by
  unfold occT
  rw [Tm.subs]
  by_cases h : v = c
  · subst h; simp [isVar]
  · simp [isVar, h, show ¬ c = v from fun e => h e.symm]
/-- the greater one is made of a symbol -/
theorem gt_isApp {r : Int → Int} {a b : Tm} (h : gt r a b = true) : ∃ s l, a = .app s l := by
  cases a with
  | var c =>
    exfalso
    cases b with
    | var v => rw [gt_var] at h; cases h
    | app s l => rw [gt_va] at h; cases h
  | app s l => exact ⟨s, l, rfl⟩
theorem gt_v {r : Int → Int} {s v : Int} {l : List Tm} : gt r (.app s l) (.var v) = occT v (.app s l) := gt_var r _ v
/-- what makes a term greater than a compound one -/
theorem gt_iff {r : Int → Int} {s s' : Int} {l l' : List Tm} (ha : (Tm.app s l).good) (hb : (Tm.app s' l').good) : gt r (.app s l) (.app s' l') = true ↔
    (∃ t, t ∈ l ∧ (t = .app s' l' ∨ gt r t (.app s' l') = true)) ∨ (¬ r s > r s' ∧ (∀ u, u ∈ l' → gt r (.app s l) u = true) ∧ (s ≠ s' ∨ (s = s' ∧ lexF (gt r) l l' = true))) := by
  have hga := ha
  rw [Tm.good] at hga
  have h1 : (l.any (fun t => sameB t (.app s' l') || gt r t (.app s' l'))) = true ↔ ∃ t, t ∈ l ∧ (t = .app s' l' ∨ gt r t (.app s' l') = true) := by
    rw [List.any_eq_true]
    exact ⟨fun ⟨t, h, h2⟩ => ⟨t, h, (Bool.or_eq_true _ _ ▸ h2).imp (fun h3 => (same_iff (goods_mem hga.2.2 h) hb).1 h3) id⟩, fun ⟨t, h, h2⟩ => ⟨t, h, by
      rw [Bool.or_eq_true]
      exact h2.imp (fun h3 => (same_iff (goods_mem hga.2.2 h) hb).2 h3) id⟩⟩
  have h2 : (l'.all (fun u => gt r (.app s l) u)) = true ↔ ∀ u, u ∈ l' → gt r (.app s l) u = true := List.all_eq_true
  rw [gt_app, ← h1, ← h2]
  split
  · rename_i h; simp [h]
  · rename_i h
    split
    · rename_i hr
      exact ⟨fun e => (by cases e), fun e => by rcases e with e | e; exact absurd e h; exact absurd hr e.1⟩
    · rename_i hr
      split
      · rename_i hn
        exact ⟨fun e => (by cases e), fun e => by
          rcases e with e | e
          · exact absurd e h
          · rw [e.2.1] at hn; cases hn⟩
      · rename_i hn
        have hn2 : (l'.all fun u => gt r (.app s l) u) = true := by
          cases hx : (l'.all fun u => gt r (.app s l) u) with
          | true => rfl
          | false => rw [hx] at hn; exact absurd rfl hn
        by_cases hs : s = s'
        · rw [if_neg (fun e => e hs)]
          exact ⟨fun e => .inr ⟨hr, hn2, .inr ⟨hs, e⟩⟩, fun e => by
            rcases e with e | ⟨_, _, e | e⟩
            · exact absurd e h
            · exact absurd hs e
            · exact e.2⟩
        · rw [if_pos hs]
          exact ⟨fun _ => .inr ⟨hr, hn2, .inl hs⟩, fun _ => rfl⟩
/-- a term is greater than what its parts are, or are greater than -/
theorem gt_part {r : Int → Int} {s : Int} {l : List Tm} {t u : Tm} (ha : (Tm.app s l).good) (hu : u.good) (hm : t ∈ l) (h : t = u ∨ gt r t u = true) : gt r (.app s l) u = true := by
  cases u with
  | var v =>
    rw [gt_v, occ_app]
    refine List.any_eq_true.2 ⟨t, hm, ?_⟩
    rcases h with rfl | h
    · rw [occ_var]; simp
    · obtain ⟨s2, l2, rfl⟩ := gt_isApp h
      rwa [gt_v] at h
  | app s' l' => exact (gt_iff ha hu).2 (.inl ⟨t, hm, h⟩)
/-- variables of the smaller one are in the greater one -/
theorem gt_occ {r : Int → Int} : ∀ (n : Nat) (a b : Tm), a.size + b.size ≤ n → a.good → b.good → gt r a b = true → ∀ v, occT v b = true → occT v a = true
  | 0, a, b, hn, _, _, _, _, _ => by have := Tm.size_pos a; have := Tm.size_pos b; omega
  | n + 1, a, b, hn, ha, hb, h, v, hv => by
    obtain ⟨s, l, rfl⟩ := gt_isApp h
    have e1 := Tm.size.eq_2 s l
    have hga := ha
    rw [Tm.good] at hga
    cases b with
    | var c =>
      rw [gt_v] at h
      rw [occ_var, decide_eq_true_iff] at hv
      subst hv
      exact h
    | app s' l' =>
      have e2 := Tm.size.eq_2 s' l'
      have hgb := hb
      rw [Tm.good] at hgb
      rcases (gt_iff ha hb).1 h with ⟨t, ht, h2⟩ | ⟨_, h2, _⟩
      · rw [occ_app]
        refine List.any_eq_true.2 ⟨t, ht, ?_⟩
        rcases h2 with rfl | h2
        · exact hv
        · exact gt_occ n t _ (by have := sizes_mem l t ht; omega) (goods_mem hga.2.2 ht) hb h2 v hv
      · rw [occ_app] at hv
        obtain ⟨u, hu, hv2⟩ := List.any_eq_true.1 hv
        exact gt_occ n _ u (by have := sizes_mem l' u hu; omega) ha (goods_mem hgb.2.2 hu) (h2 u hu) v hv2
theorem lex_trans {g : Tm → Tm → Bool} : ∀ (l m k : List Tm), (∀ t, t ∈ l ++ m ++ k → t.good) → (∀ x y z, x ∈ l → y ∈ m → z ∈ k → g x y = true → g y z = true → g x z = true) →
    (∀ x z, x ∈ l → z ∈ k → g x z = true → x ≠ z) → lexF g l m = true → lexF g m k = true → lexF g l k = true
  | [], _, _, _, _, _, h, _ => by rw [lexF] at h; cases h; (intros; simp_all)
  | _ :: _, [], _, _, _, _, h, _ => by rw [lexF] at h; cases h; (intros; simp_all)
  | _ :: _, _ :: _, [], _, _, _, _, h => by rw [lexF] at h; cases h; (intros; simp_all)
  | x :: l, y :: m, z :: k, hg, ht, hi, h1, h2 => by
    have gx := hg x (by simp)
    have gy := hg y (by simp)
    have gz := hg z (by simp)
    rw [lexF] at h1 h2 ⊢
    by_cases e1 : sameB x y = true
    · rw [if_pos e1] at h1
      obtain rfl := (same_iff gx gy).1 e1
      by_cases e2 : sameB x z = true
      · rw [if_pos e2] at h2
        rw [if_pos e2]
        exact lex_trans l m k (fun t h => hg t (by simp at h ⊢; rcases h with h | h | h <;> simp [h])) (fun a b c ha hb hc => ht a b c (by simp [ha]) (by simp [hb]) (by simp [hc])) (fun a c ha hc => hi a c (by simp [ha]) (by simp [hc])) h1 h2
      · rw [if_neg e2] at h2
        rw [if_neg e2]
        exact h2
    · rw [if_neg e1] at h1
      by_cases e2 : sameB y z = true
      · obtain rfl := (same_iff gy gz).1 e2
        rw [if_neg e1]
        exact h1
      · rw [if_neg e2] at h2
        have h3 := ht x y z (by simp) (by simp) (by simp) h1 h2
        rw [if_neg (fun e => hi x z (by simp) (by simp) h3 ((same_iff gx gz).1 e))]
        exact h3
/-- ranks of different symbols differ -/
def RankInj (r : Int → Int) : Prop := ∀ s s' : Int, 97 ≤ s ∧ s ≤ 102 → 97 ≤ s' ∧ s' ≤ 102 → r s = r s' → s = s'
theorem lex_self {g : Tm → Tm → Bool} : ∀ l : List Tm, lexF g l l = false
  | [] => rfl
  | t :: l => by rw [lexF, if_pos (same_refl t)]; exact lex_self l
/-- a term is greater than the parts of what it is greater than -/
theorem gt_sub {r : Int → Int} {s' : Int} {l' : List Tm} (hb : (Tm.app s' l').good) {u : Tm} (hu : u ∈ l') : ∀ (n : Nat) (a : Tm), a.size ≤ n → a.good → gt r a (.app s' l') = true → gt r a u = true
  | 0, a, hn, _, _ => by have := Tm.size_pos a; omega
  | n + 1, a, hn, ha, h => by
    obtain ⟨s, l, rfl⟩ := gt_isApp h
    have e1 := Tm.size.eq_2 s l
    have hga := ha
    have hgb := hb
    rw [Tm.good] at hga hgb
    have hug := goods_mem hgb.2.2 hu
    rcases (gt_iff ha hb).1 h with ⟨t, ht, h3⟩ | ⟨_, h2, _⟩
    · refine gt_part ha hug ht (.inr ?_)
      rcases h3 with rfl | h3
      · exact gt_part hb hug hu (.inl rfl)
      · exact gt_sub hb hu n t (by have := sizes_mem l t ht; omega) (goods_mem hga.2.2 ht) h3
    · exact h2 u hu
theorem gt_irr {r : Int → Int} : ∀ (n : Nat) (a : Tm), a.size ≤ n → a.good → gt r a a = false
  | 0, a, hn, _ => by have := Tm.size_pos a; omega
  | n + 1, .var c, hn, ha => by rw [gt_var]
  | n + 1, .app s l, hn, ha => by
    have e1 := Tm.size.eq_2 s l
    have hga := ha
    rw [Tm.good] at hga
    cases hx : gt r (.app s l) (.app s l) with
    | false => rfl
    | true =>
      exfalso
      rcases (gt_iff ha ha).1 hx with ⟨t, ht, h3⟩ | ⟨_, _, h | ⟨_, h⟩⟩
      · have h4 := sizes_mem l t ht
        rcases h3 with rfl | h3
        · omega
        · have h5 := gt_sub (r := r) ha ht _ t (Int.self_le_toNat _) (goods_mem hga.2.2 ht) h3
          rw [gt_irr n t (by omega) (goods_mem hga.2.2 ht)] at h5
          cases h5
      · exact h rfl
      · rw [lex_self] at h; cases h
theorem gt_irrefl {r : Int → Int} {a : Tm} (ha : a.good) : gt r a a = false := gt_irr _ a (Int.self_le_toNat _) ha
theorem gt_trn {r : Int → Int} (hr : RankInj r) : ∀ (n : Nat) (a b c : Tm), a.size + b.size + c.size ≤ n → a.good → b.good → c.good → gt r a b = true → gt r b c = true → gt r a c = true
  | 0, a, b, c, hn, _, _, _, _, _ => by have := Tm.size_pos a; have := Tm.size_pos b; have := Tm.size_pos c; omega
  | n + 1, a, b, c, hn, ha, hb, hc, h1, h2 => by
    have ih1 := gt_trn hr n
    obtain ⟨s, l, rfl⟩ := gt_isApp h1
    obtain ⟨s', l', rfl⟩ := gt_isApp h2
    have e1 := Tm.size.eq_2 s l
    have e2 := Tm.size.eq_2 s' l'
    have hga := ha
    have hgb := hb
    rw [Tm.good] at hga hgb
    cases c with
    | var v =>
      rw [gt_v] at h2 ⊢
      exact gt_occ _ _ _ (Int.self_le_toNat _) ha hb h1 v h2
    | app s'' l'' =>
      have e3 := Tm.size.eq_2 s'' l''
      have hgc := hc
      rw [Tm.good] at hgc
      rcases (gt_iff ha hb).1 h1 with ⟨t, ht, h3⟩ | ⟨hr1, hall1, hor1⟩
      · refine gt_part ha hc ht (.inr ?_)
        rcases h3 with rfl | h3
        · exact h2
        · exact ih1 t _ _ (by have := sizes_mem l t ht; omega) (goods_mem hga.2.2 ht) hb hc h3 h2
      · rcases (gt_iff hb hc).1 h2 with ⟨u, hu, h3⟩ | ⟨hr2, hall2, hor2⟩
        · have h4 := hall1 u hu
          rcases h3 with rfl | h3
          · exact h4
          · exact ih1 _ u _ (by have := sizes_mem l' u hu; omega) ha (goods_mem hgb.2.2 hu) hc h4 h3
        · refine (gt_iff ha hc).2 (.inr ⟨by omega, fun w hw => ih1 _ _ w (by have := sizes_mem l'' w hw; omega) ha hb (goods_mem hgc.2.2 hw) h1 (hall2 w hw), ?_⟩)
          by_cases hs : s = s''
          · refine .inr ⟨hs, ?_⟩
            have hss : s = s' := hr s s' hga.1 hgb.1 (by subst hs; omega)
            rcases hor1 with h | ⟨_, hl1⟩
            · exact absurd hss h
            · rcases hor2 with h | ⟨_, hl2⟩
              · exact absurd (hss.symm.trans hs) h
              · refine lex_trans l l' l'' ?_ (fun x y z hx hy hz => ih1 x y z (by have := sizes_mem l x hx; have := sizes_mem l' y hy; have := sizes_mem l'' z hz; omega) (goods_mem hga.2.2 hx) (goods_mem hgb.2.2 hy) (goods_mem hgc.2.2 hz)) (fun x z hx hz hgt he => ?_) hl1 hl2
                · intro t ht
                  simp only [List.mem_append] at ht
                  rcases ht with (ht | ht) | ht
                  · exact goods_mem hga.2.2 ht
                  · exact goods_mem hgb.2.2 ht
                  · exact goods_mem hgc.2.2 ht
                · subst he
                  rw [gt_irrefl (goods_mem hga.2.2 hx)] at hgt
                  cases hgt
          · exact .inl hs
/-- terms without variables -/
def Tm.ground (t : Tm) : Prop := ∀ v, occT v t = false
theorem ground_mem {s : Int} {l : List Tm} (h : (Tm.app s l).ground) {t : Tm} (ht : t ∈ l) : t.ground := by
  intro v
  have := h v
  rw [occ_app] at this
  exact Bool.eq_false_iff.2 (fun e => by rw [List.any_eq_true.2 ⟨t, ht, e⟩] at this; cases this)
theorem lex_total {g : Tm → Tm → Bool} : ∀ (l m : List Tm), l.length = m.length → (∀ t, t ∈ l ++ m → t.good) → (∀ x y, x ∈ l → y ∈ m → x ≠ y → g x y = true ∨ g y x = true) → l ≠ m → lexF g l m = true ∨ lexF g m l = true
  | [], [], _, _, _, h => absurd rfl h
  | [], _ :: _, h, _, _, _ => by simp at h
  | _ :: _, [], h, _, _, _ => by simp at h
  | x :: l, y :: m, hl, hg, ht, hne => by
    have gx := hg x (by simp)
    have gy := hg y (by simp)
    rw [lexF, lexF]
    by_cases e : x = y
    · subst e
      rw [if_pos (same_refl x), if_pos (same_refl x)]
      refine lex_total l m (by simpa using hl) (fun t h => hg t (by simp at h ⊢; rcases h with h | h <;> simp [h])) (fun a b ha hb => ht a b (by simp [ha]) (by simp [hb])) (fun e => hne (by rw [e]))
    · rw [if_neg (fun h => e ((same_iff gx gy).1 h)), if_neg (fun h => e ((same_iff gy gx).1 h).symm)]
      exact ht x y (by simp) (by simp) e
theorem gt_total {r : Int → Int} (hr : RankInj r) : ∀ (n : Nat) (a b : Tm), a.size + b.size ≤ n → a.good → b.good → a.ground → b.ground → a ≠ b → gt r a b = true ∨ gt r b a = true
  | 0, a, b, hn, _, _, _, _, _ => by have := Tm.size_pos a; have := Tm.size_pos b; omega
  | n + 1, a, b, hn, ha, hb, ga, gb, hne => by
    cases a with
    | var c => have := ga c; rw [occ_var] at this; simp at this
    | app s l =>
      cases b with
      | var c => have := gb c; rw [occ_var] at this; simp at this
      | app s' l' =>
        have e1 := Tm.size.eq_2 s l
        have e2 := Tm.size.eq_2 s' l'
        have hga := ha
        have hgb := hb
        rw [Tm.good] at hga hgb
        by_cases hA : ∃ t, t ∈ l ∧ (t = .app s' l' ∨ gt r t (.app s' l') = true)
        · obtain ⟨t, ht, h⟩ := hA
          exact .inl (gt_part ha hb ht h)
        · by_cases hB : ∃ t, t ∈ l' ∧ (t = .app s l ∨ gt r t (.app s l) = true)
          · obtain ⟨t, ht, h⟩ := hB
            exact .inr (gt_part hb ha ht h)
          · have h1 : ∀ u, u ∈ l' → gt r (.app s l) u = true := fun u hu => by
              rcases gt_total hr n (.app s l) u (by have := sizes_mem l' u hu; omega) ha (goods_mem hgb.2.2 hu) ga (ground_mem gb hu) (fun e => hB ⟨u, hu, .inl e.symm⟩) with h | h
              · exact h
              · exact absurd ⟨u, hu, .inr h⟩ hB
            have h2 : ∀ u, u ∈ l → gt r (.app s' l') u = true := fun u hu => by
              rcases gt_total hr n u (.app s' l') (by have := sizes_mem l u hu; omega) (goods_mem hga.2.2 hu) hb (ground_mem ga hu) gb (fun e => hA ⟨u, hu, .inl e⟩) with h | h
              · exact absurd ⟨u, hu, .inr h⟩ hA
              · exact h
            by_cases hs : s = s'
            · subst hs
              have hll : l.length = l'.length := by omega
              rcases lex_total (g := gt r) l l' hll (fun t ht => by
                  rcases List.mem_append.1 ht with ht | ht
                  · exact goods_mem hga.2.2 ht
                  · exact goods_mem hgb.2.2 ht) (fun x y hx hy hxy => gt_total hr n x y (by have := sizes_mem l x hx; have := sizes_mem l' y hy; omega) (goods_mem hga.2.2 hx) (goods_mem hgb.2.2 hy) (ground_mem ga hx) (ground_mem gb hy) hxy) (fun e => hne (by rw [e])) with h | h
              · exact .inl ((gt_iff ha hb).2 (.inr ⟨by omega, h1, .inr ⟨rfl, h⟩⟩))
              · exact .inr ((gt_iff hb ha).2 (.inr ⟨by omega, h2, .inr ⟨rfl, h⟩⟩))
            · by_cases hrr : r s > r s'
              · exact .inr ((gt_iff hb ha).2 (.inr ⟨by omega, h2, .inl (fun e => hs e.symm)⟩))
              · exact .inl ((gt_iff ha hb).2 (.inr ⟨hrr, h1, .inl hs⟩))
end Go.Proofs.YtaafeallcaiooaaGreat.Pr
/- the reference's Match on texts of terms is match. -/
namespace Go.Proofs.YtaafeallcaiooaaGreat.Pr
open Go.RowKit Go.Proofs.YtaafeallcaiooaaGreatW.PrintWords Go.Proofs.YtaafeallcaiooaaGreatW.PrintLast Go.Proofs.YtaafeallcaiooaaGreatW.PrintMore
set_option linter.unusedVariables false
set_option linter.unusedSimpArgs false
theorem end_up (s : ByteArray) (i r : Int) : ∀ (n k : Nat), numnahref08_End.f k s i = some r → numnahref08_End.f (k + n) s i = some r
  | 0, k, h => h
  | n + 1, k, h => numnahref08_End.mono s i (k + n) r (end_up s i r n k h)
theorem endC_eq {s : ByteArray} {i e : Int} (h : Evt (fun k => numnahref08_End.f k s i) e) : endC s i = some e := by
  classical
  obtain ⟨K, hK⟩ := h
  have hex : ∃ r k, numnahref08_End.f k s i = some r := ⟨e, K, hK K (Nat.le_refl _)⟩
  unfold endC
  rw [dif_pos hex]
  obtain ⟨k, hk⟩ := Classical.choose_spec hex
  have h1 := end_up s i _ K k hk
  have h2 : numnahref08_End.f (k + K) s i = some e := hK (k + K) (by omega)
  rw [h1] at h2
  exact h2
theorem tx_head (U : Tm) (h : U.good) : ∃ (d : UInt8) (l : List UInt8), U.tx = d :: l ∧ (d.toNat : Int) = (match U with | .var c => c | .app s _ => s) := by
  cases U with
  | var c =>
    rw [Tm.good] at h
    exact ⟨ch c, [], by rw [Tm.tx], ch_toNat (by omega)⟩
  | app s l =>
    have hl2 := good_len h
    rw [Tm.good] at h
    exact ⟨ch s, _, tx_app2 s l hl2, ch_toNat (by omega)⟩
theorem bAt_head {s : ByteArray} {i : Nat} {c : UInt8} {r : List UInt8} (h : s.data.toList.drop i = c :: r) : i < s.size ∧ bAt s i = (c.toNat : Int) := by
  obtain ⟨h1, h2, h3⟩ := at_cons h
  refine ⟨h1, ?_⟩
  unfold bAt
  rw [dif_pos h1, ← h2]
  simp [bt, h1]
theorem extract_tx {s : ByteArray} {i : Nat} {U : Tm} {r : List UInt8} (h : s.data.toList.drop i = U.tx ++ r) : s.extract i (i + U.tx.length) = U.text := by
  rw [← B8_of (s.extract i (i + U.tx.length))]
  show B8 _ = B8 U.tx
  congr 1
  have h1 : (s.extract i (i + U.tx.length)).data.toList = (s.data.toList.drop i).take U.tx.length := by
    rw [ByteArray.data_extract, Array.toList_extract]
    first | rfl | (rw [List.extract_eq_take_drop]; simp) | (rw [List.extract_eq_drop_take]; simp) | simp
  rw [h1, h, List.take_left]
theorem sx_upd (σ : Sub) (c d : Int) (U : Tm) : sx (upd σ c U) d = if d = c then U.text else sx σ d := by
  unfold sx upd
  by_cases h : d = c
  · rw [if_pos h, if_pos h]
  · rw [if_neg h, if_neg h]
noncomputable def msR (s : ByteArray) (rest : List UInt8) (at_ : Nat) : Option Sub → Option (Option (ByteArray × ByteArray × ByteArray × Nat))
  | none => some none
  | some σ => ms s rest at_ (sx σ 120) (sx σ 121) (sx σ 122)
theorem msR_bind (s : ByteArray) (rest : List UInt8) (at_ : Nat) (o : Option Sub) (f : Sub → Option Sub) : msR s rest at_ (o.bind f) = match o with | none => some none | some σ => msR s rest at_ (f σ) := by cases o <;> rfl
def MsOk (s : ByteArray) (P : Tm) : Prop := ∀ (U : Tm) (at_ : Nat) (r rest : List UInt8) (σ : Sub), P.good → U.good → SubGood σ → U.size ≤ 1000000 → s.data.toList.drop at_ = U.tx ++ r → ms s (P.tx ++ rest) at_ (sx σ 120) (sx σ 121) (sx σ 122) = msR s rest (at_ + U.tx.length) (matchT P U σ)
theorem ms_var (s : ByteArray) (hs : s.size ≤ 140737488351232) (c : Int) : MsOk s (.var c) := by
  intro U at_ r rest σ hP hU hσ hsz h
  rw [Tm.good] at hP
  obtain ⟨d, l, hd, _⟩ := tx_head U hU
  have hh := h
  rw [hd, List.cons_append] at hh
  obtain ⟨h1, h2⟩ := bAt_head hh
  have hc := ch_toNat (c := c) (by omega)
  have hE := endC_eq (rEndE s hs U hU at_ r h)
  have hlen : at_ + U.tx.length ≤ s.size := by
    have h4 := congrArg List.length h
    rw [List.length_drop, List.length_append] at h4
    have : s.data.toList.length = s.size := by simp
    omega
  have hpc := extract_tx h
  have hv : ¬ isVarI (((ch c).toNat : Nat) : Int) = false := by
    rw [hc]
    unfold isVarI
    rw [decide_eq_true hP.1, decide_eq_true hP.2]
    simp
  have hpos : ∀ u : Tm, u.good → ¬ u.text.size = 0 := fun u hu => by
    rw [show u.text.size = u.tx.length from B8_size _]
    obtain ⟨d', l', hd', _⟩ := tx_head u hu
    rw [hd']
    simp
  rw [Tm.tx, List.cons_append, List.nil_append, ms, if_neg (by omega), if_neg hv, hE]
  dsimp only
  rw [if_neg (by omega), show (((at_ : Nat) : Int) + (U.tx.length : Int)).toNat = at_ + U.tx.length by omega, if_pos ⟨by omega, hlen⟩, hpc]
  have hgen : ∀ (x : ByteArray), x = sx σ c → ((x.size = 0 ∨ x = U.text) ↔ (∃ σ', matchT (.var c) U σ = some σ' ∧ ∀ d, sx σ' d = if d = c then U.text else sx σ d)) := by
    intro x hx
    subst hx
    rw [matchT]
    cases hσc : σ c with
    | none =>
      have : sx σ c = ⟨#[]⟩ := by unfold sx; rw [hσc]
      rw [this]
      exact ⟨fun _ => ⟨_, rfl, fun d => sx_upd σ c d U⟩, fun _ => .inl rfl⟩
    | some old =>
      have ho := hσ c old hσc
      have hso : sx σ c = old.text := by unfold sx; rw [hσc]
      rw [hso]
      dsimp only
      by_cases he : old.text = U.text
      · have hsb : sameB old U = true := by rw [sameB_eq ho.1 hU, decide_eq_true he]
        rw [if_pos hsb]
        refine ⟨fun _ => ⟨σ, rfl, fun d => ?_⟩, fun _ => .inr he⟩
        by_cases hdc : d = c
        · rw [if_pos hdc, hdc, hso, he]
        · rw [if_neg hdc]
      · have hsb : ¬ sameB old U = true := by rw [sameB_eq ho.1 hU, decide_eq_false he]; simp
        rw [if_neg hsb]
        exact ⟨fun h => h.elim (fun h => absurd h (hpos old ho.1)) (fun h => absurd h he), fun ⟨σ', h, _⟩ => by cases h⟩
  have hno : ∀ (x : ByteArray), x = sx σ c → ¬ (x.size = 0 ∨ x = U.text) → matchT (.var c) U σ = none := by
    intro x hx hn
    cases hm : matchT (.var c) U σ with
    | none => rfl
    | some σ' =>
      exfalso
      apply hn
      rw [hgen x hx]
      refine ⟨σ', hm, fun d => ?_⟩
      rw [matchT] at hm
      split at hm
      · rename_i old hσc
        split at hm
        · rename_i hsb
          injection hm with hm
          subst hm
          by_cases hdc : d = c
          · rw [if_pos hdc, hdc]
            unfold sx
            rw [hσc]
            exact congrArg Tm.text ((same_iff (hσ c old hσc).1 hU).1 hsb)
          · rw [if_neg hdc]
        · cases hm
      · injection hm with hm
        subst hm
        exact sx_upd σ c d U
  have h3 : c = 120 ∨ c = 121 ∨ c = 122 := by omega
  rcases h3 with rfl | rfl | rfl
  · rw [if_pos (by rfl)]
    by_cases hx : (sx σ 120).size = 0 ∨ sx σ 120 = U.text
    · obtain ⟨σ', hm, hs'⟩ := (hgen _ rfl).1 hx
      rw [if_pos hx, hm, msR, hs' 120, hs' 121, hs' 122]
      rfl
    · rw [if_neg hx, hno _ rfl hx]
      rfl
  · rw [if_neg (by decide), if_pos (by rfl)]
    by_cases hx : (sx σ 121).size = 0 ∨ sx σ 121 = U.text
    · obtain ⟨σ', hm, hs'⟩ := (hgen _ rfl).1 hx
      rw [if_pos hx, hm, msR, hs' 120, hs' 121, hs' 122]
      rfl
    · rw [if_neg hx, hno _ rfl hx]
      rfl
  · rw [if_neg (by decide), if_neg (by decide)]
    by_cases hx : (sx σ 122).size = 0 ∨ sx σ 122 = U.text
    · obtain ⟨σ', hm, hs'⟩ := (hgen _ rfl).1 hx
      rw [if_pos hx, hm, msR, hs' 120, hs' 121, hs' 122]
      rfl
    · rw [if_neg hx, hno _ rfl hx]
      rfl
/-- a character that is no variable -/
theorem ms_char {s : ByteArray} {c d : UInt8} {rest r : List UInt8} {at_ : Nat} {x y z : ByteArray} (hc : isVarI (c.toNat : Int) = false) (h : s.data.toList.drop at_ = d :: r) : ms s (c :: rest) at_ x y z = if c = d then ms s rest (at_ + 1) x y z else some none := by
  obtain ⟨h1, h2⟩ := bAt_head h
  rw [ms, if_neg (by omega), if_pos hc, h2]
  by_cases e : c = d
  · rw [if_pos (by rw [e]), if_pos e]
  · rw [if_neg (fun h => e (UInt8.toNat_inj.1 (by omega))), if_neg e]
theorem ms_list (s : ByteArray) : ∀ (l l' : List Tm) (j at_ : Nat) (r rest : List UInt8) (σ : Sub), (∀ x, x ∈ l → MsOk s x) → l.length = l'.length → Tm.goods l → Tm.goods l' → SubGood σ → Tm.sizes l' ≤ 1000000 → s.data.toList.drop at_ = txM j l' ++ r → ms s (txM j l ++ rest) at_ (sx σ 120) (sx σ 121) (sx σ 122) = msR s rest (at_ + (txM j l').length) (matchL l l' σ)
  | [], [], j, at_, r, rest, σ, _, _, _, _, _, _, h => by rw [matchL]; rfl
  | [], _ :: _, _, _, _, _, _, _, hl, _, _, _, _, _ => by simp at hl
  | _ :: _, [], _, _, _, _, _, _, hl, _, _, _, _, _ => by simp at hl
  | p :: l, u :: l', j, at_, r, rest, σ, hx, hl, hg, hg', hσ, hsz, h => by
    rw [Tm.goods] at hg hg'
    rw [Tm.sizes] at hsz
    have hn1 := Tm.sizes_nn l'
    have hn2 := Tm.size_pos u
    have hm : isVarI (((UInt8.ofNat (mark j).toNat).toNat : Nat) : Int) = false := by
      rw [mark_nat]
      unfold mark
      split <;> decide
    rw [txM, List.cons_append, List.append_assoc] at h
    have h2 := (at_cons h).2.2
    rw [txM, List.cons_append, List.append_assoc, ms_char hm h, if_pos rfl, hx p (by simp) u (at_ + 1) _ _ σ hg.1 hg'.1 hσ (by omega) h2, matchL, msR_bind]
    cases hM : matchT p u σ with
    | none => rfl
    | some σ' =>
      dsimp only
      rw [msR, ms_list s l l' (j + 1) (at_ + 1 + u.tx.length) r rest σ' (fun x h => hx x (by simp [h])) (by simpa using hl) hg.2 hg'.2 (matchT_good p u σ σ' hσ hg'.1 (by omega) hM) (by omega) (drop_app h2), txM, List.length_cons, List.length_append]
      congr 1
      omega
theorem ms_all (s : ByteArray) (hs : s.size ≤ 140737488351232) : ∀ P : Tm, MsOk s P := by
  refine Tm.ind (fun c => ms_var s hs c) (fun sy l ih U at_ r rest σ hP hU hσ hsz h => ?_)
  have hl2 := good_len hP
  have hgP := hP
  rw [Tm.good] at hP
  have hcs := ch_toNat (c := sy) (by omega)
  have hv : isVarI (((ch sy).toNat : Nat) : Int) = false := by
    rw [hcs]
    unfold isVarI
    rw [decide_eq_false (show ¬ sy ≥ 120 by omega), Bool.false_and]
  rw [tx_app2 sy l hl2, List.cons_append]
  cases U with
  | var c =>
    rw [Tm.good] at hU
    rw [Tm.tx, List.cons_append] at h
    have hcc := ch_toNat (c := c) (by omega)
    rw [ms_char hv h, if_neg (fun e => by rw [e] at hcs; omega), matchT]
    rfl
  | app sy' l' =>
    have hl2' := good_len hU
    have hgU := hU
    rw [Tm.good] at hU
    have hcc := ch_toNat (c := sy') (by omega)
    have h0 := h
    rw [tx_app2 sy' l' hl2', List.cons_append] at h
    rw [ms_char hv h, matchT]
    by_cases he : sy' = sy
    · subst he
      have hll : l.length = l'.length := by omega
      have h2 := (at_cons h).2.2
      rw [if_pos rfl, if_pos rfl, tx_app2 sy' l' hl2']
      by_cases h00 : l.length = 0
      · have h00' : l'.length = 0 := by omega
        rw [if_pos h00, if_pos h00', List.length_eq_zero_iff.1 h00, List.length_eq_zero_iff.1 h00', matchL]
        rfl
      · have h00' : ¬ l'.length = 0 := by omega
        rw [if_neg h00'] at h2
        rw [if_neg h00, if_neg h00', List.append_assoc]
        rw [List.append_assoc] at h2
        rw [Tm.size] at hsz
        rw [ms_list s l l' 0 (at_ + 1) ([41] ++ r) ([41] ++ rest) σ (fun x hx => ih x hx) hll hP.2.2 hU.2.2 hσ (by omega) h2]
        cases hM : matchL l l' σ with
        | none => rfl
        | some σ' =>
          have h3 := drop_app h2
          rw [msR, msR, List.cons_append, List.nil_append, ms_char (r := r) (d := 41) (by decide) (by rw [h3]; rfl), if_pos rfl, List.length_cons, List.length_append]
          congr 1
          simp
          omega
    · rw [if_neg (fun e => he (by have := congrArg UInt8.toNat e; omega)), if_neg he]
      rfl
/-- the reference's Match at texts of terms -/
theorem refMatch_eval {P T : Tm} (hP : P.good) (hT : T.good) (sP : P.size ≤ 1000) (sT : T.size ≤ 1000) : numnahref08_Match.f P.text T.text = some (match matchT P T noSub with
    | none => (⟨#[]⟩, ⟨#[]⟩, ⟨#[]⟩, false)
    | some σ => (sx σ 120, sx σ 121, sx σ 122, true)) := by
  have h1 := tx_le P
  have h2 := tx_le T
  have z1 : P.text.size = P.tx.length := B8_size _
  have z2 : T.text.size = T.tx.length := B8_size _
  unfold numnahref08_Match.f
  rw [if_pos ⟨by omega, by omega⟩]
  have h := ms_all T.text (by omega) P T 0 [] [] noSub hP hT noSub_good (by omega) (by rw [List.drop_zero, List.append_nil]; exact B8_list _)
  rw [List.append_nil] at h
  have e : P.text.data.toList = P.tx := B8_list _
  rw [e]
  have e2 : ∀ c, sx noSub c = ⟨#[]⟩ := fun c => rfl
  rw [e2, e2, e2] at h
  rw [h]
  cases hM : matchT P T noSub with
  | none => rfl
  | some σ =>
    rw [msR, ms]
    simp only [Option.map_some]
    unfold finM
    dsimp only
    rw [if_pos (by omega)]
end Go.Proofs.YtaafeallcaiooaaGreat.Pr
/- Apply on texts of terms; terms without variables; Greater on texts. -/
/- the path order is stable: under substitutions, and in larger terms. -/
namespace Go.Proofs.YtaafeallcaiooaaGreat.Pr
open Go.RowKit
set_option linter.unusedVariables false
set_option linter.unusedSimpArgs false
theorem sub_app (σ : Sub) (s : Int) (l : List Tm) : (Tm.app s l).sub σ = .app s (l.map (Tm.sub σ)) := by rw [Tm.sub, subL_map]
theorem lex_map {r : Int → Int} {f : Tm → Tm} : ∀ (l m : List Tm), (∀ t, t ∈ l ++ m → t.good ∧ (f t).good) → (∀ x y, x ∈ l → y ∈ m → gt r x y = true → gt r (f x) (f y) = true) → lexF (gt r) l m = true → lexF (gt r) (l.map f) (m.map f) = true
  | [], _, _, _, h => by rw [lexF] at h; cases h; (intros; simp_all)
  | _ :: _, [], _, _, h => by rw [lexF] at h; cases h; (intros; simp_all)
  | x :: l, y :: m, hg, ht, h => by
    have gx := hg x (by simp)
    have gy := hg y (by simp)
    rw [List.map_cons, List.map_cons, lexF]
    rw [lexF] at h
    by_cases e : x = y
    · subst e
      rw [if_pos (same_refl x)] at h
      rw [if_pos (same_refl _)]
      exact lex_map l m (fun t h => hg t (by simp at h ⊢; rcases h with h | h <;> simp [h])) (fun a b ha hb => ht a b (by simp [ha]) (by simp [hb])) h
    · rw [if_neg (fun h => e ((same_iff gx.1 gy.1).1 h))] at h
      have h2 := ht x y (by simp) (by simp) h
      rw [if_neg (fun h3 => by
        have h4 := (same_iff gx.2 gy.2).1 h3
        rw [h4, gt_irrefl gy.2] at h2
        cases h2)]
      exact h2
theorem gt_subv {r : Int → Int} {σ : Sub} (hσ : ∀ c u, σ c = some u → u.good) (v : Int) (hv : (Tm.var v).good) : ∀ (n : Nat) (s : Int) (l : List Tm), (Tm.app s l).size ≤ n → (Tm.app s l).good → occT v (.app s l) = true → gt r ((Tm.app s l).sub σ) ((Tm.var v).sub σ) = true
  | 0, s, l, hn, _, _ => by have := Tm.size_pos (.app s l); omega
  | n + 1, s, l, hn, hg, h => by
    have e1 := Tm.size.eq_2 s l
    have hga := hg
    rw [Tm.good] at hga
    rw [occ_app] at h
    obtain ⟨t, ht, h2⟩ := List.any_eq_true.1 h
    have h3 := sub_good σ hσ _ hg
    rw [sub_app] at h3 ⊢
    refine gt_part h3 (sub_good σ hσ _ hv) (List.mem_map.2 ⟨t, ht, rfl⟩) ?_
    cases t with
    | var c =>
      rw [occ_var, decide_eq_true_iff] at h2
      subst h2
      exact .inl rfl
    | app s' l' => exact .inr (gt_subv hσ v hv n s' l' (by have := sizes_mem l _ ht; omega) (goods_mem hga.2.2 ht) h2)
theorem gt_stab {r : Int → Int} {σ : Sub} (hσ : ∀ c u, σ c = some u → u.good) : ∀ (n : Nat) (a b : Tm), a.size + b.size ≤ n → a.good → b.good → gt r a b = true → gt r (a.sub σ) (b.sub σ) = true
  | 0, a, b, hn, _, _, _ => by have := Tm.size_pos a; have := Tm.size_pos b; omega
  | n + 1, a, b, hn, ha, hb, h => by
    obtain ⟨s, l, rfl⟩ := gt_isApp h
    have e1 := Tm.size.eq_2 s l
    have hga := ha
    rw [Tm.good] at hga
    cases b with
    | var v =>
      rw [gt_v] at h
      exact gt_subv hσ v hb _ s l (Int.self_le_toNat _) ha h
    | app s' l' =>
      have e2 := Tm.size.eq_2 s' l'
      have hgb := hb
      rw [Tm.good] at hgb
      have h3 := sub_good σ hσ _ ha
      have h4 := sub_good σ hσ _ hb
      rcases (gt_iff ha hb).1 h with ⟨t, ht, h2⟩ | ⟨h1, h2, h5⟩
      · rw [sub_app] at h3 ⊢
        refine gt_part h3 h4 (List.mem_map.2 ⟨t, ht, rfl⟩) ?_
        rcases h2 with rfl | h2
        · exact .inl rfl
        · exact .inr (gt_stab hσ n t _ (by have := sizes_mem l t ht; omega) (goods_mem hga.2.2 ht) hb h2)
      · rw [sub_app] at h3 h4
        have hS := fun u hu => gt_stab (r := r) hσ n (.app s l) u (by have := sizes_mem l' u hu; omega) ha (goods_mem hgb.2.2 hu) (h2 u hu)
        rw [sub_app, sub_app]
        refine (gt_iff h3 h4).2 (.inr ⟨h1, fun u hu => ?_, ?_⟩)
        · obtain ⟨w, hw, rfl⟩ := List.mem_map.1 hu
          have := hS w hw
          rwa [sub_app] at this
        · rcases h5 with h5 | ⟨h5, h6⟩
          · exact .inl h5
          · refine .inr ⟨h5, lex_map l l' (fun t ht => ?_) (fun x y hx hy => gt_stab hσ n x y (by have := sizes_mem l x hx; have := sizes_mem l' y hy; omega) (goods_mem hga.2.2 hx) (goods_mem hgb.2.2 hy)) h6⟩
            have hg : t.good := by
              rcases List.mem_append.1 ht with ht | ht
              · exact goods_mem hga.2.2 ht
              · exact goods_mem hgb.2.2 ht
            exact ⟨hg, sub_good σ hσ _ hg⟩
theorem lex_ctx {g : Tm → Tm → Bool} {x y : Tm} {post : List Tm} (hne : sameB x y = false) : ∀ pre : List Tm, lexF g (pre ++ x :: post) (pre ++ y :: post) = g x y
  | [] => by rw [List.nil_append, List.nil_append, lexF, if_neg (by rw [hne]; simp)]
  | t :: pre => by rw [List.cons_append, List.cons_append, lexF, if_pos (same_refl t)]; exact lex_ctx hne pre
end Go.Proofs.YtaafeallcaiooaaGreat.Pr
/- awake holds. -/
namespace Go.Proofs.YtaafeallcaiooaaGreat.Pr
open Go.RowKit Go.Proofs.YtaafeallcaiooaaGreatW.PrintWords Go.Proofs.YtaafeallcaiooaaGreatW.PrintLast Go.Proofs.YtaafeallcaiooaaGreatW.PrintMore
theorem t1 : nextsT [⟨⟨#[101, 40, 120, 44, 121, 41]⟩, ⟨#[101, 40, 121, 44, 120, 41]⟩⟩] ⟨#[101, 40, 97, 44, 98, 41]⟩ = (0, [⟨#[101, 40, 98, 44, 97, 41]⟩]) := by kernel_rfl
theorem t2 : (valT [[0], [1], [1, 1], [0, 1], [0, 1, 1], [0, 1, 2]] ⟨#[102, 40, 99, 40, 98, 41, 44, 120, 41]⟩).1 = 0 := by kernel_rfl
theorem t3 : orientT [⟨⟨#[99, 40, 100, 40, 120, 41, 41]⟩, ⟨#[100, 40, 99, 40, 120, 41, 41]⟩⟩] = (0, ⟨#[97, 98, 99, 100, 101, 102]⟩) := by kernel_rfl
theorem awake_true : numnahlaw08_awake.f 20 = some true := by kernel_rfl
end Go.Proofs.YtaafeallcaiooaaGreat.Pr
/- Greater. -/
namespace Go.Proofs.YtaafeallcaiooaaGreat.Pr
open Go.RowKit Go.Maps Go.Proofs.YtaafeallcaiooaaGreatW.PrintWords Go.Proofs.YtaafeallcaiooaaGreatW.PrintLast Go.Proofs.YtaafeallcaiooaaGreatW.PrintMore
set_option linter.unusedVariables false
set_option linter.unusedSimpArgs false
end Go.Proofs.YtaafeallcaiooaaGreat.Pr
namespace Go.Proofs.YtaafeallcaiooaaGreat.Pr
open Go.RowKit Go.Proofs.YtaafeallcaiooaaGreatW.PrintWords Go.Proofs.YtaafeallcaiooaaGreatW.PrintLast Go.Proofs.YtaafeallcaiooaaGreatW.PrintMore
set_option linter.unusedVariables false
set_option linter.unusedSimpArgs false
theorem applyL_app (s0 s1 s2 a b : List UInt8) : applyL s0 s1 s2 (a ++ b) = applyL s0 s1 s2 a ++ applyL s0 s1 s2 b := by unfold applyL; rw [List.flatMap_append]
theorem applyL_cons (s0 s1 s2 : List UInt8) (c : UInt8) (b : List UInt8) : applyL s0 s1 s2 (c :: b) = applyC s0 s1 s2 c ++ applyL s0 s1 s2 b := by unfold applyL; rw [List.flatMap_cons]
theorem applyC_no (s0 s1 s2 : List UInt8) {c : UInt8} (h : c.toNat < 120 ∨ 122 < c.toNat) : applyC s0 s1 s2 c = [c] := by
  unfold applyC
  rw [if_neg (fun e => by subst e; revert h; decide), if_neg (fun e => by subst e; revert h; decide), if_neg (fun e => by subst e; revert h; decide)]
theorem applyM (s0 s1 s2 : List UInt8) (f : Tm → Tm) : ∀ (l : List Tm) (i : Nat), (∀ t, t ∈ l → applyL s0 s1 s2 t.tx = (f t).tx) → applyL s0 s1 s2 (txM i l) = txM i (l.map f)
  | [], i, _ => rfl
  | t :: l, i, h => by
    rw [txM, List.map_cons, txM, applyL_cons, applyL_app, h t (by simp), applyM s0 s1 s2 f l (i + 1) (fun u hu => h u (by simp [hu])), applyC_no s0 s1 s2 (by
      have := mark_nat i
      unfold mark at this ⊢
      split
      · left; decide
      · left; decide)]
    rfl
/-! ### terms without variables -/
/-! ### Greater on texts -/
theorem awake_mono : ∀ n, numnahlaw08_awake.f (20 + n) = some true
  | 0 => awake_true
  | n + 1 => numnahlaw08_awake.mono (20 + n) true (awake_mono n)
theorem awakeE : Evt (fun k => numnahlaw08_awake.f k) true := ⟨20, fun k hk => by
  have := awake_mono (k - 20)
  rwa [show 20 + (k - 20) = k by omega] at this⟩
end Go.Proofs.YtaafeallcaiooaaGreat.Pr
namespace Go.Proofs.YtaafeallcaiooaaGreat.Pr
open Go.RowKit Go.Proofs.YtaafeallcaiooaaGreatW.PrintWords Go.Proofs.YtaafeallcaiooaaGreatW.PrintLast Go.Proofs.YtaafeallcaiooaaGreatW.PrintMore
set_option linter.unusedVariables false
set_option linter.unusedSimpArgs false
theorem short_eval (s : ByteArray) : ∃ t : ByteArray, numnahlaw08_short.f s = some t ∧ t.size ≤ 400 := by
  unfold numnahlaw08_short.f
  have h : 0 ≤ mn (s.size : Int) 400 ∧ mn (s.size : Int) 400 ≤ (s.size : Int) ∧ mn (s.size : Int) 400 ≤ 400 := by unfold mn; split <;> omega
  rw [if_pos h.1, if_pos h.2.1]
  refine ⟨_, rfl, ?_⟩
  rw [ByteArray.size_extract]
  omega
theorem awakeE2 : Evt (fun k => (numnahlaw08_awake.f k).bind fun t => some t) true := Evt.bind awakeE (Evt.all fun _ => rfl)
theorem emp : ((⟨#[]⟩ : ByteArray).toList == ([] : List UInt8)) = true := by rw [ByteArray.toList_eq]; rfl
theorem terms_all (a0 a1 : ByteArray) : Evt (fun k => numnahlaw08_RulesTerms.f k a0 a1) true := by
  obtain ⟨p, hp, hps⟩ := short_eval a0
  obtain ⟨t, ht, hts⟩ := short_eval a1
  have hTp := termRE p (by omega)
  have hTt := termRE t (by omega)
  have hsz := sizeE' t (by omega)
  have hS : rules_Size.f t = some ((sizeE t).2, (sizeE t).1) := rfl
  have hM : rules_Match.f p t = some ((matchE p t).2.1, (matchE p t).2.2.1, (matchE p t).2.2.2, (matchE p t).1) := rfl
  refine Evt.congr (g := fun k => _) ?_ (fun k => by unfold numnahlaw08_RulesTerms.f; rw [hp, Option.bind_some, ht, Option.bind_some, hS, Option.bind_some, hM, Option.bind_some])
  dsimp only
  cases hRt : readT t with
  | none =>
    rw [hRt] at hTt
    have es : sizeE t = (4, 0) := by unfold sizeE; rw [hRt]
    have em : matchE p t = (4, ⟨#[]⟩, ⟨#[]⟩, ⟨#[]⟩) := by
      unfold matchE
      cases readT p with
      | none => rfl
      | some P => dsimp only; rw [hRt]
    rw [es, em]
    dsimp only
    have hj1 : Evt (fun k => numnahlaw08_RulesTerms.j1 k p t 4 true ⟨#[]⟩ ⟨#[]⟩ ⟨#[]⟩) true := by
      refine Evt.step (g' := fun k => (numnahlaw08_awake.f k).bind fun t => some t) (fun k => ?_) awakeE2
      rw [numnahlaw08_RulesTerms.j1, if_pos rfl, emp, if_pos (by rfl), if_pos rfl]
    have hj0 : Evt (fun k => numnahlaw08_RulesTerms.j0 k p t 4 false ⟨#[]⟩ ⟨#[]⟩ ⟨#[]⟩) true := by
      refine Evt.step (g' := fun k => (numnahref08_Term.f k p).bind fun t505 => (if t505 = true then ((numnahref08_Term.f k t).bind fun t506 => (numnahlaw08_RulesTerms.j1 k p t 4 (!t506) ⟨#[]⟩ ⟨#[]⟩ ⟨#[]⟩)) else (numnahlaw08_RulesTerms.j1 k p t 4 true ⟨#[]⟩ ⟨#[]⟩ ⟨#[]⟩))) (fun k => by rw [numnahlaw08_RulesTerms.j0, if_neg (by simp)]) ?_
      refine Evt.bind hTp ?_
      cases (readT p).isSome with
      | true => exact Evt.pos rfl (Evt.bind hTt hj1)
      | false => exact Evt.neg (by simp) hj1
    refine Evt.bind hTt (Evt.neg (by simp) ?_)
    refine Evt.pos rfl (Evt.pos rfl (Evt.bind hTt (Evt.neg (by simp) hj0)))
  | some T =>
    rw [hRt] at hTt
    have hT := readT_iff.1 hRt
    have es : sizeE t = (0, T.size) := by unfold sizeE; rw [hRt]
    have hcn : (cnt t.data.toList : Int) = T.size := by
      rw [hT.2.2]
      have e : T.text.data.toList = T.tx := B8_list _
      rw [e]
      exact cnt_tx T hT.1
    rw [hcn] at hsz
    have hj0 : Evt (fun k => numnahlaw08_RulesTerms.j0 k p t (matchE p t).1 false (matchE p t).2.1 (matchE p t).2.2.1 (matchE p t).2.2.2) true := by
      refine Evt.step (g' := fun k => (numnahref08_Term.f k p).bind fun t505 => (if t505 = true then ((numnahref08_Term.f k t).bind fun t506 => (numnahlaw08_RulesTerms.j1 k p t (matchE p t).1 (!t506) (matchE p t).2.1 (matchE p t).2.2.1 (matchE p t).2.2.2)) else (numnahlaw08_RulesTerms.j1 k p t (matchE p t).1 true (matchE p t).2.1 (matchE p t).2.2.1 (matchE p t).2.2.2))) (fun k => by rw [numnahlaw08_RulesTerms.j0, if_neg (by simp)]) ?_
      refine Evt.bind hTp ?_
      cases hRp : readT p with
      | none =>
        have em : matchE p t = (4, ⟨#[]⟩, ⟨#[]⟩, ⟨#[]⟩) := by unfold matchE; rw [hRp]
        rw [em]
        refine Evt.neg (by simp) (Evt.step (g' := fun k => (numnahlaw08_awake.f k).bind fun t => some t) (fun k => ?_) awakeE2)
        rw [numnahlaw08_RulesTerms.j1, if_pos rfl, emp, if_pos (by rfl), if_pos rfl]
      | some P =>
        have hP := readT_iff.1 hRp
        refine Evt.pos rfl (Evt.bind hTt ?_)
        have hr := refMatch_eval hP.1 hT.1 (by omega) (by omega)
        rw [← hP.2.2, ← hT.2.2] at hr
        cases hm : matchT P T noSub with
        | none =>
          have em : matchE p t = (6, ⟨#[]⟩, ⟨#[]⟩, ⟨#[]⟩) := by unfold matchE; rw [hRp]; dsimp only; rw [hRt]; dsimp only; rw [hm]
          rw [em]
          rw [hm] at hr
          refine Evt.step (g' := fun k => (numnahlaw08_awake.f k).bind fun t => some t) (fun k => ?_) awakeE2
          rw [numnahlaw08_RulesTerms.j1, if_neg (by simp), hr, Option.bind_some]
          dsimp only
          rw [if_neg (by simp), emp, if_pos (by rfl), if_pos rfl]
        | some σ =>
          have em : matchE p t = (0, sx σ 120, sx σ 121, sx σ 122) := by unfold matchE; rw [hRp]; dsimp only; rw [hRt]; dsimp only; rw [hm]
          rw [em]
          rw [hm] at hr
          refine Evt.step (g' := fun k => (numnahlaw08_awake.f k).bind fun t => some t) (fun k => ?_) awakeE2
          rw [numnahlaw08_RulesTerms.j1, if_neg (by simp), hr, Option.bind_some]
          dsimp only
          rw [if_pos rfl, if_pos (by simp), if_pos rfl]
    rw [es]
    refine Evt.bind hTt (Evt.pos rfl (Evt.bind hTt (Evt.pos rfl (Evt.bind hsz (Evt.pos rfl ?_)))))
    exact hj0
end Go.Proofs.YtaafeallcaiooaaGreat.Pr
namespace Go.Proofs.YtaafeallcaiooaaGreat.Pure
open Go.RowKit Go.Proofs.YtaafeallcaiooaaGreat.Pr Go.Proofs.YtaafeallcaiooaaGreatW.PrintWords Go.Proofs.YtaafeallcaiooaaGreatW.PrintLast
theorem RulesTerms : numnahlaw08_RulesTerms.Pure := fun a0 a1 _ _ => (terms_all a0 a1).ex
end Go.Proofs.YtaafeallcaiooaaGreat.Pure
