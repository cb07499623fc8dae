/- RulesOrdered: path orders are transitive, irreflexive, total on terms without variables. -/
import Derived.Test.YtaafeallcaiooaaGreatHGt0
import Derived.Test.YtaafeallcaiooaaGreatPrB1
import Derived.Test.YtaafeallcaiooaaGreatHGw
import Derived.Test.YtaafeallcaiooaaGreatHAp
import Derived.Test.YtaafeallcaiooaaGreatHEg
import Derived.Test.YtaafeallcaiooaaGreatHOt
import Derived.Test.YtaafeallcaiooaaGreatPrA7
import Derived.Test.YtaafeallcaiooaaGreatPrC1
import Derived.Test.YtaafeallcaiooaaGreatDefRulesOrdered
/- the path order: transitive, irreflexive, total on terms without variables, stable. -/
namespace Go.Proofs.YtaafeallcaiooaaGreat.Pr
open Go.RowKit
set_option linter.unusedVariables false
set_option linter.unusedSimpArgs false
theorem same_iff {a b : Tm} (ha : a.good) (hb : b.good) : sameB a b = true ↔ a = b := by
  rw [sameB_eq ha hb, decide_eq_true_iff]
  exact ⟨text_inj ha hb, fun h => by rw [h]⟩
theorem same_refl (a : Tm) : sameB a a = true := by unfold sameB; simp
theorem occ_app (v s : Int) (l : List Tm) : occT v (.app s l) = l.any (occT v) := by
  unfold occT
  rw [Tm.subs, List.any_cons]
  have : isVar v (.app s l) = false := by rfl
  rw [this, Bool.false_or]
  clear this
  induction l with
  | nil => rfl
  | cons t l ih => rw [Tm.subsL, List.any_append, List.any_cons, ih]
theorem occ_var (v c : Int) : occT v (.var c) = decide (v = c) := by
  unfold occT
  rw [Tm.subs]
  by_cases h : v = c
  · subst h; simp [isVar]
  · simp [isVar, h, show ¬ c = v from fun e => h e.symm]
/-- the greater one is made of a symbol -/
theorem gt_isApp {r : Int → Int} {a b : Tm} (h : gt r a b = true) : ∃ s l, a = .app s l := by
  cases a with
  | var c =>
    exfalso
    cases b with
    | var v => rw [gt_var] at h; cases h
    | app s l => rw [gt_va] at h; cases h
  | app s l => exact ⟨s, l, rfl⟩
theorem gt_v {r : Int → Int} {s v : Int} {l : List Tm} : gt r (.app s l) (.var v) = occT v (.app s l) := gt_var r _ v
/-- what makes a term greater than a compound one -/
theorem gt_iff {r : Int → Int} {s s' : Int} {l l' : List Tm} (ha : (Tm.app s l).good) (hb : (Tm.app s' l').good) : gt r (.app s l) (.app s' l') = true ↔
    (∃ t, t ∈ l ∧ (t = .app s' l' ∨ gt r t (.app s' l') = true)) ∨ (¬ r s > r s' ∧ (∀ u, u ∈ l' → gt r (.app s l) u = true) ∧ (s ≠ s' ∨ (s = s' ∧ lexF (gt r) l l' = true))) := by
  have hga := ha
  rw [Tm.good] at hga
  have h1 : (l.any (fun t => sameB t (.app s' l') || gt r t (.app s' l'))) = true ↔ ∃ t, t ∈ l ∧ (t = .app s' l' ∨ gt r t (.app s' l') = true) := by
    rw [List.any_eq_true]
    exact ⟨fun ⟨t, h, h2⟩ => ⟨t, h, (Bool.or_eq_true _ _ ▸ h2).imp (fun h3 => (same_iff (goods_mem hga.2.2 h) hb).1 h3) id⟩, fun ⟨t, h, h2⟩ => ⟨t, h, by
      rw [Bool.or_eq_true]
      exact h2.imp (fun h3 => (same_iff (goods_mem hga.2.2 h) hb).2 h3) id⟩⟩
  have h2 : (l'.all (fun u => gt r (.app s l) u)) = true ↔ ∀ u, u ∈ l' → gt r (.app s l) u = true := List.all_eq_true
  rw [gt_app, ← h1, ← h2]
  split
  · rename_i h; simp [h]
  · rename_i h
    split
    · rename_i hr
      exact ⟨fun e => (by cases e), fun e => by rcases e with e | e; exact absurd e h; exact absurd hr e.1⟩
    · rename_i hr
      split
      · rename_i hn
        exact ⟨fun e => (by cases e), fun e => by
          rcases e with e | e
          · exact absurd e h
          · rw [e.2.1] at hn; cases hn⟩
      · rename_i hn
        have hn2 : (l'.all fun u => gt r (.app s l) u) = true := by
          cases hx : (l'.all fun u => gt r (.app s l) u) with
          | true => rfl
          | false => rw [hx] at hn; exact absurd rfl hn
        by_cases hs : s = s'
        · rw [if_neg (fun e => e hs)]
          exact ⟨fun e => .inr ⟨hr, hn2, .inr ⟨hs, e⟩⟩, fun e => by
            rcases e with e | ⟨_, _, e | e⟩
            · exact absurd e h
            · exact absurd hs e
            · exact e.2⟩
        · rw [if_pos hs]
          exact ⟨fun _ => .inr ⟨hr, hn2, .inl hs⟩, fun _ => rfl⟩
/-- a term is greater than what its parts are, or are greater than -/
theorem gt_part {r : Int → Int} {s : Int} {l : List Tm} {t u : Tm} (ha : (Tm.app s l).good) (hu : u.good) (hm : t ∈ l) (h : t = u ∨ gt r t u = true) : gt r (.app s l) u = true := by
  cases u with
  | var v =>
    rw [gt_v, occ_app]
    refine List.any_eq_true.2 ⟨t, hm, ?_⟩
    rcases h with rfl | h
    · rw [occ_var]; simp
    · obtain ⟨s2, l2, rfl⟩ := gt_isApp h
      rwa [gt_v] at h
  | app s' l' => exact (gt_iff ha hu).2 (.inl ⟨t, hm, h⟩)
/-- variables of the smaller one are in the greater one -/
theorem gt_occ {r : Int → Int} : ∀ (n : Nat) (a b : Tm), a.size + b.size ≤ n → a.good → b.good → gt r a b = true → ∀ v, occT v b = true → occT v a = true
  | 0, a, b, hn, _, _, _, _, _ => by have := Tm.size_pos a; have := Tm.size_pos b; omega
  | n + 1, a, b, hn, ha, hb, h, v, hv => by
    obtain ⟨s, l, rfl⟩ := gt_isApp h
    have e1 := Tm.size.eq_2 s l
    have hga := ha
    rw [Tm.good] at hga
    cases b with
    | var c =>
      rw [gt_v] at h
      rw [occ_var, decide_eq_true_iff] at hv
      subst hv
      exact h
    | app s' l' =>
      have e2 := Tm.size.eq_2 s' l'
      have hgb := hb
      rw [Tm.good] at hgb
      rcases (gt_iff ha hb).1 h with ⟨t, ht, h2⟩ | ⟨_, h2, _⟩
      · rw [occ_app]
        refine List.any_eq_true.2 ⟨t, ht, ?_⟩
        rcases h2 with rfl | h2
        · exact hv
        · exact gt_occ n t _ (by have := sizes_mem l t ht; omega) (goods_mem hga.2.2 ht) hb h2 v hv
      · rw [occ_app] at hv
        obtain ⟨u, hu, hv2⟩ := List.any_eq_true.1 hv
        exact gt_occ n _ u (by have := sizes_mem l' u hu; omega) ha (goods_mem hgb.2.2 hu) (h2 u hu) v hv2
theorem lex_trans {g : Tm → Tm → Bool} : ∀ (l m k : List Tm), (∀ t, t ∈ l ++ m ++ k → t.good) → (∀ x y z, x ∈ l → y ∈ m → z ∈ k → g x y = true → g y z = true → g x z = true) →
    (∀ x z, x ∈ l → z ∈ k → g x z = true → x ≠ z) → lexF g l m = true → lexF g m k = true → lexF g l k = true
  | [], _, _, _, _, _, h, _ => by rw [lexF] at h; cases h; (intros; simp_all)
  | _ :: _, [], _, _, _, _, h, _ => by rw [lexF] at h; cases h; (intros; simp_all)
  | _ :: _, _ :: _, [], _, _, _, _, h => by rw [lexF] at h; cases h; (intros; simp_all)
  | x :: l, y :: m, z :: k, hg, ht, hi, h1, h2 => by
    have gx := hg x (by simp)
    have gy := hg y (by simp)
    have gz := hg z (by simp)
    rw [lexF] at h1 h2 ⊢
    by_cases e1 : sameB x y = true
    · rw [if_pos e1] at h1
      obtain rfl := (same_iff gx gy).1 e1
      by_cases e2 : sameB x z = true
      · rw [if_pos e2] at h2
        rw [if_pos e2]
        exact lex_trans l m k (fun t h => hg t (by simp at h ⊢; rcases h with h | h | h <;> simp [h])) (fun a b c ha hb hc => ht a b c (by simp [ha]) (by simp [hb]) (by simp [hc])) (fun a c ha hc => hi a c (by simp [ha]) (by simp [hc])) h1 h2
      · rw [if_neg e2] at h2
        rw [if_neg e2]
        exact h2
    · rw [if_neg e1] at h1
      by_cases e2 : sameB y z = true
      · obtain rfl := (same_iff gy gz).1 e2
        rw [if_neg e1]
        exact h1
      · rw [if_neg e2] at h2
        have h3 := ht x y z (by simp) (by simp) (by simp) h1 h2
        rw [if_neg (fun e => hi x z (by simp) (by simp) h3 ((same_iff gx gz).1 e))]
        exact h3
/-- ranks of different symbols differ -/
def RankInj (r : Int → Int) : Prop := ∀ s s' : Int, 97 ≤ s ∧ s ≤ 102 → 97 ≤ s' ∧ s' ≤ 102 → r s = r s' → s = s'
theorem lex_self {g : Tm → Tm → Bool} : ∀ l : List Tm, lexF g l l = false
  | [] => rfl
  | t :: l => by rw [lexF, if_pos (same_refl t)]; exact lex_self l
/-- a term is greater than the parts of what it is greater than -/
theorem gt_sub {r : Int → Int} {s' : Int} {l' : List Tm} (hb : (Tm.app s' l').good) {u : Tm} (hu : u ∈ l') : ∀ (n : Nat) (a : Tm), a.size ≤ n → a.good → gt r a (.app s' l') = true → gt r a u = true
  | 0, a, hn, _, _ => by have := Tm.size_pos a; omega
  | n + 1, a, hn, ha, h => by
    obtain ⟨s, l, rfl⟩ := gt_isApp h
    have e1 := Tm.size.eq_2 s l
    have hga := ha
    have hgb := hb
    rw [Tm.good] at hga hgb
    have hug := goods_mem hgb.2.2 hu
    rcases (gt_iff ha hb).1 h with ⟨t, ht, h3⟩ | ⟨_, h2, _⟩
    · refine gt_part ha hug ht (.inr ?_)
      rcases h3 with rfl | h3
      · exact gt_part hb hug hu (.inl rfl)
      · exact gt_sub hb hu n t (by have := sizes_mem l t ht; omega) (goods_mem hga.2.2 ht) h3
    · exact h2 u hu
theorem gt_irr {r : Int → Int} : ∀ (n : Nat) (a : Tm), a.size ≤ n → a.good → gt r a a = false
  | 0, a, hn, _ => by have := Tm.size_pos a; omega
  | n + 1, .var c, hn, ha => by rw [gt_var]
  | n + 1, .app s l, hn, ha => by
    have e1 := Tm.size.eq_2 s l
    have hga := ha
    rw [Tm.good] at hga
    cases hx : gt r (.app s l) (.app s l) with
    | false => rfl
    | true =>
      exfalso
      rcases (gt_iff ha ha).1 hx with ⟨t, ht, h3⟩ | ⟨_, _, h | ⟨_, h⟩⟩
      · have h4 := sizes_mem l t ht
        rcases h3 with rfl | h3
        · omega
        · have h5 := gt_sub (r := r) ha ht _ t (Int.self_le_toNat _) (goods_mem hga.2.2 ht) h3
          rw [gt_irr n t (by omega) (goods_mem hga.2.2 ht)] at h5
          cases h5
      · exact h rfl
      · rw [lex_self] at h; cases h
theorem gt_irrefl {r : Int → Int} {a : Tm} (ha : a.good) : gt r a a = false := gt_irr _ a (Int.self_le_toNat _) ha
theorem gt_trn {r : Int → Int} (hr : RankInj r) : ∀ (n : Nat) (a b c : Tm), a.size + b.size + c.size ≤ n → a.good → b.good → c.good → gt r a b = true → gt r b c = true → gt r a c = true
  | 0, a, b, c, hn, _, _, _, _, _ => by have := Tm.size_pos a; have := Tm.size_pos b; have := Tm.size_pos c; omega
  | n + 1, a, b, c, hn, ha, hb, hc, h1, h2 => by
    have ih1 := gt_trn hr n
    obtain ⟨s, l, rfl⟩ := gt_isApp h1
    obtain ⟨s', l', rfl⟩ := gt_isApp h2
    have e1 := Tm.size.eq_2 s l
    have e2 := Tm.size.eq_2 s' l'
    have hga := ha
    have hgb := hb
    rw [Tm.good] at hga hgb
    cases c with
    | var v =>
      rw [gt_v] at h2 ⊢
      exact gt_occ _ _ _ (Int.self_le_toNat _) ha hb h1 v h2
    | app s'' l'' =>
      have e3 := Tm.size.eq_2 s'' l''
      have hgc := hc
      rw [Tm.good] at hgc
      rcases (gt_iff ha hb).1 h1 with ⟨t, ht, h3⟩ | ⟨hr1, hall1, hor1⟩
      · refine gt_part ha hc ht (.inr ?_)
        rcases h3 with rfl | h3
        · exact h2
        · exact ih1 t _ _ (by have := sizes_mem l t ht; omega) (goods_mem hga.2.2 ht) hb hc h3 h2
      · rcases (gt_iff hb hc).1 h2 with ⟨u, hu, h3⟩ | ⟨hr2, hall2, hor2⟩
        · have h4 := hall1 u hu
          rcases h3 with rfl | h3
          · exact h4
          · exact ih1 _ u _ (by have := sizes_mem l' u hu; omega) ha (goods_mem hgb.2.2 hu) hc h4 h3
        · refine (gt_iff ha hc).2 (.inr ⟨by omega, fun w hw => ih1 _ _ w (by have := sizes_mem l'' w hw; omega) ha hb (goods_mem hgc.2.2 hw) h1 (hall2 w hw), ?_⟩)
          by_cases hs : s = s''
          · refine .inr ⟨hs, ?_⟩
            have hss : s = s' := hr s s' hga.1 hgb.1 (by subst hs; omega)
            rcases hor1 with h | ⟨_, hl1⟩
            · exact absurd hss h
            · rcases hor2 with h | ⟨_, hl2⟩
              · exact absurd (hss.symm.trans hs) h
              · refine lex_trans l l' l'' ?_ (fun x y z hx hy hz => ih1 x y z (by have := sizes_mem l x hx; have := sizes_mem l' y hy; have := sizes_mem l'' z hz; omega) (goods_mem hga.2.2 hx) (goods_mem hgb.2.2 hy) (goods_mem hgc.2.2 hz)) (fun x z hx hz hgt he => ?_) hl1 hl2
                · intro t ht
                  simp only [List.mem_append] at ht
                  rcases ht with (ht | ht) | ht
                  · exact goods_mem hga.2.2 ht
                  · exact goods_mem hgb.2.2 ht
                  · exact goods_mem hgc.2.2 ht
                · subst he
                  rw [gt_irrefl (goods_mem hga.2.2 hx)] at hgt
                  cases hgt
          · exact .inl hs
theorem gt_trans {r : Int → Int} (hr : RankInj r) {a b c : Tm} (ha : a.good) (hb : b.good) (hc : c.good) (h1 : gt r a b = true) (h2 : gt r b c = true) : gt r a c = true :=
  gt_trn hr _ a b c (Int.self_le_toNat _) ha hb hc h1 h2
/-- terms without variables -/
def Tm.ground (t : Tm) : Prop := ∀ v, occT v t = false
theorem ground_mem {s : Int} {l : List Tm} (h : (Tm.app s l).ground) {t : Tm} (ht : t ∈ l) : t.ground := by
  intro v
  have := h v
  rw [occ_app] at this
  exact Bool.eq_false_iff.2 (fun e => by rw [List.any_eq_true.2 ⟨t, ht, e⟩] at this; cases this)
theorem lex_total {g : Tm → Tm → Bool} : ∀ (l m : List Tm), l.length = m.length → (∀ t, t ∈ l ++ m → t.good) → (∀ x y, x ∈ l → y ∈ m → x ≠ y → g x y = true ∨ g y x = true) → l ≠ m → lexF g l m = true ∨ lexF g m l = true
  | [], [], _, _, _, h => absurd rfl h
  | [], _ :: _, h, _, _, _ => by simp at h
  | _ :: _, [], h, _, _, _ => by simp at h
  | x :: l, y :: m, hl, hg, ht, hne => by
    have gx := hg x (by simp)
    have gy := hg y (by simp)
    rw [lexF, lexF]
    by_cases e : x = y
    · subst e
      rw [if_pos (same_refl x), if_pos (same_refl x)]
      refine lex_total l m (by simpa using hl) (fun t h => hg t (by simp at h ⊢; rcases h with h | h <;> simp [h])) (fun a b ha hb => ht a b (by simp [ha]) (by simp [hb])) (fun e => hne (by rw [e]))
    · rw [if_neg (fun h => e ((same_iff gx gy).1 h)), if_neg (fun h => e ((same_iff gy gx).1 h).symm)]
      exact ht x y (by simp) (by simp) e
theorem gt_total {r : Int → Int} (hr : RankInj r) : ∀ (n : Nat) (a b : Tm), a.size + b.size ≤ n → a.good → b.good → a.ground → b.ground → a ≠ b → gt r a b = true ∨ gt r b a = true
  | 0, a, b, hn, _, _, _, _, _ => by have := Tm.size_pos a; have := Tm.size_pos b; omega
  | n + 1, a, b, hn, ha, hb, ga, gb, hne => by
    cases a with
    | var c => have := ga c; rw [occ_var] at this; simp at this
    | app s l =>
      cases b with
      | var c => have := gb c; rw [occ_var] at this; simp at this
      | app s' l' =>
        have e1 := Tm.size.eq_2 s l
        have e2 := Tm.size.eq_2 s' l'
        have hga := ha
        have hgb := hb
        rw [Tm.good] at hga hgb
        by_cases hA : ∃ t, t ∈ l ∧ (t = .app s' l' ∨ gt r t (.app s' l') = true)
        · obtain ⟨t, ht, h⟩ := hA
          exact .inl (gt_part ha hb ht h)
        · by_cases hB : ∃ t, t ∈ l' ∧ (t = .app s l ∨ gt r t (.app s l) = true)
          · obtain ⟨t, ht, h⟩ := hB
            exact .inr (gt_part hb ha ht h)
          · have h1 : ∀ u, u ∈ l' → gt r (.app s l) u = true := fun u hu => by
              rcases gt_total hr n (.app s l) u (by have := sizes_mem l' u hu; omega) ha (goods_mem hgb.2.2 hu) ga (ground_mem gb hu) (fun e => hB ⟨u, hu, .inl e.symm⟩) with h | h
              · exact h
              · exact absurd ⟨u, hu, .inr h⟩ hB
            have h2 : ∀ u, u ∈ l → gt r (.app s' l') u = true := fun u hu => by
              rcases gt_total hr n u (.app s' l') (by have := sizes_mem l u hu; omega) (goods_mem hga.2.2 hu) hb (ground_mem ga hu) gb (fun e => hA ⟨u, hu, .inl e⟩) with h | h
              · exact absurd ⟨u, hu, .inr h⟩ hA
              · exact h
            by_cases hs : s = s'
            · subst hs
              have hll : l.length = l'.length := by omega
              rcases lex_total (g := gt r) l l' hll (fun t ht => by
                  rcases List.mem_append.1 ht with ht | ht
                  · exact goods_mem hga.2.2 ht
                  · exact goods_mem hgb.2.2 ht) (fun x y hx hy hxy => gt_total hr n x y (by have := sizes_mem l x hx; have := sizes_mem l' y hy; omega) (goods_mem hga.2.2 hx) (goods_mem hgb.2.2 hy) (ground_mem ga hx) (ground_mem gb hy) hxy) (fun e => hne (by rw [e])) with h | h
              · exact .inl ((gt_iff ha hb).2 (.inr ⟨by omega, h1, .inr ⟨rfl, h⟩⟩))
              · exact .inr ((gt_iff hb ha).2 (.inr ⟨by omega, h2, .inr ⟨rfl, h⟩⟩))
            · by_cases hrr : r s > r s'
              · exact .inr ((gt_iff hb ha).2 (.inr ⟨by omega, h2, .inl (fun e => hs e.symm)⟩))
              · exact .inl ((gt_iff ha hb).2 (.inr ⟨hrr, h1, .inl hs⟩))
end Go.Proofs.YtaafeallcaiooaaGreat.Pr
/- Apply on texts of terms; terms without variables; Greater on texts. -/
/- the path order is stable: under substitutions, and in larger terms. -/
namespace Go.Proofs.YtaafeallcaiooaaGreat.Pr
open Go.RowKit
set_option linter.unusedVariables false
set_option linter.unusedSimpArgs false
theorem sub_app (σ : Sub) (s : Int) (l : List Tm) : (Tm.app s l).sub σ = .app s (l.map (Tm.sub σ)) := by rw [Tm.sub, subL_map]
theorem lex_map {r : Int → Int} {f : Tm → Tm} : ∀ (l m : List Tm), (∀ t, t ∈ l ++ m → t.good ∧ (f t).good) → (∀ x y, x ∈ l → y ∈ m → gt r x y = true → gt r (f x) (f y) = true) → lexF (gt r) l m = true → lexF (gt r) (l.map f) (m.map f) = true
  | [], _, _, _, h => by rw [lexF] at h; cases h; (intros; simp_all)
  | _ :: _, [], _, _, h => by rw [lexF] at h; cases h; (intros; simp_all)
  | x :: l, y :: m, hg, ht, h => by
    have gx := hg x (by simp)
    have gy := hg y (by simp)
    rw [List.map_cons, List.map_cons, lexF]
    rw [lexF] at h
    by_cases e : x = y
    · subst e
      rw [if_pos (same_refl x)] at h
      rw [if_pos (same_refl _)]
      exact lex_map l m (fun t h => hg t (by simp at h ⊢; rcases h with h | h <;> simp [h])) (fun a b ha hb => ht a b (by simp [ha]) (by simp [hb])) h
    · rw [if_neg (fun h => e ((same_iff gx.1 gy.1).1 h))] at h
      have h2 := ht x y (by simp) (by simp) h
      rw [if_neg (fun h3 => by
        have h4 := (same_iff gx.2 gy.2).1 h3
        rw [h4, gt_irrefl gy.2] at h2
        cases h2)]
      exact h2
theorem gt_subv {r : Int → Int} {σ : Sub} (hσ : ∀ c u, σ c = some u → u.good) (v : Int) (hv : (Tm.var v).good) : ∀ (n : Nat) (s : Int) (l : List Tm), (Tm.app s l).size ≤ n → (Tm.app s l).good → occT v (.app s l) = true → gt r ((Tm.app s l).sub σ) ((Tm.var v).sub σ) = true
  | 0, s, l, hn, _, _ => by have := Tm.size_pos (.app s l); omega
  | n + 1, s, l, hn, hg, h => by
    have e1 := Tm.size.eq_2 s l
    have hga := hg
    rw [Tm.good] at hga
    rw [occ_app] at h
    obtain ⟨t, ht, h2⟩ := List.any_eq_true.1 h
    have h3 := sub_good σ hσ _ hg
    rw [sub_app] at h3 ⊢
    refine gt_part h3 (sub_good σ hσ _ hv) (List.mem_map.2 ⟨t, ht, rfl⟩) ?_
    cases t with
    | var c =>
      rw [occ_var, decide_eq_true_iff] at h2
      subst h2
      exact .inl rfl
    | app s' l' => exact .inr (gt_subv hσ v hv n s' l' (by have := sizes_mem l _ ht; omega) (goods_mem hga.2.2 ht) h2)
theorem gt_stab {r : Int → Int} {σ : Sub} (hσ : ∀ c u, σ c = some u → u.good) : ∀ (n : Nat) (a b : Tm), a.size + b.size ≤ n → a.good → b.good → gt r a b = true → gt r (a.sub σ) (b.sub σ) = true
  | 0, a, b, hn, _, _, _ => by have := Tm.size_pos a; have := Tm.size_pos b; omega
  | n + 1, a, b, hn, ha, hb, h => by
    obtain ⟨s, l, rfl⟩ := gt_isApp h
    have e1 := Tm.size.eq_2 s l
    have hga := ha
    rw [Tm.good] at hga
    cases b with
    | var v =>
      rw [gt_v] at h
      exact gt_subv hσ v hb _ s l (Int.self_le_toNat _) ha h
    | app s' l' =>
      have e2 := Tm.size.eq_2 s' l'
      have hgb := hb
      rw [Tm.good] at hgb
      have h3 := sub_good σ hσ _ ha
      have h4 := sub_good σ hσ _ hb
      rcases (gt_iff ha hb).1 h with ⟨t, ht, h2⟩ | ⟨h1, h2, h5⟩
      · rw [sub_app] at h3 ⊢
        refine gt_part h3 h4 (List.mem_map.2 ⟨t, ht, rfl⟩) ?_
        rcases h2 with rfl | h2
        · exact .inl rfl
        · exact .inr (gt_stab hσ n t _ (by have := sizes_mem l t ht; omega) (goods_mem hga.2.2 ht) hb h2)
      · rw [sub_app] at h3 h4
        have hS := fun u hu => gt_stab (r := r) hσ n (.app s l) u (by have := sizes_mem l' u hu; omega) ha (goods_mem hgb.2.2 hu) (h2 u hu)
        rw [sub_app, sub_app]
        refine (gt_iff h3 h4).2 (.inr ⟨h1, fun u hu => ?_, ?_⟩)
        · obtain ⟨w, hw, rfl⟩ := List.mem_map.1 hu
          have := hS w hw
          rwa [sub_app] at this
        · rcases h5 with h5 | ⟨h5, h6⟩
          · exact .inl h5
          · refine .inr ⟨h5, lex_map l l' (fun t ht => ?_) (fun x y hx hy => gt_stab hσ n x y (by have := sizes_mem l x hx; have := sizes_mem l' y hy; omega) (goods_mem hga.2.2 hx) (goods_mem hgb.2.2 hy)) h6⟩
            have hg : t.good := by
              rcases List.mem_append.1 ht with ht | ht
              · exact goods_mem hga.2.2 ht
              · exact goods_mem hgb.2.2 ht
            exact ⟨hg, sub_good σ hσ _ hg⟩
theorem lex_ctx {g : Tm → Tm → Bool} {x y : Tm} {post : List Tm} (hne : sameB x y = false) : ∀ pre : List Tm, lexF g (pre ++ x :: post) (pre ++ y :: post) = g x y
  | [] => by rw [List.nil_append, List.nil_append, lexF, if_neg (by rw [hne]; simp)]
  | t :: pre => by rw [List.cons_append, List.cons_append, lexF, if_pos (same_refl t)]; exact lex_ctx hne pre
end Go.Proofs.YtaafeallcaiooaaGreat.Pr
/- awake holds. -/
namespace Go.Proofs.YtaafeallcaiooaaGreat.Pr
open Go.RowKit Go.Proofs.YtaafeallcaiooaaGreatW.PrintWords Go.Proofs.YtaafeallcaiooaaGreatW.PrintLast Go.Proofs.YtaafeallcaiooaaGreatW.PrintMore
theorem t1 : nextsT [⟨⟨#[101, 40, 120, 44, 121, 41]⟩, ⟨#[101, 40, 121, 44, 120, 41]⟩⟩] ⟨#[101, 40, 97, 44, 98, 41]⟩ = (0, [⟨#[101, 40, 98, 44, 97, 41]⟩]) := by kernel_rfl
theorem t2 : (valT [[0], [1], [1, 1], [0, 1], [0, 1, 1], [0, 1, 2]] ⟨#[102, 40, 99, 40, 98, 41, 44, 120, 41]⟩).1 = 0 := by kernel_rfl
theorem t3 : orientT [⟨⟨#[99, 40, 100, 40, 120, 41, 41]⟩, ⟨#[100, 40, 99, 40, 120, 41, 41]⟩⟩] = (0, ⟨#[97, 98, 99, 100, 101, 102]⟩) := by kernel_rfl
theorem awake_true : numnahlaw08_awake.f 20 = some true := by kernel_rfl
end Go.Proofs.YtaafeallcaiooaaGreat.Pr
namespace Go.Proofs.YtaafeallcaiooaaGreat.Pr
open Go.RowKit Go.Proofs.YtaafeallcaiooaaGreatW.PrintWords Go.Proofs.YtaafeallcaiooaaGreatW.PrintLast Go.Proofs.YtaafeallcaiooaaGreatW.PrintMore
set_option linter.unusedVariables false
set_option linter.unusedSimpArgs false
/-- three terms in place of the variables -/
def sub3 (x y z : Tm) : Sub := fun v => if v = 120 then some x else if v = 121 then some y else if v = 122 then some z else none
theorem applyL_app (s0 s1 s2 a b : List UInt8) : applyL s0 s1 s2 (a ++ b) = applyL s0 s1 s2 a ++ applyL s0 s1 s2 b := by unfold applyL; rw [List.flatMap_append]
theorem applyL_cons (s0 s1 s2 : List UInt8) (c : UInt8) (b : List UInt8) : applyL s0 s1 s2 (c :: b) = applyC s0 s1 s2 c ++ applyL s0 s1 s2 b := by unfold applyL; rw [List.flatMap_cons]
theorem applyC_no (s0 s1 s2 : List UInt8) {c : UInt8} (h : c.toNat < 120 ∨ 122 < c.toNat) : applyC s0 s1 s2 c = [c] := by
  unfold applyC
  rw [if_neg (fun e => by subst e; revert h; decide), if_neg (fun e => by subst e; revert h; decide), if_neg (fun e => by subst e; revert h; decide)]
theorem ch_nat {c : Int} (h : 0 ≤ c ∧ c ≤ 255) : (ch c).toNat = c.toNat := by have := ch_toNat h; omega
theorem applyM (s0 s1 s2 : List UInt8) (f : Tm → Tm) : ∀ (l : List Tm) (i : Nat), (∀ t, t ∈ l → applyL s0 s1 s2 t.tx = (f t).tx) → applyL s0 s1 s2 (txM i l) = txM i (l.map f)
  | [], i, _ => rfl
  | t :: l, i, h => by
    rw [txM, List.map_cons, txM, applyL_cons, applyL_app, h t (by simp), applyM s0 s1 s2 f l (i + 1) (fun u hu => h u (by simp [hu])), applyC_no s0 s1 s2 (by
      have := mark_nat i
      unfold mark at this ⊢
      split
      · left; decide
      · left; decide)]
    rfl
theorem apply_tx (x y z : Tm) : ∀ t : Tm, t.good → applyL x.tx y.tx z.tx t.tx = (t.sub (sub3 x y z)).tx := by
  refine Tm.ind (fun c hg => ?_) (fun s l ih hg => ?_)
  · rw [Tm.good] at hg
    rw [Tm.tx, applyL_cons, Tm.sub]
    have : c = 120 ∨ c = 121 ∨ c = 122 := by omega
    rcases this with rfl | rfl | rfl
    · show applyC x.tx y.tx z.tx 120 ++ [] = _
      rw [List.append_nil]; rfl
    · show applyC x.tx y.tx z.tx 121 ++ [] = _
      rw [List.append_nil]; rfl
    · show applyC x.tx y.tx z.tx 122 ++ [] = _
      rw [List.append_nil]; rfl
  · have hl2 := good_len hg
    rw [Tm.good] at hg
    have hc : applyC x.tx y.tx z.tx (ch s) = [ch s] := applyC_no _ _ _ (by left; rw [ch_nat (by omega)]; omega)
    rw [sub_app, tx_app2 s l hl2, tx_app2 s _ (by rw [List.length_map]; exact hl2), List.length_map, applyL_cons, hc]
    by_cases h0 : l.length = 0
    · rw [if_pos h0, if_pos h0]; rfl
    · rw [if_neg h0, if_neg h0, applyL_app, applyM _ _ _ (Tm.sub (sub3 x y z)) l 0 (fun t ht => ih t ht (goods_mem hg.2.2 ht))]
      rfl
theorem apply_eval {t x y z : Tm} (hg : t.good) (ht : t.size ≤ 1000) (hx : x.size ≤ 1000) (hy : y.size ≤ 1000) (hz : z.size ≤ 1000) : numnahref08_Apply.f t.text x.text y.text z.text = some (t.sub (sub3 x y z)).text := by
  have h1 := text_le ht
  have h2 := text_le hx
  have h3 := text_le hy
  have h4 := text_le hz
  unfold numnahref08_Apply.f
  rw [if_pos ⟨by omega, by omega, by omega, by omega⟩]
  congr 1
  show B8 (applyL (B8 x.tx).data.toList (B8 y.tx).data.toList (B8 z.tx).data.toList (B8 t.tx).data.toList) = _
  rw [B8_list, B8_list, B8_list, B8_list, apply_tx x y z t hg]
  rfl
/-! ### terms without variables -/
def aT : Tm := .app 97 []
theorem aT_good : aT.good := by unfold aT; rw [Tm.good, Tm.goods]; exact ⟨by omega, by simp [nParts], trivial⟩
theorem aT_size : aT.size = 1 := by unfold aT; rw [Tm.size, Tm.sizes]; rfl
theorem aT_text : aT.text = ⟨#[97]⟩ := rfl
theorem sub3_good {x y z : Tm} (hx : x.good) (hy : y.good) (hz : z.good) : ∀ c u, sub3 x y z c = some u → u.good := by
  intro c u h
  unfold sub3 at h
  split at h
  · injection h with h; subst h; exact hx
  · split at h
    · injection h with h; subst h; exact hy
    · split at h
      · injection h with h; subst h; exact hz
      · cases h
theorem sub3_le {x y z : Tm} {M : Int} (hx : x.size ≤ M) (hy : y.size ≤ M) (hz : z.size ≤ M) : SubLe M (sub3 x y z) := by
  intro c u h
  unfold sub3 at h
  split at h
  · injection h with h; subst h; exact hx
  · split at h
    · injection h with h; subst h; exact hy
    · split at h
      · injection h with h; subst h; exact hz
      · cases h
/-- a in place of all variables -/
def Tm.gr (t : Tm) : Tm := t.sub (sub3 aT aT aT)
theorem gr_good {t : Tm} (h : t.good) : t.gr.good := sub_good _ (sub3_good aT_good aT_good aT_good) t h
theorem gr_size (t : Tm) : t.gr.size ≤ t.size := by
  have := sub_le 1 (by omega) (sub3 aT aT aT) (sub3_le (by rw [aT_size]; omega) (by rw [aT_size]; omega) (by rw [aT_size]; omega)) t
  unfold Tm.gr
  omega
theorem aT_occ (v : Int) : occT v aT = false := by unfold aT; rw [occ_app]; rfl
theorem gr_ground : ∀ t : Tm, t.good → t.gr.ground := by
  refine Tm.ind (fun c hg v => ?_) (fun s l ih hg v => ?_)
  · rw [Tm.good] at hg
    unfold Tm.gr
    rw [Tm.sub]
    have : c = 120 ∨ c = 121 ∨ c = 122 := by omega
    rcases this with rfl | rfl | rfl <;> exact aT_occ v
  · rw [Tm.good] at hg
    unfold Tm.gr
    rw [sub_app, occ_app]
    refine Bool.eq_false_iff.2 (fun h => ?_)
    obtain ⟨u, hu, h2⟩ := List.any_eq_true.1 h
    obtain ⟨w, hw, rfl⟩ := List.mem_map.1 hu
    have h3 := ih w hw (goods_mem hg.2.2 hw) v
    unfold Tm.gr at h3
    rw [h3] at h2
    cases h2
/-! ### Greater on texts -/
theorem greater_eval {p : ByteArray} {a b : Tm} (hp : precOk p = true) (hs : p.size ≤ 1000000) (ha : a.good) (hb : b.good) (sa : a.size ≤ 60) (sb : b.size ≤ 60) : rules_Greater.f p a.text b.text = some (gt (rankP p) a b, 0) := by
  unfold rules_Greater.f
  rw [if_pos hs]
  unfold greaterE
  rw [hp]
  dsimp only
  rw [readT_back ha sa]
  dsimp only
  rw [readT_back hb sb]
theorem text2' (c : UInt8) (t u : Tm) : (⟨#[c, 40]⟩ : ByteArray) ++ t.text ++ ⟨#[44]⟩ ++ u.text ++ ⟨#[41]⟩ = (Tm.app (c.toNat : Int) [t, u]).text := by
  rw [← text2]
  rfl
theorem text1' (c : UInt8) (t : Tm) : (⟨#[c, 40]⟩ : ByteArray) ++ t.text ++ ⟨#[41]⟩ = (Tm.app (c.toNat : Int) [t]).text := by
  rw [← text1]
  rfl
theorem awake_mono : ∀ n, numnahlaw08_awake.f (20 + n) = some true
  | 0 => awake_true
  | n + 1 => numnahlaw08_awake.mono (20 + n) true (awake_mono n)
theorem awakeE : Evt (fun k => numnahlaw08_awake.f k) true := ⟨20, fun k hk => by
  have := awake_mono (k - 20)
  rwa [show 20 + (k - 20) = k by omega] at this⟩
end Go.Proofs.YtaafeallcaiooaaGreat.Pr
/- order makes a precedence of any number. -/
/- order: precedences made from numbers; their ranks differ. -/
namespace Go.Proofs.YtaafeallcaiooaaGreat.Pr
open Go.RowKit Go.Proofs.YtaafeallcaiooaaGreatW.PrintWords Go.Proofs.YtaafeallcaiooaaGreatW.PrintLast Go.Proofs.YtaafeallcaiooaaGreatW.PrintMore
set_option linter.unusedVariables false
set_option linter.unusedSimpArgs false
/-! ### ranks -/
theorem rkL_get {L : List UInt8} (hn : L.Nodup) : ∀ m, m ≤ L.length → ∀ k (h : k < L.length), k < m → getL (rkL (B8 L) m) (L[k].toNat : Int) = some (.int .i64 (k : Int))
  | 0, _, k, _, h => by omega
  | m + 1, hm, k, hk, h => by
    have hml : m < L.length := by omega
    rw [rkL, bAt_list L m hml, getL_put]
    by_cases e : k = m
    · subst e
      rw [if_pos rfl]
    · rw [if_neg (fun h2 => e ((List.getElem_inj hn).1 (UInt8.toNat_inj.1 (by omega))))]
      exact rkL_get hn m (by omega) k hk (by omega)
theorem rank_get {L : List UInt8} (hn : L.Nodup) (k : Nat) (h : k < L.length) : rankP (B8 L) (L[k].toNat : Int) = k := by
  unfold rankP
  rw [B8_size, rkL_get hn L.length (Nat.le_refl _) k h h]
theorem sym_mem {L : List UInt8} (h6 : L.length = 6) (hn : L.Nodup) (hc : ∀ x, x ∈ L → x ∈ c6) (s : Int) (hs : 97 ≤ s ∧ s ≤ 102) : ∃ k, ∃ h : k < L.length, (L[k].toNat : Int) = s := by
  have hx : ∃ x : UInt8, x ∈ c6 ∧ (x.toNat : Int) = s := by
    have : s = 97 ∨ s = 98 ∨ s = 99 ∨ s = 100 ∨ s = 101 ∨ s = 102 := by omega
    rcases this with rfl | rfl | rfl | rfl | rfl | rfl
    · exact ⟨97, by decide, rfl⟩
    · exact ⟨98, by decide, rfl⟩
    · exact ⟨99, by decide, rfl⟩
    · exact ⟨100, by decide, rfl⟩
    · exact ⟨101, by decide, rfl⟩
    · exact ⟨102, by decide, rfl⟩
  obtain ⟨x, hx, rfl⟩ := hx
  obtain ⟨k, hk, rfl⟩ := List.getElem_of_mem (full6 h6 hn hc x hx)
  exact ⟨k, hk, rfl⟩
theorem rank_inj {L : List UInt8} (h6 : L.length = 6) (hn : L.Nodup) (hc : ∀ x, x ∈ L → x ∈ c6) : RankInj (rankP (B8 L)) := by
  intro s s' hs hs' he
  obtain ⟨k, hk, rfl⟩ := sym_mem h6 hn hc s hs
  obtain ⟨j, hj, rfl⟩ := sym_mem h6 hn hc s' hs'
  rw [rank_get hn k hk, rank_get hn j hj] at he
  have : k = j := by omega
  subst this
  rfl
/-! ### order -/
/-- an order of the six symbols -/
def IsPrec (p : ByteArray) : Prop := ∃ L : List UInt8, p = B8 L ∧ L.length = 6 ∧ L.Nodup ∧ ∀ x, x ∈ L → x ∈ c6
theorem IsPrec.ok {p : ByteArray} (h : IsPrec p) : precOk p = true := by
  obtain ⟨L, rfl, h6, hn, hc⟩ := h
  exact prec_perm h6 hn hc
theorem IsPrec.inj {p : ByteArray} (h : IsPrec p) : RankInj (rankP p) := by
  obtain ⟨L, rfl, h6, hn, hc⟩ := h
  exact rank_inj h6 hn hc
theorem IsPrec.size {p : ByteArray} (h : IsPrec p) : p.size = 6 := by
  obtain ⟨L, rfl, h6, hn, hc⟩ := h
  rw [B8_size]; exact h6
def precB (p : ByteArray) : Bool := decide (p.data.toList.length = 6) && (decide p.data.toList.Nodup && p.data.toList.all fun x => decide (x ∈ c6))
theorem precB_is {p : ByteArray} (h : precB p = true) : IsPrec p := by
  unfold precB at h
  rw [Bool.and_eq_true, Bool.and_eq_true, decide_eq_true_iff, decide_eq_true_iff, List.all_eq_true] at h
  exact ⟨p.data.toList, (B8_of p).symm, h.1, h.2.1, fun x hx => of_decide_eq_true (h.2.2 x hx)⟩
def optOk : Option ByteArray → Bool
  | some p => precB p
  | none => false
def ordOk (x : Nat) : Bool := optOk (numnahlaw08_order.l0 10 (x : Int) ⟨#[97]⟩ 1)
theorem ord_all : (List.range 720).all ordOk = true := by kernel_rfl
theorem ord_mono : ∀ (n k : Nat) (x : Int) (o : ByteArray) (i : Int) (r : ByteArray), numnahlaw08_order.l0 k x o i = some r → numnahlaw08_order.l0 (k + n) x o i = some r
  | 0, k, x, o, i, r, h => h
  | n + 1, k, x, o, i, r, h => by
    have h1 := ord_mono n k x o i r h
    exact numnahlaw08_order.mono_l (k + n) x o i r h1
end Go.Proofs.YtaafeallcaiooaaGreat.Pr
namespace Go.Proofs.YtaafeallcaiooaaGreat.Pr
open Go.RowKit Go.Proofs.YtaafeallcaiooaaGreatW.PrintWords Go.Proofs.YtaafeallcaiooaaGreatW.PrintLast Go.Proofs.YtaafeallcaiooaaGreatW.PrintMore
set_option linter.unusedVariables false
set_option linter.unusedSimpArgs false
theorem u64_nn (a : Int) : 0 ≤ IntKind.u64.wrap a := by
  simp only [IntKind.wrap, IntKind.bits, IntKind.signed]
  exact Int.emod_nonneg _ (by decide)
theorem u64_1 : IntKind.u64.wrap 1 = 1 := by decide
theorem u64_720 : IntKind.u64.wrap 720 = 720 := by decide
theorem w64_0 : wrap64 0 = 0 := wr (by omega) (by omega)
theorem mod_1 (a0 : Int) : numnahlaw08_mod.f a0 1 = some 0 := by
  unfold numnahlaw08_mod.f
  rw [u64_1, if_neg (by decide), Int.tmod_one, w64_0]
theorem mod_720 (a0 : Int) : ∃ m : Nat, m < 720 ∧ numnahlaw08_mod.f a0 720 = some (m : Int) := by
  have hu0 := u64_nn a0
  unfold numnahlaw08_mod.f
  rw [u64_720]
  generalize IntKind.u64.wrap a0 = u at *
  refine ⟨(u % 720).toNat, by omega, ?_⟩
  rw [if_neg (by decide), Int.tmod_eq_emod_of_nonneg hu0, wr (by omega) (by omega)]
  congr 1
  omega
theorem order_1 (a0 : Int) (m : Nat) (hm : m < 720) (h2 : numnahlaw08_mod.f a0 720 = some (m : Int)) (k : Nat) : numnahlaw08_order.l0 (k + 1) a0 ⟨#[]⟩ 0 = numnahlaw08_order.l0 k (m : Int) ⟨#[97]⟩ 1 := by
  have hw : wrap64 (0 + 1) = 1 := wr (by omega) (by omega)
  have hd : wrap64 (Int.tdiv (m : Int) 1) = (m : Int) := by rw [Int.tdiv_one]; exact wr (by omega) (by omega)
  rw [numnahlaw08_order.l0, if_pos (by decide), hw, mod_1, h2, Option.bind_some, Option.bind_some, if_neg (by decide), if_pos (by decide), if_pos (by decide), if_pos (by decide), if_pos (by decide), if_pos (by decide), if_pos (by decide), if_pos (by decide), hd]
  rfl
theorem ord_some (o : Option ByteArray) (h : optOk o = true) : ∃ p, o = some p ∧ IsPrec p := by
  cases o with
  | none => cases h
  | some p => exact ⟨p, rfl, precB_is h⟩
theorem ordP (m : Nat) (hm : m < 720) : ∃ p, numnahlaw08_order.l0 10 (m : Int) ⟨#[97]⟩ 1 = some p ∧ IsPrec p := by
  have hk : ordOk m = true := List.all_eq_true.1 ord_all m (List.mem_range.2 hm)
  unfold ordOk at hk
  exact ord_some _ hk
theorem ord_ev {a0 : Int} {m : Nat} {p : ByteArray} (hs : ∀ k, numnahlaw08_order.l0 (k + 1) a0 ⟨#[]⟩ 0 = numnahlaw08_order.l0 k (m : Int) ⟨#[97]⟩ 1) (n : Nat) (hp : numnahlaw08_order.l0 n (m : Int) ⟨#[97]⟩ 1 = some p) : Evt (fun k => numnahlaw08_order.f k a0) p := by
  refine ⟨n + 1, fun k hk => ?_⟩
  have e := hs (k - 1)
  have e4 := ord_mono (k - 1 - n) n (m : Int) ⟨#[97]⟩ 1 p hp
  rw [show k - 1 + 1 = k by omega] at e
  rw [show n + (k - 1 - n) = k - 1 by omega] at e4
  exact e.trans e4
theorem orderE (a0 : Int) : ∃ p, Evt (fun k => numnahlaw08_order.f k a0) p ∧ IsPrec p := by
  obtain ⟨m, hm, h2⟩ := mod_720 a0
  obtain ⟨p, hp, hP⟩ := ordP m hm
  exact ⟨p, ord_ev (order_1 a0 m hm h2) 10 hp, hP⟩
end Go.Proofs.YtaafeallcaiooaaGreat.Pr
/- RulesOrdered, plainly. -/
namespace Go.Proofs.YtaafeallcaiooaaGreat.Pr
open Go.RowKit Go.Proofs.YtaafeallcaiooaaGreatW.PrintWords Go.Proofs.YtaafeallcaiooaaGreatW.PrintLast Go.Proofs.YtaafeallcaiooaaGreatW.PrintMore
set_option linter.unusedVariables false
set_option linter.unusedSimpArgs false
theorem ground_eval {t : Tm} (hg : t.good) (ht : t.size ≤ 1000) : numnahlaw08_ground.f t.text = some t.gr.text := by
  unfold numnahlaw08_ground.f
  have h := apply_eval (x := aT) (y := aT) (z := aT) hg ht (by rw [aT_size]; omega) (by rw [aT_size]; omega) (by rw [aT_size]; omega)
  rw [aT_text] at h
  rw [h]
  rfl
theorem ordered_j0 {p : ByteArray} (hp : IsPrec p) {s t : Tm} (hs : s.good) (ht : t.good) (ss : s.size ≤ 12) (st : t.size ≤ 12) : Evt (fun k => numnahlaw08_RulesOrdered.j0 k p s.text t.text false) true := by
  have g1 := ground_eval hs (by omega)
  have g2 := ground_eval ht (by omega)
  have z1 := gr_size s
  have z2 := gr_size t
  have e1 := greater_eval hp.ok (by rw [hp.size]; omega) (gr_good hs) (gr_good ht) (by omega) (by omega)
  have e2 := greater_eval hp.ok (by rw [hp.size]; omega) (gr_good ht) (gr_good hs) (by omega) (by omega)
  have htot := gt_total hp.inj _ s.gr t.gr (Int.self_le_toNat _) (gr_good hs) (gr_good ht) (gr_ground s hs) (gr_ground t ht)
  have hirr := @gt_irrefl (rankP p) s.gr (gr_good hs)
  have htr : gt (rankP p) s.gr t.gr = true → gt (rankP p) t.gr s.gr = true → False := fun h1 h2 => by
    have := gt_trans hp.inj (gr_good hs) (gr_good ht) (gr_good hs) h1 h2
    rw [hirr] at this
    cases this
  have hne : ∀ b : Bool, (b = true ↔ s.gr ≠ t.gr) → b = (s.gr.text.toList != t.gr.text.toList) := by
    intro b hb
    by_cases h : s.gr = t.gr
    · rw [h]
      cases b with
      | true => exact absurd h (hb.1 rfl)
      | false => simp
    · have h2 : (s.gr.text.toList != t.gr.text.toList) = true := by
        refine bne_iff_ne.2 (fun e => h ?_)
        refine text_inj (gr_good hs) (gr_good ht) ?_
        rw [ByteArray.toList_eq, ByteArray.toList_eq] at e
        rw [← B8_of s.gr.text, e, B8_of]
      rw [h2]
      exact hb.2 h
  have hAB : gt (rankP p) s.gr t.gr = true → s.gr ≠ t.gr := fun h e => by rw [← e, hirr] at h; cases h
  have hBA : gt (rankP p) t.gr s.gr = true → s.gr ≠ t.gr := fun h e => by rw [← e, hirr] at h; cases h
  generalize gt (rankP p) s.gr t.gr = A at *
  generalize gt (rankP p) t.gr s.gr = B at *
  refine Evt.step (g' := fun k => (numnahlaw08_awake.f k).bind fun x => some x) (fun k => ?_) (Evt.bind awakeE (Evt.all fun _ => rfl))
  rw [numnahlaw08_RulesOrdered.j0, if_neg (by simp)]
  simp only [g1, g2, e1, e2, Option.bind_some]
  rw [if_pos trivial, if_pos trivial]
  cases A with
  | true =>
    cases B with
    | true => exact absurd (htr rfl rfl) id
    | false =>
      have h := hne true ⟨fun _ => hAB rfl, fun _ => rfl⟩
      rw [if_pos rfl, if_neg (by simp), ← h, if_pos (by rfl)]
  | false =>
    have h := hne B ⟨fun h => hBA h, fun h => by
      rcases htot h with h | h
      · cases h
      · exact h⟩
    rw [if_neg (by simp), ← h, if_pos (by simp)]
theorem ordered_all (a0 : Int) (x y z : ByteArray) (hx : x.size ≤ 9223372036854775807) (hy : y.size ≤ 9223372036854775807) (hz : z.size ≤ 9223372036854775807) : Evt (fun k => numnahlaw08_RulesOrdered.f k a0 x y z) true := by
  obtain ⟨p, hp, hP⟩ := orderE a0
  obtain ⟨s, hs, gs, ss⟩ := termE x hx 12 (by omega) (by omega)
  obtain ⟨t, ht, gt', st⟩ := termE y hy 12 (by omega) (by omega)
  obtain ⟨u, hu, gu, su⟩ := termE z hz 12 (by omega) (by omega)
  refine Evt.bind hp (Evt.bind hs (Evt.bind ht (Evt.bind hu ?_)))
  have hps : p.size ≤ 1000000 := by rw [hP.size]; omega
  have ts := text_le (t := s) (by omega)
  have tt := text_le (t := t) (by omega)
  have g1 := greater_eval hP.ok hps gs gt' (by omega) (by omega)
  have g2 := greater_eval hP.ok hps gt' gu (by omega) (by omega)
  have g3 := greater_eval hP.ok hps gs gu (by omega) (by omega)
  have g4 := greater_eval hP.ok hps gs gs (by omega) (by omega)
  have k1 := app2_good (c := 101) (.inl rfl) gs gt'
  have k2 := app2_good (c := 102) (.inr rfl) gs gt'
  have k3 := app1_good (c := 99) (.inl rfl) gs
  have g5 := greater_eval hP.ok hps k1 gs (by rw [size2]; omega) (by omega)
  have g6 := greater_eval hP.ok hps k2 gt' (by rw [size2]; omega) (by omega)
  have g7 := greater_eval hP.ok hps k3 gs (by rw [size1]; omega) (by omega)
  have x1 : gt (rankP p) (.app 101 [s, t]) s = true := gt_part k1 gs (by simp) (.inl rfl)
  have x2 : gt (rankP p) (.app 102 [s, t]) t = true := gt_part k2 gt' (by simp) (.inl rfl)
  have x3 : gt (rankP p) (.app 99 [s]) s = true := gt_part k3 gs (by simp) (.inl rfl)
  have w1 := text2' 101 s t
  have w2 := text2' 102 s t
  have w3 := text1' 99 s
  rw [x1] at g5
  rw [x2] at g6
  rw [x3] at g7
  rw [gt_irrefl gs] at g4
  have htr : gt (rankP p) s t = true → gt (rankP p) t u = true → gt (rankP p) s u = true := gt_trans hP.inj gs gt' gu
  have e1 : ∀ c : UInt8, (⟨#[c]⟩ : ByteArray).size = 1 := fun _ => rfl
  have e2 : ∀ c d : UInt8, (⟨#[c, d]⟩ : ByteArray).size = 2 := fun _ _ => rfl
  generalize gt (rankP p) s t = A at *
  generalize gt (rankP p) t u = B at *
  generalize gt (rankP p) s u = C at *
  refine Evt.congr (ordered_j0 hP gs gt' ss st) (fun k => ?_)
  have w1' : (⟨#[101, 40]⟩ : ByteArray) ++ s.text ++ ⟨#[44]⟩ ++ t.text ++ ⟨#[41]⟩ = (Tm.app 101 [s, t]).text := w1
  have w2' : (⟨#[102, 40]⟩ : ByteArray) ++ s.text ++ ⟨#[44]⟩ ++ t.text ++ ⟨#[41]⟩ = (Tm.app 102 [s, t]).text := w2
  have w3' : (⟨#[99, 40]⟩ : ByteArray) ++ s.text ++ ⟨#[41]⟩ = (Tm.app 99 [s]).text := w3
  rw [g1, Option.bind_some, g2, Option.bind_some, g3, Option.bind_some, g4, Option.bind_some]
  rw [if_pos (by omega), if_pos (by simp only [ByteArray.size_append, e1, e2]; omega), if_pos (by simp only [ByteArray.size_append, e1, e2]; omega), if_pos (by simp only [ByteArray.size_append, e1, e2]; omega), w1', g5, Option.bind_some]
  rw [if_pos (by simp only [ByteArray.size_append, e1, e2]; omega), if_pos (by simp only [ByteArray.size_append, e1, e2]; omega), if_pos (by simp only [ByteArray.size_append, e1, e2]; omega), w2', g6, Option.bind_some]
  rw [if_pos (by simp only [ByteArray.size_append, e1, e2]; omega), w3', g7, Option.bind_some]
  dsimp only
  rw [if_pos rfl, if_pos rfl, if_pos rfl, if_pos rfl, if_pos rfl, if_pos rfl, if_pos rfl]
  cases A <;> cases B <;> cases C <;> first | rfl | exact absurd (htr rfl rfl) (by simp)
end Go.Proofs.YtaafeallcaiooaaGreat.Pr
namespace Go.Proofs.YtaafeallcaiooaaGreat.Pure
open Go.RowKit Go.Proofs.YtaafeallcaiooaaGreat.Pr
theorem RulesOrdered : numnahlaw08_RulesOrdered.Pure := fun a0 a1 _ w1 =>
  (ordered_all a0 a1.f0 a1.f1 a1.f2 w1.1 w1.2.1 w1.2.2).ex
end Go.Proofs.YtaafeallcaiooaaGreat.Pure
