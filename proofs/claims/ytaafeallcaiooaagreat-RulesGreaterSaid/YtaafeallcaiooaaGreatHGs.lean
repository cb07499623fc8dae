/- the path order is stable: under substitutions, and in larger terms. -/
import Derived.Test.YtaafeallcaiooaaGreatHGt0
/- the path order: transitive, irreflexive, total on terms without variables, stable. -/
namespace Go.Proofs.YtaafeallcaiooaaGreat.Pr
open Go.RowKit
set_option linter.unusedVariables false
set_option linter.unusedSimpArgs false
theorem same_iff {a b : Tm} (ha : a.good) (hb : b.good) : sameB a b = true ↔ a = b := by
 rw [sameB_eq ha hb, decide_eq_true_iff]
 exact ⟨text_inj ha hb, fun h => by rw [h]⟩
theorem same_refl (a : Tm) : sameB a a = true := by unfold sameB; simp
theorem occ_app (v s : Int) (l : List Tm) : occT v (.app s l) = l.any (occT v) := by
 unfold occT
 rw [Tm.subs, List.any_cons]
 have : isVar v (.app s l) = false := by rfl
 rw [this, Bool.false_or]
 clear this
 induction l with
 | nil => rfl
 | cons t l ih => rw [Tm.subsL, List.any_append, List.any_cons, ih]
theorem occ_var (v c : Int) : occT v (.var c) = decide (v = c) := by
 unfold occT
 rw [Tm.subs]
 by_cases h : v = c
 ·subst h; simp [isVar]
 ·simp [isVar, h, show ¬ c = v from fun e => h e.symm]
/-- the greater one is made of a symbol -/
theorem gt_isApp {r : Int → Int} {a b : Tm} (h : gt r a b = true) : ∃ s l, a = .app s l := by
 cases a with
 | var c =>
  exfalso
  cases b with
  | var v => rw [gt_var] at h; cases h
  | app s l => rw [gt_va] at h; cases h
 | app s l => exact ⟨s, l, rfl⟩
theorem gt_v {r : Int → Int} {s v : Int} {l : List Tm} : gt r (.app s l) (.var v) = occT v (.app s l) := gt_var r _ v
/-- what makes a term greater than a compound one -/
theorem gt_iff {r : Int → Int} {s s' : Int} {l l' : List Tm} (ha : (Tm.app s l).good) (hb : (Tm.app s' l').good) : gt r (.app s l) (.app s' l') = true ↔
  (∃ t, t ∈ l ∧ (t = .app s' l' ∨ gt r t (.app s' l') = true)) ∨ (¬ r s > r s' ∧ (∀ u, u ∈ l' → gt r (.app s l) u = true) ∧ (s ≠ s' ∨ (s = s' ∧ lexF (gt r) l l' = true))) := by
 have hga := ha
 rw [Tm.good] at hga
 have h1 : (l.any (fun t => sameB t (.app s' l') || gt r t (.app s' l'))) = true ↔ ∃ t, t ∈ l ∧ (t = .app s' l' ∨ gt r t (.app s' l') = true) := by
  rw [List.any_eq_true]
  exact ⟨fun ⟨t, h, h2⟩ => ⟨t, h, (Bool.or_eq_true _ _ ▸ h2).imp (fun h3 => (same_iff (goods_mem hga.2.2 h) hb).1 h3) id⟩, fun ⟨t, h, h2⟩ => ⟨t, h, by
   rw [Bool.or_eq_true]
   exact h2.imp (fun h3 => (same_iff (goods_mem hga.2.2 h) hb).2 h3) id⟩⟩
 have h2 : (l'.all (fun u => gt r (.app s l) u)) = true ↔ ∀ u, u ∈ l' → gt r (.app s l) u = true := List.all_eq_true
 rw [gt_app, ← h1, ← h2]
 split
 ·rename_i h; simp [h]
 ·rename_i h
  split
  ·rename_i hr
   exact ⟨fun e => (by cases e), fun e => by rcases e with e | e; exact absurd e h; exact absurd hr e.1⟩
  ·rename_i hr
   split
   ·rename_i hn
    exact ⟨fun e => (by cases e), fun e => by
     rcases e with e | e
     ·exact absurd e h
     ·rw [e.2.1] at hn; cases hn⟩
   ·rename_i hn
    have hn2 : (l'.all fun u => gt r (.app s l) u) = true := by
     cases hx : (l'.all fun u => gt r (.app s l) u) with
     | true => rfl
     | false => rw [hx] at hn; exact absurd rfl hn
    by_cases hs : s = s'
    ·rw [if_neg (fun e => e hs)]
     exact ⟨fun e => .inr ⟨hr, hn2, .inr ⟨hs, e⟩⟩, fun e => by
      rcases e with e | ⟨_, _, e | e⟩
      ·exact absurd e h
      ·exact absurd hs e
      ·exact e.2⟩
    ·rw [if_pos hs]
     exact ⟨fun _ => .inr ⟨hr, hn2, .inl hs⟩, fun _ => rfl⟩
/-- a term is greater than what its parts are, or are greater than -/
theorem gt_part {r : Int → Int} {s : Int} {l : List Tm} {t u : Tm} (ha : (Tm.app s l).good) (hu : u.good) (hm : t ∈ l) (h : t = u ∨ gt r t u = true) : gt r (.app s l) u = true := by
 cases u with
 | var v =>
  rw [gt_v, occ_app]
  refine List.any_eq_true.2 ⟨t, hm, ?_⟩
  rcases h with rfl | h
  ·rw [occ_var]; simp
  ·obtain ⟨s2, l2, rfl⟩ := gt_isApp h
   rwa [gt_v] at h
 | app s' l' => exact (gt_iff ha hu).2 (.inl ⟨t, hm, h⟩)
/-- variables of the smaller one are in the greater one -/
theorem gt_occ {r : Int → Int} : ∀ (n : Nat) (a b : Tm), a.size + b.size ≤ n → a.good → b.good → gt r a b = true → ∀ v, occT v b = true → occT v a = true
 | 0, a, b, hn, _, _, _, _, _ => by have := Tm.size_pos a; have := Tm.size_pos b; omega
 | n + 1, a, b, hn, ha, hb, h, v, hv => by
  obtain ⟨s, l, rfl⟩ := gt_isApp h
  have e1 := Tm.size.eq_2 s l
  have hga := ha
  rw [Tm.good] at hga
  cases b with
  | var c =>
   rw [gt_v] at h
   rw [occ_var, decide_eq_true_iff] at hv
   subst hv
   exact h
  | app s' l' =>
   have e2 := Tm.size.eq_2 s' l'
   have hgb := hb
   rw [Tm.good] at hgb
   rcases (gt_iff ha hb).1 h with ⟨t, ht, h2⟩ | ⟨_, h2, _⟩
   ·rw [occ_app]
    refine List.any_eq_true.2 ⟨t, ht, ?_⟩
    rcases h2 with rfl | h2
    ·exact hv
    ·exact gt_occ n t _ (by have := sizes_mem l t ht; omega) (goods_mem hga.2.2 ht) hb h2 v hv
   ·rw [occ_app] at hv
    obtain ⟨u, hu, hv2⟩ := List.any_eq_true.1 hv
    exact gt_occ n _ u (by have := sizes_mem l' u hu; omega) ha (goods_mem hgb.2.2 hu) (h2 u hu) v hv2
theorem lex_trans {g : Tm → Tm → Bool} : ∀ (l m k : List Tm), (∀ t, t ∈ l ++ m ++ k → t.good) → (∀ x y z, x ∈ l → y ∈ m → z ∈ k → g x y = true → g y z = true → g x z = true) →
  (∀ x z, x ∈ l → z ∈ k → g x z = true → x ≠ z) → lexF g l m = true → lexF g m k = true → lexF g l k = true
 | [], _, _, _, _, _, h, _ => by rw [lexF] at h; cases h; (intros; simp_all)
 | _ :: _, [], _, _, _, _, h, _ => by rw [lexF] at h; cases h; (intros; simp_all)
 | _ :: _, _ :: _, [], _, _, _, _, h => by rw [lexF] at h; cases h; (intros; simp_all)
 | x :: l, y :: m, z :: k, hg, ht, hi, h1, h2 => by
  have gx := hg x (by simp)
  have gy := hg y (by simp)
  have gz := hg z (by simp)
  rw [lexF] at h1 h2 ⊢
  by_cases e1 : sameB x y = true
  ·rw [if_pos e1] at h1
   obtain rfl := (same_iff gx gy).1 e1
   by_cases e2 : sameB x z = true
   ·rw [if_pos e2] at h2
    rw [if_pos e2]
    exact lex_trans l m k (fun t h => hg t (by simp at h ⊢; rcases h with h | h | h <;> simp [h])) (fun a b c ha hb hc => ht a b c (by simp [ha]) (by simp [hb]) (by simp [hc])) (fun a c ha hc => hi a c (by simp [ha]) (by simp [hc])) h1 h2
   ·rw [if_neg e2] at h2
    rw [if_neg e2]
    exact h2
  ·rw [if_neg e1] at h1
   by_cases e2 : sameB y z = true
   ·obtain rfl := (same_iff gy gz).1 e2
    rw [if_neg e1]
    exact h1
   ·rw [if_neg e2] at h2
    have h3 := ht x y z (by simp) (by simp) (by simp) h1 h2
    rw [if_neg (fun e => hi x z (by simp) (by simp) h3 ((same_iff gx gz).1 e))]
    exact h3
/-- ranks of different symbols differ -/
def RankInj (r : Int → Int) : Prop := ∀ s s' : Int, 97 ≤ s ∧ s ≤ 102 → 97 ≤ s' ∧ s' ≤ 102 → r s = r s' → s = s'
theorem lex_self {g : Tm → Tm → Bool} : ∀ l : List Tm, lexF g l l = false
 | [] => rfl
 | t :: l => by rw [lexF, if_pos (same_refl t)]; exact lex_self l
/-- a term is greater than the parts of what it is greater than -/
theorem gt_sub {r : Int → Int} {s' : Int} {l' : List Tm} (hb : (Tm.app s' l').good) {u : Tm} (hu : u ∈ l') : ∀ (n : Nat) (a : Tm), a.size ≤ n → a.good → gt r a (.app s' l') = true → gt r a u = true
 | 0, a, hn, _, _ => by have := Tm.size_pos a; omega
 | n + 1, a, hn, ha, h => by
  obtain ⟨s, l, rfl⟩ := gt_isApp h
  have e1 := Tm.size.eq_2 s l
  have hga := ha
  have hgb := hb
  rw [Tm.good] at hga hgb
  have hug := goods_mem hgb.2.2 hu
  rcases (gt_iff ha hb).1 h with ⟨t, ht, h3⟩ | ⟨_, h2, _⟩
  ·refine gt_part ha hug ht (.inr ?_)
   rcases h3 with rfl | h3
   ·exact gt_part hb hug hu (.inl rfl)
   ·exact gt_sub hb hu n t (by have := sizes_mem l t ht; omega) (goods_mem hga.2.2 ht) h3
  ·exact h2 u hu
theorem gt_irr {r : Int → Int} : ∀ (n : Nat) (a : Tm), a.size ≤ n → a.good → gt r a a = false
 | 0, a, hn, _ => by have := Tm.size_pos a; omega
 | n + 1, .var c, hn, ha => by rw [gt_var]
 | n + 1, .app s l, hn, ha => by
  have e1 := Tm.size.eq_2 s l
  have hga := ha
  rw [Tm.good] at hga
  cases hx : gt r (.app s l) (.app s l) with
  | false => rfl
  | true =>
   exfalso
   rcases (gt_iff ha ha).1 hx with ⟨t, ht, h3⟩ | ⟨_, _, h | ⟨_, h⟩⟩
   ·have h4 := sizes_mem l t ht
    rcases h3 with rfl | h3
    ·omega
    ·have h5 := gt_sub (r := r) ha ht _ t (Int.self_le_toNat _) (goods_mem hga.2.2 ht) h3
     rw [gt_irr n t (by omega) (goods_mem hga.2.2 ht)] at h5
     cases h5
   ·exact h rfl
   ·rw [lex_self] at h; cases h
theorem gt_irrefl {r : Int → Int} {a : Tm} (ha : a.good) : gt r a a = false := gt_irr _ a (Int.self_le_toNat _) ha
theorem gt_trn {r : Int → Int} (hr : RankInj r) : ∀ (n : Nat) (a b c : Tm), a.size + b.size + c.size ≤ n → a.good → b.good → c.good → gt r a b = true → gt r b c = true → gt r a c = true
 | 0, a, b, c, hn, _, _, _, _, _ => by have := Tm.size_pos a; have := Tm.size_pos b; have := Tm.size_pos c; omega
 | n + 1, a, b, c, hn, ha, hb, hc, h1, h2 => by
  have ih1 := gt_trn hr n
  obtain ⟨s, l, rfl⟩ := gt_isApp h1
  obtain ⟨s', l', rfl⟩ := gt_isApp h2
  have e1 := Tm.size.eq_2 s l
  have e2 := Tm.size.eq_2 s' l'
  have hga := ha
  have hgb := hb
  rw [Tm.good] at hga hgb
  cases c with
  | var v =>
   rw [gt_v] at h2 ⊢
   exact gt_occ _ _ _ (Int.self_le_toNat _) ha hb h1 v h2
  | app s'' l'' =>
   have e3 := Tm.size.eq_2 s'' l''
   have hgc := hc
   rw [Tm.good] at hgc
   rcases (gt_iff ha hb).1 h1 with ⟨t, ht, h3⟩ | ⟨hr1, hall1, hor1⟩
   ·refine gt_part ha hc ht (.inr ?_)
    rcases h3 with rfl | h3
    ·exact h2
    ·exact ih1 t _ _ (by have := sizes_mem l t ht; omega) (goods_mem hga.2.2 ht) hb hc h3 h2
   ·rcases (gt_iff hb hc).1 h2 with ⟨u, hu, h3⟩ | ⟨hr2, hall2, hor2⟩
    ·have h4 := hall1 u hu
     rcases h3 with rfl | h3
     ·exact h4
     ·exact ih1 _ u _ (by have := sizes_mem l' u hu; omega) ha (goods_mem hgb.2.2 hu) hc h4 h3
    ·refine (gt_iff ha hc).2 (.inr ⟨by omega, fun w hw => ih1 _ _ w (by have := sizes_mem l'' w hw; omega) ha hb (goods_mem hgc.2.2 hw) h1 (hall2 w hw), ?_⟩)
     by_cases hs : s = s''
     ·refine .inr ⟨hs, ?_⟩
      have hss : s = s' := hr s s' hga.1 hgb.1 (by subst hs; omega)
      rcases hor1 with h | ⟨_, hl1⟩
      ·exact absurd hss h
      ·rcases hor2 with h | ⟨_, hl2⟩
       ·exact absurd (hss.symm.trans hs) h
       ·refine lex_trans l l' l'' ?_ (fun x y z hx hy hz => ih1 x y z (by have := sizes_mem l x hx; have := sizes_mem l' y hy; have := sizes_mem l'' z hz; omega) (goods_mem hga.2.2 hx) (goods_mem hgb.2.2 hy) (goods_mem hgc.2.2 hz)) (fun x z hx hz hgt he => ?_) hl1 hl2
        ·intro t ht
         simp only [List.mem_append] at ht
         rcases ht with (ht | ht) | ht
         ·exact goods_mem hga.2.2 ht
         ·exact goods_mem hgb.2.2 ht
         ·exact goods_mem hgc.2.2 ht
        ·subst he
         rw [gt_irrefl (goods_mem hga.2.2 hx)] at hgt
         cases hgt
     ·exact .inl hs
/-- terms without variables -/
def Tm.ground (t : Tm) : Prop := ∀ v, occT v t = false
theorem ground_mem {s : Int} {l : List Tm} (h : (Tm.app s l).ground) {t : Tm} (ht : t ∈ l) : t.ground := by
 intro v
 have := h v
 rw [occ_app] at this
 exact Bool.eq_false_iff.2 (fun e => by rw [List.any_eq_true.2 ⟨t, ht, e⟩] at this; cases this)
theorem lex_total {g : Tm → Tm → Bool} : ∀ (l m : List Tm), l.length = m.length → (∀ t, t ∈ l ++ m → t.good) → (∀ x y, x ∈ l → y ∈ m → x ≠ y → g x y = true ∨ g y x = true) → l ≠ m → lexF g l m = true ∨ lexF g m l = true
 | [], [], _, _, _, h => absurd rfl h
 | [], _ :: _, h, _, _, _ => by simp at h
 | _ :: _, [], h, _, _, _ => by simp at h
 | x :: l, y :: m, hl, hg, ht, hne => by
  have gx := hg x (by simp)
  have gy := hg y (by simp)
  rw [lexF, lexF]
  by_cases e : x = y
  ·subst e
   rw [if_pos (same_refl x), if_pos (same_refl x)]
   refine lex_total l m (by simpa using hl) (fun t h => hg t (by simp at h ⊢; rcases h with h | h <;> simp [h])) (fun a b ha hb => ht a b (by simp [ha]) (by simp [hb])) (fun e => hne (by rw [e]))
  ·rw [if_neg (fun h => e ((same_iff gx gy).1 h)), if_neg (fun h => e ((same_iff gy gx).1 h).symm)]
   exact ht x y (by simp) (by simp) e
theorem gt_total {r : Int → Int} (hr : RankInj r) : ∀ (n : Nat) (a b : Tm), a.size + b.size ≤ n → a.good → b.good → a.ground → b.ground → a ≠ b → gt r a b = true ∨ gt r b a = true
 | 0, a, b, hn, _, _, _, _, _ => by have := Tm.size_pos a; have := Tm.size_pos b; omega
 | n + 1, a, b, hn, ha, hb, ga, gb, hne => by
  cases a with
  | var c => have := ga c; rw [occ_var] at this; simp at this
  | app s l =>
   cases b with
   | var c => have := gb c; rw [occ_var] at this; simp at this
   | app s' l' =>
    have e1 := Tm.size.eq_2 s l
    have e2 := Tm.size.eq_2 s' l'
    have hga := ha
    have hgb := hb
    rw [Tm.good] at hga hgb
    by_cases hA : ∃ t, t ∈ l ∧ (t = .app s' l' ∨ gt r t (.app s' l') = true)
    ·obtain ⟨t, ht, h⟩ := hA
     exact .inl (gt_part ha hb ht h)
    ·by_cases hB : ∃ t, t ∈ l' ∧ (t = .app s l ∨ gt r t (.app s l) = true)
     ·obtain ⟨t, ht, h⟩ := hB
      exact .inr (gt_part hb ha ht h)
     ·have h1 : ∀ u, u ∈ l' → gt r (.app s l) u = true := fun u hu => by
       rcases gt_total hr n (.app s l) u (by have := sizes_mem l' u hu; omega) ha (goods_mem hgb.2.2 hu) ga (ground_mem gb hu) (fun e => hB ⟨u, hu, .inl e.symm⟩) with h | h
       ·exact h
       ·exact absurd ⟨u, hu, .inr h⟩ hB
      have h2 : ∀ u, u ∈ l → gt r (.app s' l') u = true := fun u hu => by
       rcases gt_total hr n u (.app s' l') (by have := sizes_mem l u hu; omega) (goods_mem hga.2.2 hu) hb (ground_mem ga hu) gb (fun e => hA ⟨u, hu, .inl e⟩) with h | h
       ·exact absurd ⟨u, hu, .inr h⟩ hA
       ·exact h
      by_cases hs : s = s'
      ·subst hs
       have hll : l.length = l'.length := by omega
       rcases lex_total (g := gt r) l l' hll (fun t ht => by
         rcases List.mem_append.1 ht with ht | ht
         ·exact goods_mem hga.2.2 ht
         ·exact goods_mem hgb.2.2 ht) (fun x y hx hy hxy => gt_total hr n x y (by have := sizes_mem l x hx; have := sizes_mem l' y hy; omega) (goods_mem hga.2.2 hx) (goods_mem hgb.2.2 hy) (ground_mem ga hx) (ground_mem gb hy) hxy) (fun e => hne (by rw [e])) with h | h
       ·exact .inl ((gt_iff ha hb).2 (.inr ⟨by omega, h1, .inr ⟨rfl, h⟩⟩))
       ·exact .inr ((gt_iff hb ha).2 (.inr ⟨by omega, h2, .inr ⟨rfl, h⟩⟩))
      ·by_cases hrr : r s > r s'
       ·exact .inr ((gt_iff hb ha).2 (.inr ⟨by omega, h2, .inl (fun e => hs e.symm)⟩))
       ·exact .inl ((gt_iff ha hb).2 (.inr ⟨hrr, h1, .inl hs⟩))
end Go.Proofs.YtaafeallcaiooaaGreat.Pr
-- indented by one
namespace Go.Proofs.YtaafeallcaiooaaGreat.Pr
open Go.RowKit
set_option linter.unusedVariables false
set_option linter.unusedSimpArgs false
theorem sub_app (σ : Sub) (s : Int) (l : List Tm) : (Tm.app s l).sub σ = .app s (l.map (Tm.sub σ)) := by rw [Tm.sub, subL_map]
theorem lex_map {r : Int → Int} {f : Tm → Tm} : ∀ (l m : List Tm), (∀ t, t ∈ l ++ m → t.good ∧ (f t).good) → (∀ x y, x ∈ l → y ∈ m → gt r x y = true → gt r (f x) (f y) = true) → lexF (gt r) l m = true → lexF (gt r) (l.map f) (m.map f) = true
 | [], _, _, _, h => by rw [lexF] at h; cases h; (intros; simp_all)
 | _ :: _, [], _, _, h => by rw [lexF] at h; cases h; (intros; simp_all)
 | x :: l, y :: m, hg, ht, h => by
  have gx := hg x (by simp)
  have gy := hg y (by simp)
  rw [List.map_cons, List.map_cons, lexF]
  rw [lexF] at h
  by_cases e : x = y
  ·subst e
   rw [if_pos (same_refl x)] at h
   rw [if_pos (same_refl _)]
   exact lex_map l m (fun t h => hg t (by simp at h ⊢; rcases h with h | h <;> simp [h])) (fun a b ha hb => ht a b (by simp [ha]) (by simp [hb])) h
  ·rw [if_neg (fun h => e ((same_iff gx.1 gy.1).1 h))] at h
   have h2 := ht x y (by simp) (by simp) h
   rw [if_neg (fun h3 => by
    have h4 := (same_iff gx.2 gy.2).1 h3
    rw [h4, gt_irrefl gy.2] at h2
    cases h2)]
   exact h2
theorem gt_subv {r : Int → Int} {σ : Sub} (hσ : ∀ c u, σ c = some u → u.good) (v : Int) (hv : (Tm.var v).good) : ∀ (n : Nat) (s : Int) (l : List Tm), (Tm.app s l).size ≤ n → (Tm.app s l).good → occT v (.app s l) = true → gt r ((Tm.app s l).sub σ) ((Tm.var v).sub σ) = true
 | 0, s, l, hn, _, _ => by have := Tm.size_pos (.app s l); omega
 | n + 1, s, l, hn, hg, h => by
  have e1 := Tm.size.eq_2 s l
  have hga := hg
  rw [Tm.good] at hga
  rw [occ_app] at h
  obtain ⟨t, ht, h2⟩ := List.any_eq_true.1 h
  have h3 := sub_good σ hσ _ hg
  rw [sub_app] at h3 ⊢
  refine gt_part h3 (sub_good σ hσ _ hv) (List.mem_map.2 ⟨t, ht, rfl⟩) ?_
  cases t with
  | var c =>
   rw [occ_var, decide_eq_true_iff] at h2
   subst h2
   exact .inl rfl
  | app s' l' => exact .inr (gt_subv hσ v hv n s' l' (by have := sizes_mem l _ ht; omega) (goods_mem hga.2.2 ht) h2)
theorem gt_stab {r : Int → Int} {σ : Sub} (hσ : ∀ c u, σ c = some u → u.good) : ∀ (n : Nat) (a b : Tm), a.size + b.size ≤ n → a.good → b.good → gt r a b = true → gt r (a.sub σ) (b.sub σ) = true
 | 0, a, b, hn, _, _, _ => by have := Tm.size_pos a; have := Tm.size_pos b; omega
 | n + 1, a, b, hn, ha, hb, h => by
  obtain ⟨s, l, rfl⟩ := gt_isApp h
  have e1 := Tm.size.eq_2 s l
  have hga := ha
  rw [Tm.good] at hga
  cases b with
  | var v =>
   rw [gt_v] at h
   exact gt_subv hσ v hb _ s l (Int.self_le_toNat _) ha h
  | app s' l' =>
   have e2 := Tm.size.eq_2 s' l'
   have hgb := hb
   rw [Tm.good] at hgb
   have h3 := sub_good σ hσ _ ha
   have h4 := sub_good σ hσ _ hb
   rcases (gt_iff ha hb).1 h with ⟨t, ht, h2⟩ | ⟨h1, h2, h5⟩
   ·rw [sub_app] at h3 ⊢
    refine gt_part h3 h4 (List.mem_map.2 ⟨t, ht, rfl⟩) ?_
    rcases h2 with rfl | h2
    ·exact .inl rfl
    ·exact .inr (gt_stab hσ n t _ (by have := sizes_mem l t ht; omega) (goods_mem hga.2.2 ht) hb h2)
   ·rw [sub_app] at h3 h4
    have hS := fun u hu => gt_stab (r := r) hσ n (.app s l) u (by have := sizes_mem l' u hu; omega) ha (goods_mem hgb.2.2 hu) (h2 u hu)
    rw [sub_app, sub_app]
    refine (gt_iff h3 h4).2 (.inr ⟨h1, fun u hu => ?_, ?_⟩)
    ·obtain ⟨w, hw, rfl⟩ := List.mem_map.1 hu
     have := hS w hw
     rwa [sub_app] at this
    ·rcases h5 with h5 | ⟨h5, h6⟩
     ·exact .inl h5
     ·refine .inr ⟨h5, lex_map l l' (fun t ht => ?_) (fun x y hx hy => gt_stab hσ n x y (by have := sizes_mem l x hx; have := sizes_mem l' y hy; omega) (goods_mem hga.2.2 hx) (goods_mem hgb.2.2 hy)) h6⟩
      have hg : t.good := by
       rcases List.mem_append.1 ht with ht | ht
       ·exact goods_mem hga.2.2 ht
       ·exact goods_mem hgb.2.2 ht
      exact ⟨hg, sub_good σ hσ _ hg⟩
theorem lex_ctx {g : Tm → Tm → Bool} {x y : Tm} {post : List Tm} (hne : sameB x y = false) : ∀ pre : List Tm, lexF g (pre ++ x :: post) (pre ++ y :: post) = g x y
 | [] => by rw [List.nil_append, List.nil_append, lexF, if_neg (by rw [hne]; simp)]
 | t :: pre => by rw [List.cons_append, List.cons_append, lexF, if_pos (same_refl t)]; exact lex_ctx hne pre
end Go.Proofs.YtaafeallcaiooaaGreat.Pr
-- indented by one
