/- short cuts a string; awake holds. -/
import Derived.Test.YtaafeallcaiooaaGreatPr0
import Derived.Test.YtaafeallcaiooaaGreatHOr
import Derived.Test.YtaafeallcaiooaaGreatHPn
import Derived.Test.YtaafeallcaiooaaGreatPrB1
import Derived.Test.YtaafeallcaiooaaGreatHEx
/- the path order is stable: under substitutions, and in larger terms. -/
/- the path order: transitive, irreflexive, total on terms without variables, stable. -/
namespace Go.Proofs.YtaafeallcaiooaaGreat.Pr
open Go.RowKit
set_option linter.unusedVariables false
set_option linter.unusedSimpArgs false
theorem same_iff {a b : Tm} (ha : a.good) (hb : b.good) : sameB a b = true ↔ a = b := by
 rw [sameB_eq ha hb, decide_eq_true_iff]
 exact ⟨text_inj ha hb, fun h => by rw [h]⟩
theorem same_refl (a : Tm) : sameB a a = true := by unfold sameB; simp
theorem occ_app (v s : Int) (l : List Tm) : occT v (.app s l) = l.any (occT v) := by
 unfold occT
 rw [Tm.subs, List.any_cons]
 have : isVar v (.app s l) = false := by rfl
 rw [this, Bool.false_or]
 clear this
 induction l with
 | nil => rfl
 | cons t l ih => rw [Tm.subsL, List.any_append, List.any_cons, ih]
theorem occ_var (v c : Int) : occT v (.var c) = decide (v = c) := by
 unfold occT
 rw [Tm.subs]
 by_cases h : v = c
 ·subst h; simp [isVar]
 ·simp [isVar, h, show ¬ c = v from fun e => h e.symm]
/-- the greater one is made of a symbol -/
theorem gt_isApp {r : Int → Int} {a b : Tm} (h : gt r a b = true) : ∃ s l, a = .app s l := by
 cases a with
 | var c =>
  exfalso
  cases b with
  | var v => rw [gt_var] at h; cases h
  | app s l => rw [gt_va] at h; cases h
 | app s l => exact ⟨s, l, rfl⟩
theorem gt_v {r : Int → Int} {s v : Int} {l : List Tm} : gt r (.app s l) (.var v) = occT v (.app s l) := gt_var r _ v
/-- what makes a term greater than a compound one -/
theorem gt_iff {r : Int → Int} {s s' : Int} {l l' : List Tm} (ha : (Tm.app s l).good) (hb : (Tm.app s' l').good) : gt r (.app s l) (.app s' l') = true ↔
  (∃ t, t ∈ l ∧ (t = .app s' l' ∨ gt r t (.app s' l') = true)) ∨ (¬ r s > r s' ∧ (∀ u, u ∈ l' → gt r (.app s l) u = true) ∧ (s ≠ s' ∨ (s = s' ∧ lexF (gt r) l l' = true))) := by
 have hga := ha
 rw [Tm.good] at hga
 have h1 : (l.any (fun t => sameB t (.app s' l') || gt r t (.app s' l'))) = true ↔ ∃ t, t ∈ l ∧ (t = .app s' l' ∨ gt r t (.app s' l') = true) := by
  rw [List.any_eq_true]
  exact ⟨fun ⟨t, h, h2⟩ => ⟨t, h, (Bool.or_eq_true _ _ ▸ h2).imp (fun h3 => (same_iff (goods_mem hga.2.2 h) hb).1 h3) id⟩, fun ⟨t, h, h2⟩ => ⟨t, h, by
   rw [Bool.or_eq_true]
   exact h2.imp (fun h3 => (same_iff (goods_mem hga.2.2 h) hb).2 h3) id⟩⟩
 have h2 : (l'.all (fun u => gt r (.app s l) u)) = true ↔ ∀ u, u ∈ l' → gt r (.app s l) u = true := List.all_eq_true
 rw [gt_app, ← h1, ← h2]
 split
 ·rename_i h; simp [h]
 ·rename_i h
  split
  ·rename_i hr
   exact ⟨fun e => (by cases e), fun e => by rcases e with e | e; exact absurd e h; exact absurd hr e.1⟩
  ·rename_i hr
   split
   ·rename_i hn
    exact ⟨fun e => (by cases e), fun e => by
     rcases e with e | e
     ·exact absurd e h
     ·rw [e.2.1] at hn; cases hn⟩
   ·rename_i hn
    have hn2 : (l'.all fun u => gt r (.app s l) u) = true := by
     cases hx : (l'.all fun u => gt r (.app s l) u) with
     | true => rfl
     | false => rw [hx] at hn; exact absurd rfl hn
    by_cases hs : s = s'
    ·rw [if_neg (fun e => e hs)]
     exact ⟨fun e => .inr ⟨hr, hn2, .inr ⟨hs, e⟩⟩, fun e => by
      rcases e with e | ⟨_, _, e | e⟩
      ·exact absurd e h
      ·exact absurd hs e
      ·exact e.2⟩
    ·rw [if_pos hs]
     exact ⟨fun _ => .inr ⟨hr, hn2, .inl hs⟩, fun _ => rfl⟩
/-- a term is greater than what its parts are, or are greater than -/
theorem gt_part {r : Int → Int} {s : Int} {l : List Tm} {t u : Tm} (ha : (Tm.app s l).good) (hu : u.good) (hm : t ∈ l) (h : t = u ∨ gt r t u = true) : gt r (.app s l) u = true := by
 cases u with
 | var v =>
  rw [gt_v, occ_app]
  refine List.any_eq_true.2 ⟨t, hm, ?_⟩
  rcases h with rfl | h
  ·rw [occ_var]; simp
  ·obtain ⟨s2, l2, rfl⟩ := gt_isApp h
   rwa [gt_v] at h
 | app s' l' => exact (gt_iff ha hu).2 (.inl ⟨t, hm, h⟩)
/-- variables of the smaller one are in the greater one -/
theorem gt_occ {r : Int → Int} : ∀ (n : Nat) (a b : Tm), a.size + b.size ≤ n → a.good → b.good → gt r a b = true → ∀ v, occT v b = true → occT v a = true
 | 0, a, b, hn, _, _, _, _, _ => by have := Tm.size_pos a; have := Tm.size_pos b; omega
 | n + 1, a, b, hn, ha, hb, h, v, hv => by
  obtain ⟨s, l, rfl⟩ := gt_isApp h
  have e1 := Tm.size.eq_2 s l
  have hga := ha
  rw [Tm.good] at hga
  cases b with
  | var c =>
   rw [gt_v] at h
   rw [occ_var, decide_eq_true_iff] at hv
   subst hv
   exact h
  | app s' l' =>
   have e2 := Tm.size.eq_2 s' l'
   have hgb := hb
   rw [Tm.good] at hgb
   rcases (gt_iff ha hb).1 h with ⟨t, ht, h2⟩ | ⟨_, h2, _⟩
   ·rw [occ_app]
    refine List.any_eq_true.2 ⟨t, ht, ?_⟩
    rcases h2 with rfl | h2
    ·exact hv
    ·exact gt_occ n t _ (by have := sizes_mem l t ht; omega) (goods_mem hga.2.2 ht) hb h2 v hv
   ·rw [occ_app] at hv
    obtain ⟨u, hu, hv2⟩ := List.any_eq_true.1 hv
    exact gt_occ n _ u (by have := sizes_mem l' u hu; omega) ha (goods_mem hgb.2.2 hu) (h2 u hu) v hv2
theorem lex_trans {g : Tm → Tm → Bool} : ∀ (l m k : List Tm), (∀ t, t ∈ l ++ m ++ k → t.good) → (∀ x y z, x ∈ l → y ∈ m → z ∈ k → g x y = true → g y z = true → g x z = true) →
  (∀ x z, x ∈ l → z ∈ k → g x z = true → x ≠ z) → lexF g l m = true → lexF g m k = true → lexF g l k = true
 | [], _, _, _, _, _, h, _ => by rw [lexF] at h; cases h; (intros; simp_all)
 | _ :: _, [], _, _, _, _, h, _ => by rw [lexF] at h; cases h; (intros; simp_all)
 | _ :: _, _ :: _, [], _, _, _, _, h => by rw [lexF] at h; cases h; (intros; simp_all)
 | x :: l, y :: m, z :: k, hg, ht, hi, h1, h2 => by
  have gx := hg x (by simp)
  have gy := hg y (by simp)
  have gz := hg z (by simp)
  rw [lexF] at h1 h2 ⊢
  by_cases e1 : sameB x y = true
  ·rw [if_pos e1] at h1
   obtain rfl := (same_iff gx gy).1 e1
   by_cases e2 : sameB x z = true
   ·rw [if_pos e2] at h2
    rw [if_pos e2]
    exact lex_trans l m k (fun t h => hg t (by simp at h ⊢; rcases h with h | h | h <;> simp [h])) (fun a b c ha hb hc => ht a b c (by simp [ha]) (by simp [hb]) (by simp [hc])) (fun a c ha hc => hi a c (by simp [ha]) (by simp [hc])) h1 h2
   ·rw [if_neg e2] at h2
    rw [if_neg e2]
    exact h2
  ·rw [if_neg e1] at h1
   by_cases e2 : sameB y z = true
   ·obtain rfl := (same_iff gy gz).1 e2
    rw [if_neg e1]
    exact h1
   ·rw [if_neg e2] at h2
    have h3 := ht x y z (by simp) (by simp) (by simp) h1 h2
    rw [if_neg (fun e => hi x z (by simp) (by simp) h3 ((same_iff gx gz).1 e))]
    exact h3
/-- ranks of different symbols differ -/
def RankInj (r : Int → Int) : Prop := ∀ s s' : Int, 97 ≤ s ∧ s ≤ 102 → 97 ≤ s' ∧ s' ≤ 102 → r s = r s' → s = s'
theorem lex_self {g : Tm → Tm → Bool} : ∀ l : List Tm, lexF g l l = false
 | [] => rfl
 | t :: l => by rw [lexF, if_pos (same_refl t)]; exact lex_self l
/-- a term is greater than the parts of what it is greater than -/
theorem gt_sub {r : Int → Int} {s' : Int} {l' : List Tm} (hb : (Tm.app s' l').good) {u : Tm} (hu : u ∈ l') : ∀ (n : Nat) (a : Tm), a.size ≤ n → a.good → gt r a (.app s' l') = true → gt r a u = true
 | 0, a, hn, _, _ => by have := Tm.size_pos a; omega
 | n + 1, a, hn, ha, h => by
  obtain ⟨s, l, rfl⟩ := gt_isApp h
  have e1 := Tm.size.eq_2 s l
  have hga := ha
  have hgb := hb
  rw [Tm.good] at hga hgb
  have hug := goods_mem hgb.2.2 hu
  rcases (gt_iff ha hb).1 h with ⟨t, ht, h3⟩ | ⟨_, h2, _⟩
  ·refine gt_part ha hug ht (.inr ?_)
   rcases h3 with rfl | h3
   ·exact gt_part hb hug hu (.inl rfl)
   ·exact gt_sub hb hu n t (by have := sizes_mem l t ht; omega) (goods_mem hga.2.2 ht) h3
  ·exact h2 u hu
theorem gt_irr {r : Int → Int} : ∀ (n : Nat) (a : Tm), a.size ≤ n → a.good → gt r a a = false
 | 0, a, hn, _ => by have := Tm.size_pos a; omega
 | n + 1, .var c, hn, ha => by rw [gt_var]
 | n + 1, .app s l, hn, ha => by
  have e1 := Tm.size.eq_2 s l
  have hga := ha
  rw [Tm.good] at hga
  cases hx : gt r (.app s l) (.app s l) with
  | false => rfl
  | true =>
   exfalso
   rcases (gt_iff ha ha).1 hx with ⟨t, ht, h3⟩ | ⟨_, _, h | ⟨_, h⟩⟩
   ·have h4 := sizes_mem l t ht
    rcases h3 with rfl | h3
    ·omega
    ·have h5 := gt_sub (r := r) ha ht _ t (Int.self_le_toNat _) (goods_mem hga.2.2 ht) h3
     rw [gt_irr n t (by omega) (goods_mem hga.2.2 ht)] at h5
     cases h5
   ·exact h rfl
   ·rw [lex_self] at h; cases h
theorem gt_irrefl {r : Int → Int} {a : Tm} (ha : a.good) : gt r a a = false := gt_irr _ a (Int.self_le_toNat _) ha
theorem gt_trn {r : Int → Int} (hr : RankInj r) : ∀ (n : Nat) (a b c : Tm), a.size + b.size + c.size ≤ n → a.good → b.good → c.good → gt r a b = true → gt r b c = true → gt r a c = true
 | 0, a, b, c, hn, _, _, _, _, _ => by have := Tm.size_pos a; have := Tm.size_pos b; have := Tm.size_pos c; omega
 | n + 1, a, b, c, hn, ha, hb, hc, h1, h2 => by
  have ih1 := gt_trn hr n
  obtain ⟨s, l, rfl⟩ := gt_isApp h1
  obtain ⟨s', l', rfl⟩ := gt_isApp h2
  have e1 := Tm.size.eq_2 s l
  have e2 := Tm.size.eq_2 s' l'
  have hga := ha
  have hgb := hb
  rw [Tm.good] at hga hgb
  cases c with
  | var v =>
   rw [gt_v] at h2 ⊢
   exact gt_occ _ _ _ (Int.self_le_toNat _) ha hb h1 v h2
  | app s'' l'' =>
   have e3 := Tm.size.eq_2 s'' l''
   have hgc := hc
   rw [Tm.good] at hgc
   rcases (gt_iff ha hb).1 h1 with ⟨t, ht, h3⟩ | ⟨hr1, hall1, hor1⟩
   ·refine gt_part ha hc ht (.inr ?_)
    rcases h3 with rfl | h3
    ·exact h2
    ·exact ih1 t _ _ (by have := sizes_mem l t ht; omega) (goods_mem hga.2.2 ht) hb hc h3 h2
   ·rcases (gt_iff hb hc).1 h2 with ⟨u, hu, h3⟩ | ⟨hr2, hall2, hor2⟩
    ·have h4 := hall1 u hu
     rcases h3 with rfl | h3
     ·exact h4
     ·exact ih1 _ u _ (by have := sizes_mem l' u hu; omega) ha (goods_mem hgb.2.2 hu) hc h4 h3
    ·refine (gt_iff ha hc).2 (.inr ⟨by omega, fun w hw => ih1 _ _ w (by have := sizes_mem l'' w hw; omega) ha hb (goods_mem hgc.2.2 hw) h1 (hall2 w hw), ?_⟩)
     by_cases hs : s = s''
     ·refine .inr ⟨hs, ?_⟩
      have hss : s = s' := hr s s' hga.1 hgb.1 (by subst hs; omega)
      rcases hor1 with h | ⟨_, hl1⟩
      ·exact absurd hss h
      ·rcases hor2 with h | ⟨_, hl2⟩
       ·exact absurd (hss.symm.trans hs) h
       ·refine lex_trans l l' l'' ?_ (fun x y z hx hy hz => ih1 x y z (by have := sizes_mem l x hx; have := sizes_mem l' y hy; have := sizes_mem l'' z hz; omega) (goods_mem hga.2.2 hx) (goods_mem hgb.2.2 hy) (goods_mem hgc.2.2 hz)) (fun x z hx hz hgt he => ?_) hl1 hl2
        ·intro t ht
         simp only [List.mem_append] at ht
         rcases ht with (ht | ht) | ht
         ·exact goods_mem hga.2.2 ht
         ·exact goods_mem hgb.2.2 ht
         ·exact goods_mem hgc.2.2 ht
        ·subst he
         rw [gt_irrefl (goods_mem hga.2.2 hx)] at hgt
         cases hgt
     ·exact .inl hs
/-- terms without variables -/
def Tm.ground (t : Tm) : Prop := ∀ v, occT v t = false
theorem ground_mem {s : Int} {l : List Tm} (h : (Tm.app s l).ground) {t : Tm} (ht : t ∈ l) : t.ground := by
 intro v
 have := h v
 rw [occ_app] at this
 exact Bool.eq_false_iff.2 (fun e => by rw [List.any_eq_true.2 ⟨t, ht, e⟩] at this; cases this)
theorem lex_total {g : Tm → Tm → Bool} : ∀ (l m : List Tm), l.length = m.length → (∀ t, t ∈ l ++ m → t.good) → (∀ x y, x ∈ l → y ∈ m → x ≠ y → g x y = true ∨ g y x = true) → l ≠ m → lexF g l m = true ∨ lexF g m l = true
 | [], [], _, _, _, h => absurd rfl h
 | [], _ :: _, h, _, _, _ => by simp at h
 | _ :: _, [], h, _, _, _ => by simp at h
 | x :: l, y :: m, hl, hg, ht, hne => by
  have gx := hg x (by simp)
  have gy := hg y (by simp)
  rw [lexF, lexF]
  by_cases e : x = y
  ·subst e
   rw [if_pos (same_refl x), if_pos (same_refl x)]
   refine lex_total l m (by simpa using hl) (fun t h => hg t (by simp at h ⊢; rcases h with h | h <;> simp [h])) (fun a b ha hb => ht a b (by simp [ha]) (by simp [hb])) (fun e => hne (by rw [e]))
  ·rw [if_neg (fun h => e ((same_iff gx gy).1 h)), if_neg (fun h => e ((same_iff gy gx).1 h).symm)]
   exact ht x y (by simp) (by simp) e
theorem gt_total {r : Int → Int} (hr : RankInj r) : ∀ (n : Nat) (a b : Tm), a.size + b.size ≤ n → a.good → b.good → a.ground → b.ground → a ≠ b → gt r a b = true ∨ gt r b a = true
 | 0, a, b, hn, _, _, _, _, _ => by have := Tm.size_pos a; have := Tm.size_pos b; omega
 | n + 1, a, b, hn, ha, hb, ga, gb, hne => by
  cases a with
  | var c => have := ga c; rw [occ_var] at this; simp at this
  | app s l =>
   cases b with
   | var c => have := gb c; rw [occ_var] at this; simp at this
   | app s' l' =>
    have e1 := Tm.size.eq_2 s l
    have e2 := Tm.size.eq_2 s' l'
    have hga := ha
    have hgb := hb
    rw [Tm.good] at hga hgb
    by_cases hA : ∃ t, t ∈ l ∧ (t = .app s' l' ∨ gt r t (.app s' l') = true)
    ·obtain ⟨t, ht, h⟩ := hA
     exact .inl (gt_part ha hb ht h)
    ·by_cases hB : ∃ t, t ∈ l' ∧ (t = .app s l ∨ gt r t (.app s l) = true)
     ·obtain ⟨t, ht, h⟩ := hB
      exact .inr (gt_part hb ha ht h)
     ·have h1 : ∀ u, u ∈ l' → gt r (.app s l) u = true := fun u hu => by
       rcases gt_total hr n (.app s l) u (by have := sizes_mem l' u hu; omega) ha (goods_mem hgb.2.2 hu) ga (ground_mem gb hu) (fun e => hB ⟨u, hu, .inl e.symm⟩) with h | h
       ·exact h
       ·exact absurd ⟨u, hu, .inr h⟩ hB
      have h2 : ∀ u, u ∈ l → gt r (.app s' l') u = true := fun u hu => by
       rcases gt_total hr n u (.app s' l') (by have := sizes_mem l u hu; omega) (goods_mem hga.2.2 hu) hb (ground_mem ga hu) gb (fun e => hA ⟨u, hu, .inl e⟩) with h | h
       ·exact absurd ⟨u, hu, .inr h⟩ hA
       ·exact h
      by_cases hs : s = s'
      ·subst hs
       have hll : l.length = l'.length := by omega
       rcases lex_total (g := gt r) l l' hll (fun t ht => by
         rcases List.mem_append.1 ht with ht | ht
         ·exact goods_mem hga.2.2 ht
         ·exact goods_mem hgb.2.2 ht) (fun x y hx hy hxy => gt_total hr n x y (by have := sizes_mem l x hx; have := sizes_mem l' y hy; omega) (goods_mem hga.2.2 hx) (goods_mem hgb.2.2 hy) (ground_mem ga hx) (ground_mem gb hy) hxy) (fun e => hne (by rw [e])) with h | h
       ·exact .inl ((gt_iff ha hb).2 (.inr ⟨by omega, h1, .inr ⟨rfl, h⟩⟩))
       ·exact .inr ((gt_iff hb ha).2 (.inr ⟨by omega, h2, .inr ⟨rfl, h⟩⟩))
      ·by_cases hrr : r s > r s'
       ·exact .inr ((gt_iff hb ha).2 (.inr ⟨by omega, h2, .inl (fun e => hs e.symm)⟩))
       ·exact .inl ((gt_iff ha hb).2 (.inr ⟨hrr, h1, .inl hs⟩))
end Go.Proofs.YtaafeallcaiooaaGreat.Pr
-- indented by one
namespace Go.Proofs.YtaafeallcaiooaaGreat.Pr
open Go.RowKit
set_option linter.unusedVariables false
set_option linter.unusedSimpArgs false
theorem sub_app (σ : Sub) (s : Int) (l : List Tm) : (Tm.app s l).sub σ = .app s (l.map (Tm.sub σ)) := by rw [Tm.sub, subL_map]
theorem lex_map {r : Int → Int} {f : Tm → Tm} : ∀ (l m : List Tm), (∀ t, t ∈ l ++ m → t.good ∧ (f t).good) → (∀ x y, x ∈ l → y ∈ m → gt r x y = true → gt r (f x) (f y) = true) → lexF (gt r) l m = true → lexF (gt r) (l.map f) (m.map f) = true
 | [], _, _, _, h => by rw [lexF] at h; cases h; (intros; simp_all)
 | _ :: _, [], _, _, h => by rw [lexF] at h; cases h; (intros; simp_all)
 | x :: l, y :: m, hg, ht, h => by
  have gx := hg x (by simp)
  have gy := hg y (by simp)
  rw [List.map_cons, List.map_cons, lexF]
  rw [lexF] at h
  by_cases e : x = y
  ·subst e
   rw [if_pos (same_refl x)] at h
   rw [if_pos (same_refl _)]
   exact lex_map l m (fun t h => hg t (by simp at h ⊢; rcases h with h | h <;> simp [h])) (fun a b ha hb => ht a b (by simp [ha]) (by simp [hb])) h
  ·rw [if_neg (fun h => e ((same_iff gx.1 gy.1).1 h))] at h
   have h2 := ht x y (by simp) (by simp) h
   rw [if_neg (fun h3 => by
    have h4 := (same_iff gx.2 gy.2).1 h3
    rw [h4, gt_irrefl gy.2] at h2
    cases h2)]
   exact h2
theorem gt_subv {r : Int → Int} {σ : Sub} (hσ : ∀ c u, σ c = some u → u.good) (v : Int) (hv : (Tm.var v).good) : ∀ (n : Nat) (s : Int) (l : List Tm), (Tm.app s l).size ≤ n → (Tm.app s l).good → occT v (.app s l) = true → gt r ((Tm.app s l).sub σ) ((Tm.var v).sub σ) = true
 | 0, s, l, hn, _, _ => by have := Tm.size_pos (.app s l); omega
 | n + 1, s, l, hn, hg, h => by
  have e1 := Tm.size.eq_2 s l
  have hga := hg
  rw [Tm.good] at hga
  rw [occ_app] at h
  obtain ⟨t, ht, h2⟩ := List.any_eq_true.1 h
  have h3 := sub_good σ hσ _ hg
  rw [sub_app] at h3 ⊢
  refine gt_part h3 (sub_good σ hσ _ hv) (List.mem_map.2 ⟨t, ht, rfl⟩) ?_
  cases t with
  | var c =>
   rw [occ_var, decide_eq_true_iff] at h2
   subst h2
   exact .inl rfl
  | app s' l' => exact .inr (gt_subv hσ v hv n s' l' (by have := sizes_mem l _ ht; omega) (goods_mem hga.2.2 ht) h2)
theorem gt_stab {r : Int → Int} {σ : Sub} (hσ : ∀ c u, σ c = some u → u.good) : ∀ (n : Nat) (a b : Tm), a.size + b.size ≤ n → a.good → b.good → gt r a b = true → gt r (a.sub σ) (b.sub σ) = true
 | 0, a, b, hn, _, _, _ => by have := Tm.size_pos a; have := Tm.size_pos b; omega
 | n + 1, a, b, hn, ha, hb, h => by
  obtain ⟨s, l, rfl⟩ := gt_isApp h
  have e1 := Tm.size.eq_2 s l
  have hga := ha
  rw [Tm.good] at hga
  cases b with
  | var v =>
   rw [gt_v] at h
   exact gt_subv hσ v hb _ s l (Int.self_le_toNat _) ha h
  | app s' l' =>
   have e2 := Tm.size.eq_2 s' l'
   have hgb := hb
   rw [Tm.good] at hgb
   have h3 := sub_good σ hσ _ ha
   have h4 := sub_good σ hσ _ hb
   rcases (gt_iff ha hb).1 h with ⟨t, ht, h2⟩ | ⟨h1, h2, h5⟩
   ·rw [sub_app] at h3 ⊢
    refine gt_part h3 h4 (List.mem_map.2 ⟨t, ht, rfl⟩) ?_
    rcases h2 with rfl | h2
    ·exact .inl rfl
    ·exact .inr (gt_stab hσ n t _ (by have := sizes_mem l t ht; omega) (goods_mem hga.2.2 ht) hb h2)
   ·rw [sub_app] at h3 h4
    have hS := fun u hu => gt_stab (r := r) hσ n (.app s l) u (by have := sizes_mem l' u hu; omega) ha (goods_mem hgb.2.2 hu) (h2 u hu)
    rw [sub_app, sub_app]
    refine (gt_iff h3 h4).2 (.inr ⟨h1, fun u hu => ?_, ?_⟩)
    ·obtain ⟨w, hw, rfl⟩ := List.mem_map.1 hu
     have := hS w hw
     rwa [sub_app] at this
    ·rcases h5 with h5 | ⟨h5, h6⟩
     ·exact .inl h5
     ·refine .inr ⟨h5, lex_map l l' (fun t ht => ?_) (fun x y hx hy => gt_stab hσ n x y (by have := sizes_mem l x hx; have := sizes_mem l' y hy; omega) (goods_mem hga.2.2 hx) (goods_mem hgb.2.2 hy)) h6⟩
      have hg : t.good := by
       rcases List.mem_append.1 ht with ht | ht
       ·exact goods_mem hga.2.2 ht
       ·exact goods_mem hgb.2.2 ht
      exact ⟨hg, sub_good σ hσ _ hg⟩
theorem lex_ctx {g : Tm → Tm → Bool} {x y : Tm} {post : List Tm} (hne : sameB x y = false) : ∀ pre : List Tm, lexF g (pre ++ x :: post) (pre ++ y :: post) = g x y
 | [] => by rw [List.nil_append, List.nil_append, lexF, if_neg (by rw [hne]; simp)]
 | t :: pre => by rw [List.cons_append, List.cons_append, lexF, if_pos (same_refl t)]; exact lex_ctx hne pre
end Go.Proofs.YtaafeallcaiooaaGreat.Pr
-- indented by one
/- Tools of the plain laws: with enough rounds. -/
namespace Go.Proofs.YtaafeallcaiooaaGreat.Pr
open Go.RowKit Go.Proofs.YtaafeallcaiooaaGreatW.PrintWords Go.Proofs.YtaafeallcaiooaaGreatW.PrintLast Go.Proofs.YtaafeallcaiooaaGreatW.PrintMore
set_option linter.unusedVariables false
set_option linter.unusedSimpArgs false

/-- with enough rounds: this answer -/
def Evt {α : Type} (g : Nat → Option α) (r : α) : Prop := ∃ K, ∀ k, K ≤ k → g k = some r
theorem Evt.bind {α β : Type} {g : Nat → Option α} {h : Nat → α → Option β} {a : α} {b : β} (hg : Evt g a) (hh : Evt (fun k => h k a) b) : Evt (fun k => (g k).bind (h k)) b := by
  obtain ⟨K, h1⟩ := hg
  obtain ⟨K', h2⟩ := hh
  refine ⟨max K K', fun k hk => ?_⟩
  show (g k).bind (h k) = some b
  rw [h1 k (by omega), Option.bind_some]
  exact h2 k (by omega)
theorem Evt.ex {α : Type} {g : Nat → Option α} {r : α} (h : Evt g r) : ∃ k, g k = some r := by
  obtain ⟨K, h⟩ := h
  exact ⟨K, h K (Nat.le_refl _)⟩
theorem Evt.congr {α : Type} {g g' : Nat → Option α} {r : α} (h : Evt g r) (e : ∀ k, g' k = g k) : Evt g' r := by
  obtain ⟨K, h⟩ := h
  exact ⟨K, fun k hk => (e k).trans (h k hk)⟩
theorem Evt.val {α : Type} {g : Nat → Option α} {r r' : α} (h : Evt g r) (e : r = r') : Evt g r' := e ▸ h
/-- one round -/
theorem Evt.succ {α : Type} {g : Nat → Option α} {r : α} (h : Evt (fun k => g (k + 1)) r) : Evt g r := by
  obtain ⟨K, h⟩ := h
  refine ⟨K + 1, fun k hk => ?_⟩
  obtain ⟨m, rfl⟩ : ∃ m, k = m + 1 := ⟨k - 1, by omega⟩
  exact h m (by omega)
theorem Evt.step {α : Type} {g g' : Nat → Option α} {r : α} (e : ∀ k, g (k + 1) = g' k) (h : Evt g' r) : Evt g r := Evt.succ (h.congr e)
theorem Evt.now {α : Type} {g : Nat → Option α} {r : α} (e : ∀ k, g (k + 1) = some r) : Evt g r := Evt.succ ⟨0, fun k _ => e k⟩
theorem Evt.all {α : Type} {g : Nat → Option α} {r : α} (e : ∀ k, g k = some r) : Evt g r := ⟨0, fun k _ => e k⟩
theorem Evt.pos {α : Type} {c : Prop} [Decidable c] {g g' : Nat → Option α} {r : α} (hc : c) (h : Evt g r) : Evt (fun k => if c then g k else g' k) r := h.congr fun _ => if_pos hc
theorem Evt.neg {α : Type} {c : Prop} [Decidable c] {g g' : Nat → Option α} {r : α} (hc : ¬ c) (h : Evt g' r) : Evt (fun k => if c then g k else g' k) r := h.congr fun _ => if_neg hc

end Go.Proofs.YtaafeallcaiooaaGreat.Pr
/- the reference's Apply. -/
namespace Go.Proofs.YtaafeallcaiooaaGreat.Pr
open Go.RowKit Go.Proofs.YtaafeallcaiooaaGreatW.PrintWords Go.Proofs.YtaafeallcaiooaaGreatW.PrintLast Go.Proofs.YtaafeallcaiooaaGreatW.PrintMore
set_option linter.unusedVariables false
set_option linter.unusedSimpArgs false
def isVarI (c : Int) : Bool := decide (c ≥ 120) && decide (c ≤ 122)
theorem isvar_calls (c : Int) (w : World) : Calls Tryz.prog 74 #[.int .u8 c] w fun e w' => e = .returned (.bool (isVarI c)) ∧ w' = w := by
  unfold isVarI
  by_cases h1 : c ≥ 120
  · by_cases h2 : c ≤ 122
    · have d1 : decide (c ≥ 120) = true := decide_eq_true h1
      have d2 : decide (c ≤ 122) = true := decide_eq_true h2
      rw [d1, d2]
      clear h1 h2
      go_enter Tryz.func74, Tryz.ntmps74
      go_wp2
      go_ret
      exact ⟨rfl, rfl⟩
    · have d1 : decide (c ≥ 120) = true := decide_eq_true h1
      have d2 : decide (c ≤ 122) = false := decide_eq_false h2
      rw [d1, d2]
      clear h1 h2
      go_enter Tryz.func74, Tryz.ntmps74
      go_wp2
      go_ret
      exact ⟨rfl, rfl⟩
  · have d1 : decide (c ≥ 120) = false := decide_eq_false h1
    rw [d1]
    clear h1
    go_enter Tryz.func74, Tryz.ntmps74
    go_wp2
    go_ret
    exact ⟨rfl, rfl⟩
/-- what stands for a character -/
def applyC (s0 s1 s2 : List UInt8) (c : UInt8) : List UInt8 := if c = 120 then s0 else if c = 121 then s1 else if c = 122 then s2 else [c]
def applyL (s0 s1 s2 l : List UInt8) : List UInt8 := l.flatMap (applyC s0 s1 s2)
theorem list_get (s : ByteArray) (i : Nat) (h : i < s.size) : s.data.toList[i]'(by simpa using h) = s[i] := by
  simp
  rfl
end Go.Proofs.YtaafeallcaiooaaGreat.Pr
-- Laid by wip/tools/inj.py of this project, which drives the kit's printer. Lean checks it.
namespace Go.Proofs.YtaafeallcaiooaaGreat.Pr
open Go.RowKit Go.Proofs.YtaafeallcaiooaaGreatW.PrintWords Go.Proofs.YtaafeallcaiooaaGreatW.PrintLast Go.Proofs.YtaafeallcaiooaaGreatW.PrintMore
attribute [local go_sem] max2_int min2_int max_two min_two max_three min_three max_four min_four   -- for this text's walks alone
set_option linter.unusedVariables false
set_option linter.unusedSimpArgs false

/-! ### numnahlaw08_grow: function 83 -/
mutual
def numnahlaw08_grow.j0 : Nat → ByteArray → Int → Int → Int → Bool → Option (ByteArray × Int)
 | 0, _, _, _, _, _ => none
 | k + 1, x0, x1, x2, x8, x31 => if x31 = true then (if 0 ≤ (Int.tmod x8 5) then (if (Int.tmod x8 5) ≤ (wrap64 ((Int.tmod x8 5) + 1)) then (if (wrap64 ((Int.tmod x8 5) + 1)) ≤ 5 then (some ((⟨#[97, 98, 120, 121, 122]⟩ : ByteArray).extract ((Int.tmod x8 5) : Int).toNat ((wrap64 ((Int.tmod x8 5) + 1)) : Int).toNat, wrap64 (x1 + 1))) else (none)) else (none)) else (none)) else (if 0 ≤ (wrap64 (x8 - 5)) then (if (wrap64 (x8 - 5)) ≤ (wrap64 (x8 - 4)) then (if (wrap64 (x8 - 4)) ≤ 6 then (if x8 < 8 then (numnahlaw08_grow.j1 k x0 x1 x2 x8 ((⟨#[99, 99, 100, 101, 101, 102]⟩ : ByteArray).extract ((wrap64 (x8 - 5)) : Int).toNat ((wrap64 (x8 - 4)) : Int).toNat) true) else (numnahlaw08_grow.j1 k x0 x1 x2 x8 ((⟨#[99, 99, 100, 101, 101, 102]⟩ : ByteArray).extract ((wrap64 (x8 - 5)) : Int).toNat ((wrap64 (x8 - 4)) : Int).toNat) (decide (x2 < 3)))) else (none)) else (none)) else (none))
def numnahlaw08_grow.j1 : Nat → ByteArray → Int → Int → Int → ByteArray → Bool → Option (ByteArray × Int)
 | 0, _, _, _, _, _, _ => none
 | k + 1, x0, x1, x2, x8, x9, x50 => if x50 = true then ((numnahlaw08_grow.f k x0 (wrap64 (x1 + 1)) (wrap64 (x2 - 1))).bind fun bt307 => (if x8 ≥ 8 then (if 1 + 1 ≤ 9223372036854775807 then (if 1 + bt307.1.size ≤ 9223372036854775807 then (if (((⟨#[100]⟩ : ByteArray) ++ (⟨#[40]⟩ : ByteArray)) ++ bt307.1).size + 1 ≤ 9223372036854775807 then (some ((((⟨#[100]⟩ : ByteArray) ++ (⟨#[40]⟩ : ByteArray)) ++ bt307.1) ++ (⟨#[41]⟩ : ByteArray), bt307.2)) else (none)) else (none)) else (none)) else (if x9.size + 1 ≤ 9223372036854775807 then (if (x9 ++ (⟨#[40]⟩ : ByteArray)).size + bt307.1.size ≤ 9223372036854775807 then (if ((x9 ++ (⟨#[40]⟩ : ByteArray)) ++ bt307.1).size + 1 ≤ 9223372036854775807 then (some (((x9 ++ (⟨#[40]⟩ : ByteArray)) ++ bt307.1) ++ (⟨#[41]⟩ : ByteArray), bt307.2)) else (none)) else (none)) else (none)))) else ((numnahlaw08_grow.f k x0 (wrap64 (x1 + 1)) (wrap64 (Int.tdiv (wrap64 (x2 - 1)) 2))).bind fun bt309 => ((numnahlaw08_grow.f k x0 bt309.2 (wrap64 ((wrap64 (x2 - 1)) - (wrap64 (Int.tdiv (wrap64 (x2 - 1)) 2))))).bind fun bt311 => (if x9.size + 1 ≤ 9223372036854775807 then (if (x9 ++ (⟨#[40]⟩ : ByteArray)).size + bt309.1.size ≤ 9223372036854775807 then (if ((x9 ++ (⟨#[40]⟩ : ByteArray)) ++ bt309.1).size + 1 ≤ 9223372036854775807 then (if (((x9 ++ (⟨#[40]⟩ : ByteArray)) ++ bt309.1) ++ (⟨#[44]⟩ : ByteArray)).size + bt311.1.size ≤ 9223372036854775807 then (if ((((x9 ++ (⟨#[40]⟩ : ByteArray)) ++ bt309.1) ++ (⟨#[44]⟩ : ByteArray)) ++ bt311.1).size + 1 ≤ 9223372036854775807 then (some (((((x9 ++ (⟨#[40]⟩ : ByteArray)) ++ bt309.1) ++ (⟨#[44]⟩ : ByteArray)) ++ bt311.1) ++ (⟨#[41]⟩ : ByteArray), bt311.2)) else (none)) else (none)) else (none)) else (none)) else (none))))
def numnahlaw08_grow.f : Nat → ByteArray → Int → Int → Option (ByteArray × Int)
 | 0, _, _, _ => none
 | k + 1, a0, a1, a2 => if a1 ≥ (a0.size : Int) then (some ((⟨#[97]⟩ : ByteArray), a1)) else (if 0 ≤ a1 then (if a1 < (a0.size : Int) then (if a2 < 2 then (numnahlaw08_grow.j0 k a0 a1 a2 (Int.tmod (wrap64 (bt a0 a1)) 11) true) else (numnahlaw08_grow.j0 k a0 a1 a2 (Int.tmod (wrap64 (bt a0 a1)) 11) (decide ((Int.tmod (wrap64 (bt a0 a1)) 11) < 5)))) else (none)) else (none))
end
theorem numnahlaw08_grow.mono_l : ∀ k, (∀ y0 y1 y2, LeO (numnahlaw08_grow.f k y0 y1 y2) (numnahlaw08_grow.f (k + 1) y0 y1 y2)) ∧ (∀ y0 y1 y2 y3 y4, LeO (numnahlaw08_grow.j0 k y0 y1 y2 y3 y4) (numnahlaw08_grow.j0 (k + 1) y0 y1 y2 y3 y4)) ∧ (∀ y0 y1 y2 y3 y4 y5, LeO (numnahlaw08_grow.j1 k y0 y1 y2 y3 y4 y5) (numnahlaw08_grow.j1 (k + 1) y0 y1 y2 y3 y4 y5))
 | 0 => ⟨fun _ _ _ r h => by simp [numnahlaw08_grow.f] at h, fun _ _ _ _ _ r h => by simp [numnahlaw08_grow.j0] at h, fun _ _ _ _ _ _ r h => by simp [numnahlaw08_grow.j1] at h⟩
 | k + 1 => by
  obtain ⟨ih0, ih1, ih2⟩ := numnahlaw08_grow.mono_l k
  refine ⟨?_, ?_, ?_⟩
  ·intro y0 y1 y2
   unfold numnahlaw08_grow.f
   repeat' first
   | (with_reducible exact ih0 _ _ _)
   | (with_reducible exact ih1 _ _ _ _ _)
   | (with_reducible exact ih2 _ _ _ _ _ _)
   | (with_reducible exact LeO.refl _)
   | (with_reducible exact LeO.none _)
   | (with_reducible refine LeO.ite ?_ ?_)
   | (with_reducible refine LeO.bind ?_ (fun _ => ?_))
   | exact ih0 _ _ _
   | exact ih1 _ _ _ _ _
   | exact ih2 _ _ _ _ _ _
   | exact LeO.none _
   | refine LeO.ite ?_ ?_
   | refine LeO.bind ?_ (fun _ => ?_)
  ·intro y0 y1 y2 y3 y4
   unfold numnahlaw08_grow.j0
   repeat' first
   | (with_reducible exact ih0 _ _ _)
   | (with_reducible exact ih1 _ _ _ _ _)
   | (with_reducible exact ih2 _ _ _ _ _ _)
   | (with_reducible exact LeO.refl _)
   | (with_reducible exact LeO.none _)
   | (with_reducible refine LeO.ite ?_ ?_)
   | (with_reducible refine LeO.bind ?_ (fun _ => ?_))
   | exact ih0 _ _ _
   | exact ih1 _ _ _ _ _
   | exact ih2 _ _ _ _ _ _
   | exact LeO.none _
   | refine LeO.ite ?_ ?_
   | refine LeO.bind ?_ (fun _ => ?_)
  ·intro y0 y1 y2 y3 y4 y5
   unfold numnahlaw08_grow.j1
   repeat' first
   | (with_reducible exact ih0 _ _ _)
   | (with_reducible exact ih1 _ _ _ _ _)
   | (with_reducible exact ih2 _ _ _ _ _ _)
   | (with_reducible exact LeO.refl _)
   | (with_reducible exact LeO.none _)
   | (with_reducible refine LeO.ite ?_ ?_)
   | (with_reducible refine LeO.bind ?_ (fun _ => ?_))
   | exact ih0 _ _ _
   | exact ih1 _ _ _ _ _
   | exact ih2 _ _ _ _ _ _
   | exact LeO.none _
   | refine LeO.ite ?_ ?_
   | refine LeO.bind ?_ (fun _ => ?_)
theorem numnahlaw08_grow.mono : ∀ a0 a1 a2 k, LeO (numnahlaw08_grow.f k a0 a1 a2) (numnahlaw08_grow.f (k + 1) a0 a1 a2) := by
 intro a0 a1 a2 k
 obtain ⟨ih0, ih1, ih2⟩ := numnahlaw08_grow.mono_l k
 exact ih0 a0 a1 a2
/-! ### numnahlaw08_term: function 33 -/
def numnahlaw08_term.f (k : Nat) (a0 : ByteArray) (a1 : Int) : Option (ByteArray) := (numnahlaw08_grow.f k a0 0 a1).bind fun bt313 => (some bt313.1)
theorem numnahlaw08_term.mono : ∀ a0 a1 k, LeO (numnahlaw08_term.f k a0 a1) (numnahlaw08_term.f (k + 1) a0 a1) := by
 intro a0 a1 k
 unfold numnahlaw08_term.f
 repeat' first
   | (with_reducible exact numnahlaw08_grow.mono _ _ _ _)
   | (with_reducible exact LeO.refl _)
   | (with_reducible exact LeO.none _)
   | (with_reducible refine LeO.ite ?_ ?_)
   | (with_reducible refine LeO.bind ?_ (fun _ => ?_))
   | exact numnahlaw08_grow.mono _ _ _ _
   | exact LeO.none _
   | refine LeO.ite ?_ ?_
   | refine LeO.bind ?_ (fun _ => ?_)
end Go.Proofs.YtaafeallcaiooaaGreat.Pr
-- indented by one
/- grow: terms made from strings. -/
namespace Go.Proofs.YtaafeallcaiooaaGreat.Pr
open Go.RowKit Go.Proofs.YtaafeallcaiooaaGreatW.PrintWords Go.Proofs.YtaafeallcaiooaaGreatW.PrintLast Go.Proofs.YtaafeallcaiooaaGreatW.PrintMore
set_option linter.unusedVariables false
set_option linter.unusedSimpArgs false
theorem B8_app' (a b : List UInt8) : B8 a ++ B8 b = B8 (a ++ b) := by
 apply ByteArray.ext
 simp [B8]
theorem text_size (t : Tm) : t.text.size = t.tx.length := by
 show (B8 t.tx).size = _
 exact B8_size _
theorem text_le {t : Tm} (h : t.size ≤ 1000) : t.text.size ≤ 4000 := by
 have := tx_le t
 rw [text_size]
 omega
theorem B8_one (c : UInt8) : (⟨#[c]⟩ : ByteArray) = B8 [c] := rfl
theorem text1 (c : UInt8) (t : Tm) : (⟨#[c]⟩ : ByteArray) ++ ⟨#[40]⟩ ++ t.text ++ ⟨#[41]⟩ = (Tm.app (c.toNat : Int) [t]).text := by
 show (⟨#[c]⟩ : ByteArray) ++ ⟨#[40]⟩ ++ B8 t.tx ++ ⟨#[41]⟩ = B8 _
 rw [B8_one, B8_one, B8_one, B8_app', B8_app', B8_app', tx_app, ch_of]
 rfl
theorem text2 (c : UInt8) (t u : Tm) : (⟨#[c]⟩ : ByteArray) ++ ⟨#[40]⟩ ++ t.text ++ ⟨#[44]⟩ ++ u.text ++ ⟨#[41]⟩ = (Tm.app (c.toNat : Int) [t, u]).text := by
 show (⟨#[c]⟩ : ByteArray) ++ ⟨#[40]⟩ ++ B8 t.tx ++ ⟨#[44]⟩ ++ B8 u.tx ++ ⟨#[41]⟩ = B8 _
 rw [B8_one, B8_one, B8_one, B8_one, B8_app', B8_app', B8_app', B8_app', B8_app', tx_app, ch_of]
 rfl
theorem app1_good {c : Int} {t : Tm} (hc : c = 99 ∨ c = 100) (h : t.good) : (Tm.app c [t]).good := by
 rw [Tm.good, Tm.goods, Tm.goods]
 rcases hc with rfl | rfl <;> exact ⟨by omega, by simp [nParts], h, trivial⟩
theorem app2_good {c : Int} {t u : Tm} (hc : c = 101 ∨ c = 102) (h : t.good) (h2 : u.good) : (Tm.app c [t, u]).good := by
 rw [Tm.good, Tm.goods, Tm.goods, Tm.goods]
 rcases hc with rfl | rfl <;> exact ⟨by omega, by simp [nParts], h, h2, trivial⟩
theorem size1 (c : Int) (t : Tm) : (Tm.app c [t]).size = 1 + t.size := by rw [Tm.size, Tm.sizes, Tm.sizes]; omega
theorem size2 (c : Int) (t u : Tm) : (Tm.app c [t, u]).size = 1 + t.size + u.size := by rw [Tm.size, Tm.sizes, Tm.sizes, Tm.sizes]; omega
/-- the letter alone -/
def ltT (x : Int) : Tm := if x % 5 = 0 then .app 97 [] else if x % 5 = 1 then .app 98 [] else if x % 5 = 2 then .var 120 else if x % 5 = 3 then .var 121 else .var 122
theorem ltT_good (x : Int) : (ltT x).good ∧ (ltT x).size = 1 := by
 unfold ltT
 split
 ·exact ⟨by rw [Tm.good, Tm.goods]; exact ⟨by omega, by decide, trivial⟩, by rw [Tm.size, Tm.sizes]; rfl⟩
 ·split
  ·exact ⟨by rw [Tm.good, Tm.goods]; exact ⟨by omega, by decide, trivial⟩, by rw [Tm.size, Tm.sizes]; rfl⟩
  ·split
   ·exact ⟨by rw [Tm.good]; omega, by rw [Tm.size]⟩
   ·split
    ·exact ⟨by rw [Tm.good]; omega, by rw [Tm.size]⟩
    ·exact ⟨by rw [Tm.good]; omega, by rw [Tm.size]⟩
theorem j0_l0 (s : ByteArray) (a1 a2 : Int) (k : Nat) : numnahlaw08_grow.j0 (k + 1) s a1 a2 0 true = some ((ltT 0).text, wrap64 (a1 + 1)) := by kernel_rfl
theorem j0_l1 (s : ByteArray) (a1 a2 : Int) (k : Nat) : numnahlaw08_grow.j0 (k + 1) s a1 a2 1 true = some ((ltT 1).text, wrap64 (a1 + 1)) := by kernel_rfl
theorem j0_l2 (s : ByteArray) (a1 a2 : Int) (k : Nat) : numnahlaw08_grow.j0 (k + 1) s a1 a2 2 true = some ((ltT 2).text, wrap64 (a1 + 1)) := by kernel_rfl
theorem j0_l3 (s : ByteArray) (a1 a2 : Int) (k : Nat) : numnahlaw08_grow.j0 (k + 1) s a1 a2 3 true = some ((ltT 3).text, wrap64 (a1 + 1)) := by kernel_rfl
theorem j0_l4 (s : ByteArray) (a1 a2 : Int) (k : Nat) : numnahlaw08_grow.j0 (k + 1) s a1 a2 4 true = some ((ltT 4).text, wrap64 (a1 + 1)) := by kernel_rfl
theorem j0_l5 (s : ByteArray) (a1 a2 : Int) (k : Nat) : numnahlaw08_grow.j0 (k + 1) s a1 a2 5 true = some ((ltT 5).text, wrap64 (a1 + 1)) := by kernel_rfl
theorem j0_l6 (s : ByteArray) (a1 a2 : Int) (k : Nat) : numnahlaw08_grow.j0 (k + 1) s a1 a2 6 true = some ((ltT 6).text, wrap64 (a1 + 1)) := by kernel_rfl
theorem j0_l7 (s : ByteArray) (a1 a2 : Int) (k : Nat) : numnahlaw08_grow.j0 (k + 1) s a1 a2 7 true = some ((ltT 7).text, wrap64 (a1 + 1)) := by kernel_rfl
theorem j0_l8 (s : ByteArray) (a1 a2 : Int) (k : Nat) : numnahlaw08_grow.j0 (k + 1) s a1 a2 8 true = some ((ltT 8).text, wrap64 (a1 + 1)) := by kernel_rfl
theorem j0_l9 (s : ByteArray) (a1 a2 : Int) (k : Nat) : numnahlaw08_grow.j0 (k + 1) s a1 a2 9 true = some ((ltT 9).text, wrap64 (a1 + 1)) := by kernel_rfl
theorem j0_l10 (s : ByteArray) (a1 a2 : Int) (k : Nat) : numnahlaw08_grow.j0 (k + 1) s a1 a2 10 true = some ((ltT 10).text, wrap64 (a1 + 1)) := by kernel_rfl
theorem j0_letter (s : ByteArray) (a1 a2 x : Int) (hx : 0 ≤ x ∧ x ≤ 10) (k : Nat) : numnahlaw08_grow.j0 (k + 1) s a1 a2 x true = some ((ltT x).text, wrap64 (a1 + 1)) := by
 have : x = 0 ∨ x = 1 ∨ x = 2 ∨ x = 3 ∨ x = 4 ∨ x = 5 ∨ x = 6 ∨ x = 7 ∨ x = 8 ∨ x = 9 ∨ x = 10 := by omega
 rcases this with rfl | rfl | rfl | rfl | rfl | rfl | rfl | rfl | rfl | rfl | rfl
 ·exact j0_l0 s a1 a2 k
 ·exact j0_l1 s a1 a2 k
 ·exact j0_l2 s a1 a2 k
 ·exact j0_l3 s a1 a2 k
 ·exact j0_l4 s a1 a2 k
 ·exact j0_l5 s a1 a2 k
 ·exact j0_l6 s a1 a2 k
 ·exact j0_l7 s a1 a2 k
 ·exact j0_l8 s a1 a2 k
 ·exact j0_l9 s a1 a2 k
 ·exact j0_l10 s a1 a2 k
def headB (x : Int) : UInt8 := if x ≤ 6 then 99 else if x = 7 then 100 else if x ≤ 9 then 101 else 102
theorem j0_h5 (s : ByteArray) (a1 a2 : Int) (k : Nat) : numnahlaw08_grow.j0 (k + 1) s a1 a2 5 false = if (5 : Int) < 8 then numnahlaw08_grow.j1 k s a1 a2 5 ⟨#[headB 5]⟩ true else numnahlaw08_grow.j1 k s a1 a2 5 ⟨#[headB 5]⟩ (decide (a2 < 3)) := by kernel_rfl
theorem j0_h6 (s : ByteArray) (a1 a2 : Int) (k : Nat) : numnahlaw08_grow.j0 (k + 1) s a1 a2 6 false = if (6 : Int) < 8 then numnahlaw08_grow.j1 k s a1 a2 6 ⟨#[headB 6]⟩ true else numnahlaw08_grow.j1 k s a1 a2 6 ⟨#[headB 6]⟩ (decide (a2 < 3)) := by kernel_rfl
theorem j0_h7 (s : ByteArray) (a1 a2 : Int) (k : Nat) : numnahlaw08_grow.j0 (k + 1) s a1 a2 7 false = if (7 : Int) < 8 then numnahlaw08_grow.j1 k s a1 a2 7 ⟨#[headB 7]⟩ true else numnahlaw08_grow.j1 k s a1 a2 7 ⟨#[headB 7]⟩ (decide (a2 < 3)) := by kernel_rfl
theorem j0_h8 (s : ByteArray) (a1 a2 : Int) (k : Nat) : numnahlaw08_grow.j0 (k + 1) s a1 a2 8 false = if (8 : Int) < 8 then numnahlaw08_grow.j1 k s a1 a2 8 ⟨#[headB 8]⟩ true else numnahlaw08_grow.j1 k s a1 a2 8 ⟨#[headB 8]⟩ (decide (a2 < 3)) := by kernel_rfl
theorem j0_h9 (s : ByteArray) (a1 a2 : Int) (k : Nat) : numnahlaw08_grow.j0 (k + 1) s a1 a2 9 false = if (9 : Int) < 8 then numnahlaw08_grow.j1 k s a1 a2 9 ⟨#[headB 9]⟩ true else numnahlaw08_grow.j1 k s a1 a2 9 ⟨#[headB 9]⟩ (decide (a2 < 3)) := by kernel_rfl
theorem j0_h10 (s : ByteArray) (a1 a2 : Int) (k : Nat) : numnahlaw08_grow.j0 (k + 1) s a1 a2 10 false = if (10 : Int) < 8 then numnahlaw08_grow.j1 k s a1 a2 10 ⟨#[headB 10]⟩ true else numnahlaw08_grow.j1 k s a1 a2 10 ⟨#[headB 10]⟩ (decide (a2 < 3)) := by kernel_rfl
theorem j0_head (s : ByteArray) (a1 a2 x : Int) (hx : 5 ≤ x ∧ x ≤ 10) (k : Nat) : numnahlaw08_grow.j0 (k + 1) s a1 a2 x false = if x < 8 then numnahlaw08_grow.j1 k s a1 a2 x ⟨#[headB x]⟩ true else numnahlaw08_grow.j1 k s a1 a2 x ⟨#[headB x]⟩ (decide (a2 < 3)) := by
 have : x = 5 ∨ x = 6 ∨ x = 7 ∨ x = 8 ∨ x = 9 ∨ x = 10 := by omega
 rcases this with rfl | rfl | rfl | rfl | rfl | rfl
 ·exact j0_h5 s a1 a2 k
 ·exact j0_h6 s a1 a2 k
 ·exact j0_h7 s a1 a2 k
 ·exact j0_h8 s a1 a2 k
 ·exact j0_h9 s a1 a2 k
 ·exact j0_h10 s a1 a2 k
theorem j1_one {s : ByteArray} {a1 a2 x a' : Int} {h : UInt8} {t : Tm} (hE : Evt (fun k => numnahlaw08_grow.f k s (wrap64 (a1 + 1)) (wrap64 (a2 - 1))) (t.text, a')) (ht : t.size ≤ 1000) : Evt (fun k => numnahlaw08_grow.j1 k s a1 a2 x ⟨#[h]⟩ true) ((Tm.app (if x ≥ 8 then 100 else (h.toNat : Int)) [t]).text, a') := by
 have hsz := text_le ht
 have e1 : ∀ c : UInt8, (⟨#[c]⟩ : ByteArray).size = 1 := fun _ => rfl
 refine Evt.step (g' := fun k => (numnahlaw08_grow.f k s (wrap64 (a1 + 1)) (wrap64 (a2 - 1))).bind fun bt307 => _) (fun k => by rw [numnahlaw08_grow.j1, if_pos rfl]) (Evt.bind hE (Evt.all fun k => ?_))
 dsimp only
 by_cases hx : x ≥ 8
 ·rw [if_pos hx, if_pos hx, if_pos (by decide), if_pos (by omega), if_pos (by rw [ByteArray.size_append, ByteArray.size_append, e1, e1]; omega)]
  rw [text1]
  rfl
 ·rw [if_neg hx, if_neg hx, if_pos (by rw [e1]; decide), if_pos (by rw [ByteArray.size_append, e1, e1]; omega), if_pos (by rw [ByteArray.size_append, ByteArray.size_append, e1, e1]; omega)]
  rw [text1]
theorem j1_two {s : ByteArray} {a1 a2 x a' a'' : Int} {h : UInt8} {t u : Tm} (hE : Evt (fun k => numnahlaw08_grow.f k s (wrap64 (a1 + 1)) (wrap64 (Int.tdiv (wrap64 (a2 - 1)) 2))) (t.text, a')) (hE2 : Evt (fun k => numnahlaw08_grow.f k s a' (wrap64 ((wrap64 (a2 - 1)) - (wrap64 (Int.tdiv (wrap64 (a2 - 1)) 2))))) (u.text, a'')) (ht : t.size ≤ 1000) (hu : u.size ≤ 1000) : Evt (fun k => numnahlaw08_grow.j1 k s a1 a2 x ⟨#[h]⟩ false) ((Tm.app (h.toNat : Int) [t, u]).text, a'') := by
 have hsz := text_le ht
 have hsu := text_le hu
 have e1 : ∀ c : UInt8, (⟨#[c]⟩ : ByteArray).size = 1 := fun _ => rfl
 refine Evt.step (g' := fun k => (numnahlaw08_grow.f k s (wrap64 (a1 + 1)) (wrap64 (Int.tdiv (wrap64 (a2 - 1)) 2))).bind fun bt309 => ((numnahlaw08_grow.f k s bt309.2 (wrap64 ((wrap64 (a2 - 1)) - (wrap64 (Int.tdiv (wrap64 (a2 - 1)) 2))))).bind fun bt311 => _)) (fun k => by rw [numnahlaw08_grow.j1, if_neg (by simp)]) (Evt.bind hE (Evt.bind hE2 (Evt.all fun k => ?_)))
 dsimp only
 simp only [ByteArray.size_append, e1]
 rw [if_pos (by decide), if_pos (by omega), if_pos (by omega), if_pos (by omega), if_pos (by omega), text2]
theorem bt_range (s : ByteArray) (i : Int) : 0 ≤ bt s i ∧ bt s i ≤ 255 := by
 unfold bt
 split
 ·have := (s[i.toNat]'(by assumption)).toNat_lt
  omega
 ·omega
/-- grow makes a term of at most so many symbols -/
theorem growE (s : ByteArray) (hs : s.size ≤ 9223372036854775807) : ∀ (n : Nat) (a1 a2 : Int), 0 ≤ a1 → a1 ≤ 9223372036854775807 → 1 ≤ a2 → a2 ≤ n → n ≤ 1000 →
  ∃ (t : Tm) (a' : Int), Evt (fun k => numnahlaw08_grow.f k s a1 a2) (t.text, a') ∧ t.good ∧ t.size ≤ a2 ∧ 0 ≤ a' ∧ a' ≤ 9223372036854775807
 | 0, a1, a2, _, _, h3, h4, _ => by omega
 | n + 1, a1, a2, h1, h2, h3, h4, hn => by
  by_cases he : a1 ≥ (s.size : Int)
  ·exact ⟨.app 97 [], a1, Evt.now fun k => by rw [numnahlaw08_grow.f, if_pos he]; rfl, by rw [Tm.good, Tm.goods]; exact ⟨by omega, by decide, trivial⟩, by rw [Tm.size, Tm.sizes]; omega, h1, h2⟩
  ·obtain ⟨x, hx⟩ : ∃ x, x = Int.tmod (wrap64 (bt s a1)) 11 := ⟨_, rfl⟩
   have hb := bt_range s a1
   have hxr : 0 ≤ x ∧ x ≤ 10 := by
    rw [hx, wr (by omega) (by omega), Int.tmod_eq_emod_of_nonneg hb.1]
    omega
   have hw1 : wrap64 (a1 + 1) = a1 + 1 := wr (by omega) (by omega)
   have hw2 : wrap64 (a2 - 1) = a2 - 1 := wr (by omega) (by omega)
   have hf : ∀ k, numnahlaw08_grow.f (k + 1) s a1 a2 = if a2 < 2 then numnahlaw08_grow.j0 k s a1 a2 x true else numnahlaw08_grow.j0 k s a1 a2 x (decide (x < 5)) := fun k => by
    rw [numnahlaw08_grow.f, if_neg he, if_pos h1, if_pos (by omega), ← hx]
   have hlet : (a2 < 2 ∨ x < 5) → Evt (fun k => numnahlaw08_grow.f k s a1 a2) ((ltT x).text, a1 + 1) := fun hc => by
    refine Evt.step (g' := fun k => numnahlaw08_grow.j0 k s a1 a2 x true) (fun k => ?_) (Evt.now fun k => ?_)
    ·rw [hf]
     by_cases h : a2 < 2
     ·rw [if_pos h]
     ·rw [if_neg h, decide_eq_true (hc.resolve_left h)]
    ·rw [j0_letter s a1 a2 x hxr, hw1]
   by_cases hc : a2 < 2 ∨ x < 5
   ·exact ⟨ltT x, a1 + 1, hlet hc, (ltT_good x).1, by rw [(ltT_good x).2]; omega, by omega, by omega⟩
   ·have hc2 : ¬ a2 < 2 ∧ ¬ x < 5 := ⟨fun h => hc (.inl h), fun h => hc (.inr h)⟩
    have hstep : ∀ {b : Bool} {r : ByteArray × Int}, (x < 8 → b = true) → (¬ x < 8 → b = decide (a2 < 3)) → Evt (fun k => numnahlaw08_grow.j1 k s a1 a2 x ⟨#[headB x]⟩ b) r → Evt (fun k => numnahlaw08_grow.f k s a1 a2) r := fun {b r} hb1 hb2 hE => by
     refine Evt.step (g' := fun k => numnahlaw08_grow.j0 k s a1 a2 x false) (fun k => ?_) (Evt.step (g' := fun k => numnahlaw08_grow.j1 k s a1 a2 x ⟨#[headB x]⟩ b) (fun k => ?_) hE)
     ·rw [hf, if_neg hc2.1, decide_eq_false hc2.2]
     ·rw [j0_head s a1 a2 x (by omega)]
      by_cases h8 : x < 8
      ·rw [if_pos h8, hb1 h8]
      ·rw [if_neg h8, hb2 h8]
    by_cases ho : x < 8 ∨ a2 < 3
    ·obtain ⟨t, a', hE, hg, hsz, h5, h6⟩ := growE s hs n (a1 + 1) (a2 - 1) (by omega) (by omega) (by omega) (by omega) (by omega)
     have hE' : Evt (fun k => numnahlaw08_grow.f k s (wrap64 (a1 + 1)) (wrap64 (a2 - 1))) (t.text, a') := by rw [hw1, hw2]; exact hE
     refine ⟨_, a', hstep (b := true) (fun _ => rfl) (fun h => (decide_eq_true (ho.resolve_left h)).symm) (j1_one (x := x) (h := headB x) hE' (by omega)), app1_good ?_ hg, by rw [size1]; omega, h5, h6⟩
     have : x = 5 ∨ x = 6 ∨ x = 7 ∨ x = 8 ∨ x = 9 ∨ x = 10 := by omega
     clear hx hf hlet hstep
     rcases this with rfl | rfl | rfl | rfl | rfl | rfl <;> decide
    ·have ho2 : ¬ x < 8 ∧ ¬ a2 < 3 := ⟨fun h => ho (.inl h), fun h => ho (.inr h)⟩
     have hdv : Int.tdiv (a2 - 1) 2 = (a2 - 1) / 2 := Int.tdiv_eq_ediv_of_nonneg (by omega)
     obtain ⟨t, a', hE, hg, hsz, h5, h6⟩ := growE s hs n (a1 + 1) ((a2 - 1) / 2) (by omega) (by omega) (by omega) (by omega) (by omega)
     obtain ⟨u, a'', hE2, hg2, hsz2, h7, h8⟩ := growE s hs n a' (a2 - 1 - (a2 - 1) / 2) h5 h6 (by omega) (by omega) (by omega)
     have hw3 : wrap64 (Int.tdiv (wrap64 (a2 - 1)) 2) = (a2 - 1) / 2 := by rw [hw2, hdv]; exact wr (by omega) (by omega)
     have hw4 : wrap64 ((wrap64 (a2 - 1)) - (wrap64 (Int.tdiv (wrap64 (a2 - 1)) 2))) = a2 - 1 - (a2 - 1) / 2 := by rw [hw3, hw2]; exact wr (by omega) (by omega)
     have hE' : Evt (fun k => numnahlaw08_grow.f k s (wrap64 (a1 + 1)) (wrap64 (Int.tdiv (wrap64 (a2 - 1)) 2))) (t.text, a') := by rw [hw1, hw3]; exact hE
     have hE2' : Evt (fun k => numnahlaw08_grow.f k s a' (wrap64 ((wrap64 (a2 - 1)) - (wrap64 (Int.tdiv (wrap64 (a2 - 1)) 2))))) (u.text, a'') := by rw [hw4]; exact hE2
     refine ⟨_, a'', hstep (b := false) (fun h => absurd h ho2.1) (fun _ => (decide_eq_false ho2.2).symm) (j1_two (x := x) (h := headB x) hE' hE2' (by omega) (by omega)), app2_good ?_ hg hg2, by rw [size2]; omega, h7, h8⟩
     have : x = 8 ∨ x = 9 ∨ x = 10 := by omega
     clear hx hf hlet hstep
     rcases this with rfl | rfl | rfl <;> decide
end Go.Proofs.YtaafeallcaiooaaGreat.Pr
-- indented by one
/- Apply on texts of terms; terms without variables; Greater on texts. -/
/- awake holds. -/
namespace Go.Proofs.YtaafeallcaiooaaGreat.Pr
open Go.RowKit Go.Proofs.YtaafeallcaiooaaGreatW.PrintWords Go.Proofs.YtaafeallcaiooaaGreatW.PrintLast Go.Proofs.YtaafeallcaiooaaGreatW.PrintMore
theorem t1 : nextsT [⟨⟨#[101, 40, 120, 44, 121, 41]⟩, ⟨#[101, 40, 121, 44, 120, 41]⟩⟩] ⟨#[101, 40, 97, 44, 98, 41]⟩ = (0, [⟨#[101, 40, 98, 44, 97, 41]⟩]) := by kernel_rfl
theorem t2 : (valT [[0], [1], [1, 1], [0, 1], [0, 1, 1], [0, 1, 2]] ⟨#[102, 40, 99, 40, 98, 41, 44, 120, 41]⟩).1 = 0 := by kernel_rfl
theorem t3 : orientT [⟨⟨#[99, 40, 100, 40, 120, 41, 41]⟩, ⟨#[100, 40, 99, 40, 120, 41, 41]⟩⟩] = (0, ⟨#[97, 98, 99, 100, 101, 102]⟩) := by kernel_rfl
theorem awake_true : numnahlaw08_awake.f 20 = some true := by kernel_rfl
end Go.Proofs.YtaafeallcaiooaaGreat.Pr
/- Greater. -/
namespace Go.Proofs.YtaafeallcaiooaaGreat.Pr
open Go.RowKit Go.Maps Go.Proofs.YtaafeallcaiooaaGreatW.PrintWords Go.Proofs.YtaafeallcaiooaaGreatW.PrintLast Go.Proofs.YtaafeallcaiooaaGreatW.PrintMore
set_option linter.unusedVariables false
set_option linter.unusedSimpArgs false
end Go.Proofs.YtaafeallcaiooaaGreat.Pr
namespace Go.Proofs.YtaafeallcaiooaaGreat.Pr
open Go.RowKit Go.Proofs.YtaafeallcaiooaaGreatW.PrintWords Go.Proofs.YtaafeallcaiooaaGreatW.PrintLast Go.Proofs.YtaafeallcaiooaaGreatW.PrintMore
set_option linter.unusedVariables false
set_option linter.unusedSimpArgs false
/-- three terms in place of the variables -/
def sub3 (x y z : Tm) : Sub := fun v => if v = 120 then some x else if v = 121 then some y else if v = 122 then some z else none
theorem applyL_app (s0 s1 s2 a b : List UInt8) : applyL s0 s1 s2 (a ++ b) = applyL s0 s1 s2 a ++ applyL s0 s1 s2 b := by unfold applyL; rw [List.flatMap_append]
theorem applyL_cons (s0 s1 s2 : List UInt8) (c : UInt8) (b : List UInt8) : applyL s0 s1 s2 (c :: b) = applyC s0 s1 s2 c ++ applyL s0 s1 s2 b := by unfold applyL; rw [List.flatMap_cons]
theorem applyC_no (s0 s1 s2 : List UInt8) {c : UInt8} (h : c.toNat < 120 ∨ 122 < c.toNat) : applyC s0 s1 s2 c = [c] := by
  unfold applyC
  rw [if_neg (fun e => by subst e; revert h; decide), if_neg (fun e => by subst e; revert h; decide), if_neg (fun e => by subst e; revert h; decide)]
theorem applyM (s0 s1 s2 : List UInt8) (f : Tm → Tm) : ∀ (l : List Tm) (i : Nat), (∀ t, t ∈ l → applyL s0 s1 s2 t.tx = (f t).tx) → applyL s0 s1 s2 (txM i l) = txM i (l.map f)
  | [], i, _ => rfl
  | t :: l, i, h => by
    rw [txM, List.map_cons, txM, applyL_cons, applyL_app, h t (by simp), applyM s0 s1 s2 f l (i + 1) (fun u hu => h u (by simp [hu])), applyC_no s0 s1 s2 (by
      have := mark_nat i
      unfold mark at this ⊢
      split
      · left; decide
      · left; decide)]
    rfl
/-! ### terms without variables -/
def aT : Tm := .app 97 []
/-- a in place of all variables -/
def Tm.gr (t : Tm) : Tm := t.sub (sub3 aT aT aT)
/-! ### Greater on texts -/
theorem awake_mono : ∀ n, numnahlaw08_awake.f (20 + n) = some true
  | 0 => awake_true
  | n + 1 => numnahlaw08_awake.mono (20 + n) true (awake_mono n)
theorem awakeE : Evt (fun k => numnahlaw08_awake.f k) true := ⟨20, fun k hk => by
  have := awake_mono (k - 20)
  rwa [show 20 + (k - 20) = k by omega] at this⟩
end Go.Proofs.YtaafeallcaiooaaGreat.Pr
namespace Go.Proofs.YtaafeallcaiooaaGreat.Pr
open Go.RowKit Go.Proofs.YtaafeallcaiooaaGreatW.PrintWords Go.Proofs.YtaafeallcaiooaaGreatW.PrintLast Go.Proofs.YtaafeallcaiooaaGreatW.PrintMore
set_option linter.unusedVariables false
set_option linter.unusedSimpArgs false
theorem short_ev (s : ByteArray) : ∃ t : ByteArray, numnahlaw08_short.f s = some t ∧ t.size ≤ 400 := by
  unfold numnahlaw08_short.f
  have h : 0 ≤ mn (s.size : Int) 400 ∧ mn (s.size : Int) 400 ≤ (s.size : Int) ∧ mn (s.size : Int) 400 ≤ 400 := by unfold mn; split <;> omega
  rw [if_pos h.1, if_pos h.2.1]
  refine ⟨_, rfl, ?_⟩
  rw [ByteArray.size_extract]
  omega
theorem awakeF : Evt (fun k => (numnahlaw08_awake.f k).bind fun t => some t) true := Evt.bind awakeE (Evt.all fun _ => rfl)
end Go.Proofs.YtaafeallcaiooaaGreat.Pr
