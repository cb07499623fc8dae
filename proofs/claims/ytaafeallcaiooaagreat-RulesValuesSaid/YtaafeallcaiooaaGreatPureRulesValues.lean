/- RulesValues: Value answers as the reference says. -/
import Derived.Test.YtaafeallcaiooaaGreatHGt0
import Derived.Test.YtaafeallcaiooaaGreatHVa
import Derived.Test.YtaafeallcaiooaaGreatPrA9
import Derived.Test.YtaafeallcaiooaaGreatPrB1
import Derived.Test.YtaafeallcaiooaaGreatHEx
import Derived.Test.YtaafeallcaiooaaGreatHGw
import Derived.Test.YtaafeallcaiooaaGreatHAp
import Derived.Test.YtaafeallcaiooaaGreatHRt2
import Derived.Test.YtaafeallcaiooaaGreatDefRulesValues
/- the path order: transitive, irreflexive, total on terms without variables, stable. -/
namespace Go.Proofs.YtaafeallcaiooaaGreat.Pr
open Go.RowKit
set_option linter.unusedVariables false
set_option linter.unusedSimpArgs false
theorem same_iff {a b : Tm} (ha : a.good) (hb : b.good) : sameB a b = true ↔ a = b := by
  rw [sameB_eq ha hb, decide_eq_true_iff]
  exact ⟨text_inj ha hb, fun h => by rw [h]⟩
theorem same_refl (a : Tm) : sameB a a = true := by unfold sameB; simp
theorem occ_app (v s : Int) (l : List Tm) : occT v (.app s l) = l.any (occT v) := by
  unfold occT
  rw [Tm.subs, List.any_cons]
  have : isVar v (.app s l) = false := by rfl
  rw [this, Bool.false_or]
  clear this
  induction l with
  | nil => rfl
  | cons t l ih => rw [Tm.subsL, List.any_append, List.any_cons, ih]
theorem occ_var (v c : Int) : occT v (.var c) = decide (v = c) := by
  unfold occT
  rw [Tm.subs]
  by_cases h : v = c
  · subst h; simp [isVar]
  · simp [isVar, h, show ¬ c = v from fun e => h e.symm]
/-- the greater one is made of a symbol -/
theorem gt_isApp {r : Int → Int} {a b : Tm} (h : gt r a b = true) : ∃ s l, a = .app s l := by
  cases a with
  | var c =>
    exfalso
    cases b with
    | var v => rw [gt_var] at h; cases h
    | app s l => rw [gt_va] at h; cases h
  | app s l => exact ⟨s, l, rfl⟩
theorem gt_v {r : Int → Int} {s v : Int} {l : List Tm} : gt r (.app s l) (.var v) = occT v (.app s l) := gt_var r _ v
/-- what makes a term greater than a compound one -/
theorem gt_iff {r : Int → Int} {s s' : Int} {l l' : List Tm} (ha : (Tm.app s l).good) (hb : (Tm.app s' l').good) : gt r (.app s l) (.app s' l') = true ↔
    (∃ t, t ∈ l ∧ (t = .app s' l' ∨ gt r t (.app s' l') = true)) ∨ (¬ r s > r s' ∧ (∀ u, u ∈ l' → gt r (.app s l) u = true) ∧ (s ≠ s' ∨ (s = s' ∧ lexF (gt r) l l' = true))) := by
  have hga := ha
  rw [Tm.good] at hga
  have h1 : (l.any (fun t => sameB t (.app s' l') || gt r t (.app s' l'))) = true ↔ ∃ t, t ∈ l ∧ (t = .app s' l' ∨ gt r t (.app s' l') = true) := by
    rw [List.any_eq_true]
    exact ⟨fun ⟨t, h, h2⟩ => ⟨t, h, (Bool.or_eq_true _ _ ▸ h2).imp (fun h3 => (same_iff (goods_mem hga.2.2 h) hb).1 h3) id⟩, fun ⟨t, h, h2⟩ => ⟨t, h, by
      rw [Bool.or_eq_true]
      exact h2.imp (fun h3 => (same_iff (goods_mem hga.2.2 h) hb).2 h3) id⟩⟩
  have h2 : (l'.all (fun u => gt r (.app s l) u)) = true ↔ ∀ u, u ∈ l' → gt r (.app s l) u = true := List.all_eq_true
  rw [gt_app, ← h1, ← h2]
  split
  · rename_i h; simp [h]
  · rename_i h
    split
    · rename_i hr
      exact ⟨fun e => (by cases e), fun e => by rcases e with e | e; exact absurd e h; exact absurd hr e.1⟩
    · rename_i hr
      split
      · rename_i hn
        exact ⟨fun e => (by cases e), fun e => by
          rcases e with e | e
          · exact absurd e h
          · rw [e.2.1] at hn; cases hn⟩
      · rename_i hn
        have hn2 : (l'.all fun u => gt r (.app s l) u) = true := by
          cases hx : (l'.all fun u => gt r (.app s l) u) with
          | true => rfl
          | false => rw [hx] at hn; exact absurd rfl hn
        by_cases hs : s = s'
        · rw [if_neg (fun e => e hs)]
          exact ⟨fun e => .inr ⟨hr, hn2, .inr ⟨hs, e⟩⟩, fun e => by
            rcases e with e | ⟨_, _, e | e⟩
            · exact absurd e h
            · exact absurd hs e
            · exact e.2⟩
        · rw [if_pos hs]
          exact ⟨fun _ => .inr ⟨hr, hn2, .inl hs⟩, fun _ => rfl⟩
/-- a term is greater than what its parts are, or are greater than -/
theorem gt_part {r : Int → Int} {s : Int} {l : List Tm} {t u : Tm} (ha : (Tm.app s l).good) (hu : u.good) (hm : t ∈ l) (h : t = u ∨ gt r t u = true) : gt r (.app s l) u = true := by
  cases u with
  | var v =>
    rw [gt_v, occ_app]
    refine List.any_eq_true.2 ⟨t, hm, ?_⟩
    rcases h with rfl | h
    · rw [occ_var]; simp
    · obtain ⟨s2, l2, rfl⟩ := gt_isApp h
      rwa [gt_v] at h
  | app s' l' => exact (gt_iff ha hu).2 (.inl ⟨t, hm, h⟩)
/-- variables of the smaller one are in the greater one -/
theorem gt_occ {r : Int → Int} : ∀ (n : Nat) (a b : Tm), a.size + b.size ≤ n → a.good → b.good → gt r a b = true → ∀ v, occT v b = true → occT v a = true
  | 0, a, b, hn, _, _, _, _, _ => by have := Tm.size_pos a; have := Tm.size_pos b; omega
  | n + 1, a, b, hn, ha, hb, h, v, hv => by
    obtain ⟨s, l, rfl⟩ := gt_isApp h
    have e1 := Tm.size.eq_2 s l
    have hga := ha
    rw [Tm.good] at hga
    cases b with
    | var c =>
      rw [gt_v] at h
      rw [occ_var, decide_eq_true_iff] at hv
      subst hv
      exact h
    | app s' l' =>
      have e2 := Tm.size.eq_2 s' l'
      have hgb := hb
      rw [Tm.good] at hgb
      rcases (gt_iff ha hb).1 h with ⟨t, ht, h2⟩ | ⟨_, h2, _⟩
      · rw [occ_app]
        refine List.any_eq_true.2 ⟨t, ht, ?_⟩
        rcases h2 with rfl | h2
        · exact hv
        · exact gt_occ n t _ (by have := sizes_mem l t ht; omega) (goods_mem hga.2.2 ht) hb h2 v hv
      · rw [occ_app] at hv
        obtain ⟨u, hu, hv2⟩ := List.any_eq_true.1 hv
        exact gt_occ n _ u (by have := sizes_mem l' u hu; omega) ha (goods_mem hgb.2.2 hu) (h2 u hu) v hv2
theorem lex_trans {g : Tm → Tm → Bool} : ∀ (l m k : List Tm), (∀ t, t ∈ l ++ m ++ k → t.good) → (∀ x y z, x ∈ l → y ∈ m → z ∈ k → g x y = true → g y z = true → g x z = true) →
    (∀ x z, x ∈ l → z ∈ k → g x z = true → x ≠ z) → lexF g l m = true → lexF g m k = true → lexF g l k = true
  | [], _, _, _, _, _, h, _ => by rw [lexF] at h; cases h; (intros; simp_all)
  | _ :: _, [], _, _, _, _, h, _ => by rw [lexF] at h; cases h; (intros; simp_all)
  | _ :: _, _ :: _, [], _, _, _, _, h => by rw [lexF] at h; cases h; (intros; simp_all)
  | x :: l, y :: m, z :: k, hg, ht, hi, h1, h2 => by
    have gx := hg x (by simp)
    have gy := hg y (by simp)
    have gz := hg z (by simp)
    rw [lexF] at h1 h2 ⊢
    by_cases e1 : sameB x y = true
    · rw [if_pos e1] at h1
      obtain rfl := (same_iff gx gy).1 e1
      by_cases e2 : sameB x z = true
      · rw [if_pos e2] at h2
        rw [if_pos e2]
        exact lex_trans l m k (fun t h => hg t (by simp at h ⊢; rcases h with h | h | h <;> simp [h])) (fun a b c ha hb hc => ht a b c (by simp [ha]) (by simp [hb]) (by simp [hc])) (fun a c ha hc => hi a c (by simp [ha]) (by simp [hc])) h1 h2
      · rw [if_neg e2] at h2
        rw [if_neg e2]
        exact h2
    · rw [if_neg e1] at h1
      by_cases e2 : sameB y z = true
      · obtain rfl := (same_iff gy gz).1 e2
        rw [if_neg e1]
        exact h1
      · rw [if_neg e2] at h2
        have h3 := ht x y z (by simp) (by simp) (by simp) h1 h2
        rw [if_neg (fun e => hi x z (by simp) (by simp) h3 ((same_iff gx gz).1 e))]
        exact h3
/-- ranks of different symbols differ -/
def RankInj (r : Int → Int) : Prop := ∀ s s' : Int, 97 ≤ s ∧ s ≤ 102 → 97 ≤ s' ∧ s' ≤ 102 → r s = r s' → s = s'
theorem lex_self {g : Tm → Tm → Bool} : ∀ l : List Tm, lexF g l l = false
  | [] => rfl
  | t :: l => by rw [lexF, if_pos (same_refl t)]; exact lex_self l
/-- a term is greater than the parts of what it is greater than -/
theorem gt_sub {r : Int → Int} {s' : Int} {l' : List Tm} (hb : (Tm.app s' l').good) {u : Tm} (hu : u ∈ l') : ∀ (n : Nat) (a : Tm), a.size ≤ n → a.good → gt r a (.app s' l') = true → gt r a u = true
  | 0, a, hn, _, _ => by have := Tm.size_pos a; omega
  | n + 1, a, hn, ha, h => by
    obtain ⟨s, l, rfl⟩ := gt_isApp h
    have e1 := Tm.size.eq_2 s l
    have hga := ha
    have hgb := hb
    rw [Tm.good] at hga hgb
    have hug := goods_mem hgb.2.2 hu
    rcases (gt_iff ha hb).1 h with ⟨t, ht, h3⟩ | ⟨_, h2, _⟩
    · refine gt_part ha hug ht (.inr ?_)
      rcases h3 with rfl | h3
      · exact gt_part hb hug hu (.inl rfl)
      · exact gt_sub hb hu n t (by have := sizes_mem l t ht; omega) (goods_mem hga.2.2 ht) h3
    · exact h2 u hu
theorem gt_irr {r : Int → Int} : ∀ (n : Nat) (a : Tm), a.size ≤ n → a.good → gt r a a = false
  | 0, a, hn, _ => by have := Tm.size_pos a; omega
  | n + 1, .var c, hn, ha => by rw [gt_var]
  | n + 1, .app s l, hn, ha => by
    have e1 := Tm.size.eq_2 s l
    have hga := ha
    rw [Tm.good] at hga
    cases hx : gt r (.app s l) (.app s l) with
    | false => rfl
    | true =>
      exfalso
      rcases (gt_iff ha ha).1 hx with ⟨t, ht, h3⟩ | ⟨_, _, h | ⟨_, h⟩⟩
      · have h4 := sizes_mem l t ht
        rcases h3 with rfl | h3
        · omega
        · have h5 := gt_sub (r := r) ha ht _ t (Int.self_le_toNat _) (goods_mem hga.2.2 ht) h3
          rw [gt_irr n t (by omega) (goods_mem hga.2.2 ht)] at h5
          cases h5
      · exact h rfl
      · rw [lex_self] at h; cases h
theorem gt_irrefl {r : Int → Int} {a : Tm} (ha : a.good) : gt r a a = false := gt_irr _ a (Int.self_le_toNat _) ha
theorem gt_trn {r : Int → Int} (hr : RankInj r) : ∀ (n : Nat) (a b c : Tm), a.size + b.size + c.size ≤ n → a.good → b.good → c.good → gt r a b = true → gt r b c = true → gt r a c = true
  | 0, a, b, c, hn, _, _, _, _, _ => by have := Tm.size_pos a; have := Tm.size_pos b; have := Tm.size_pos c; omega
  | n + 1, a, b, c, hn, ha, hb, hc, h1, h2 => by
    have ih1 := gt_trn hr n
    obtain ⟨s, l, rfl⟩ := gt_isApp h1
    obtain ⟨s', l', rfl⟩ := gt_isApp h2
    have e1 := Tm.size.eq_2 s l
    have e2 := Tm.size.eq_2 s' l'
    have hga := ha
    have hgb := hb
    rw [Tm.good] at hga hgb
    cases c with
    | var v =>
      rw [gt_v] at h2 ⊢
      exact gt_occ _ _ _ (Int.self_le_toNat _) ha hb h1 v h2
    | app s'' l'' =>
      have e3 := Tm.size.eq_2 s'' l''
      have hgc := hc
      rw [Tm.good] at hgc
      rcases (gt_iff ha hb).1 h1 with ⟨t, ht, h3⟩ | ⟨hr1, hall1, hor1⟩
      · refine gt_part ha hc ht (.inr ?_)
        rcases h3 with rfl | h3
        · exact h2
        · exact ih1 t _ _ (by have := sizes_mem l t ht; omega) (goods_mem hga.2.2 ht) hb hc h3 h2
      · rcases (gt_iff hb hc).1 h2 with ⟨u, hu, h3⟩ | ⟨hr2, hall2, hor2⟩
        · have h4 := hall1 u hu
          rcases h3 with rfl | h3
          · exact h4
          · exact ih1 _ u _ (by have := sizes_mem l' u hu; omega) ha (goods_mem hgb.2.2 hu) hc h4 h3
        · refine (gt_iff ha hc).2 (.inr ⟨by omega, fun w hw => ih1 _ _ w (by have := sizes_mem l'' w hw; omega) ha hb (goods_mem hgc.2.2 hw) h1 (hall2 w hw), ?_⟩)
          by_cases hs : s = s''
          · refine .inr ⟨hs, ?_⟩
            have hss : s = s' := hr s s' hga.1 hgb.1 (by subst hs; omega)
            rcases hor1 with h | ⟨_, hl1⟩
            · exact absurd hss h
            · rcases hor2 with h | ⟨_, hl2⟩
              · exact absurd (hss.symm.trans hs) h
              · refine lex_trans l l' l'' ?_ (fun x y z hx hy hz => ih1 x y z (by have := sizes_mem l x hx; have := sizes_mem l' y hy; have := sizes_mem l'' z hz; omega) (goods_mem hga.2.2 hx) (goods_mem hgb.2.2 hy) (goods_mem hgc.2.2 hz)) (fun x z hx hz hgt he => ?_) hl1 hl2
                · intro t ht
                  simp only [List.mem_append] at ht
                  rcases ht with (ht | ht) | ht
                  · exact goods_mem hga.2.2 ht
                  · exact goods_mem hgb.2.2 ht
                  · exact goods_mem hgc.2.2 ht
                · subst he
                  rw [gt_irrefl (goods_mem hga.2.2 hx)] at hgt
                  cases hgt
          · exact .inl hs
/-- terms without variables -/
def Tm.ground (t : Tm) : Prop := ∀ v, occT v t = false
theorem ground_mem {s : Int} {l : List Tm} (h : (Tm.app s l).ground) {t : Tm} (ht : t ∈ l) : t.ground := by
  intro v
  have := h v
  rw [occ_app] at this
  exact Bool.eq_false_iff.2 (fun e => by rw [List.any_eq_true.2 ⟨t, ht, e⟩] at this; cases this)
theorem lex_total {g : Tm → Tm → Bool} : ∀ (l m : List Tm), l.length = m.length → (∀ t, t ∈ l ++ m → t.good) → (∀ x y, x ∈ l → y ∈ m → x ≠ y → g x y = true ∨ g y x = true) → l ≠ m → lexF g l m = true ∨ lexF g m l = true
  | [], [], _, _, _, h => absurd rfl h
  | [], _ :: _, h, _, _, _ => by simp at h
  | _ :: _, [], h, _, _, _ => by simp at h
  | x :: l, y :: m, hl, hg, ht, hne => by
    have gx := hg x (by simp)
    have gy := hg y (by simp)
    rw [lexF, lexF]
    by_cases e : x = y
    · subst e
      rw [if_pos (same_refl x), if_pos (same_refl x)]
      refine lex_total l m (by simpa using hl) (fun t h => hg t (by simp at h ⊢; rcases h with h | h <;> simp [h])) (fun a b ha hb => ht a b (by simp [ha]) (by simp [hb])) (fun e => hne (by rw [e]))
    · rw [if_neg (fun h => e ((same_iff gx gy).1 h)), if_neg (fun h => e ((same_iff gy gx).1 h).symm)]
      exact ht x y (by simp) (by simp) e
theorem gt_total {r : Int → Int} (hr : RankInj r) : ∀ (n : Nat) (a b : Tm), a.size + b.size ≤ n → a.good → b.good → a.ground → b.ground → a ≠ b → gt r a b = true ∨ gt r b a = true
  | 0, a, b, hn, _, _, _, _, _ => by have := Tm.size_pos a; have := Tm.size_pos b; omega
  | n + 1, a, b, hn, ha, hb, ga, gb, hne => by
    cases a with
    | var c => have := ga c; rw [occ_var] at this; simp at this
    | app s l =>
      cases b with
      | var c => have := gb c; rw [occ_var] at this; simp at this
      | app s' l' =>
        have e1 := Tm.size.eq_2 s l
        have e2 := Tm.size.eq_2 s' l'
        have hga := ha
        have hgb := hb
        rw [Tm.good] at hga hgb
        by_cases hA : ∃ t, t ∈ l ∧ (t = .app s' l' ∨ gt r t (.app s' l') = true)
        · obtain ⟨t, ht, h⟩ := hA
          exact .inl (gt_part ha hb ht h)
        · by_cases hB : ∃ t, t ∈ l' ∧ (t = .app s l ∨ gt r t (.app s l) = true)
          · obtain ⟨t, ht, h⟩ := hB
            exact .inr (gt_part hb ha ht h)
          · have h1 : ∀ u, u ∈ l' → gt r (.app s l) u = true := fun u hu => by
              rcases gt_total hr n (.app s l) u (by have := sizes_mem l' u hu; omega) ha (goods_mem hgb.2.2 hu) ga (ground_mem gb hu) (fun e => hB ⟨u, hu, .inl e.symm⟩) with h | h
              · exact h
              · exact absurd ⟨u, hu, .inr h⟩ hB
            have h2 : ∀ u, u ∈ l → gt r (.app s' l') u = true := fun u hu => by
              rcases gt_total hr n u (.app s' l') (by have := sizes_mem l u hu; omega) (goods_mem hga.2.2 hu) hb (ground_mem ga hu) gb (fun e => hA ⟨u, hu, .inl e⟩) with h | h
              · exact absurd ⟨u, hu, .inr h⟩ hA
              · exact h
            by_cases hs : s = s'
            · subst hs
              have hll : l.length = l'.length := by omega
              rcases lex_total (g := gt r) l l' hll (fun t ht => by
                  rcases List.mem_append.1 ht with ht | ht
                  · exact goods_mem hga.2.2 ht
                  · exact goods_mem hgb.2.2 ht) (fun x y hx hy hxy => gt_total hr n x y (by have := sizes_mem l x hx; have := sizes_mem l' y hy; omega) (goods_mem hga.2.2 hx) (goods_mem hgb.2.2 hy) (ground_mem ga hx) (ground_mem gb hy) hxy) (fun e => hne (by rw [e])) with h | h
              · exact .inl ((gt_iff ha hb).2 (.inr ⟨by omega, h1, .inr ⟨rfl, h⟩⟩))
              · exact .inr ((gt_iff hb ha).2 (.inr ⟨by omega, h2, .inr ⟨rfl, h⟩⟩))
            · by_cases hrr : r s > r s'
              · exact .inr ((gt_iff hb ha).2 (.inr ⟨by omega, h2, .inl (fun e => hs e.symm)⟩))
              · exact .inl ((gt_iff ha hb).2 (.inr ⟨hrr, h1, .inl hs⟩))
end Go.Proofs.YtaafeallcaiooaaGreat.Pr
/- the reference's Numbers is isReading; numbers cuts lists. -/
namespace Go.Proofs.YtaafeallcaiooaaGreat.Pr
open Go.RowKit Go.Proofs.YtaafeallcaiooaaGreatW.PrintWords Go.Proofs.YtaafeallcaiooaaGreatW.PrintLast Go.Proofs.YtaafeallcaiooaaGreatW.PrintMore
set_option linter.unusedVariables false
set_option linter.unusedSimpArgs false
theorem rd_at (xs : List Int) (j : Nat) (h : j < xs.length) : rd xs (j : Int) = xs[j] := by
  unfold rd
  rw [Int.toNat_natCast, List.getD_eq_getElem?_getD, List.getElem?_eq_getElem h]
  rfl
theorem rd_L1_at (xs : List (List Int)) (i : Nat) (h : i < xs.length) : rd_L1 xs (i : Int) = xs[i] := by
  unfold rd_L1
  rw [Int.toNat_natCast, List.getD_eq_getElem?_getD, List.getElem?_eq_getElem h]
  rfl
theorem num_l1 (xs : List (List Int)) (i : Nat) (h : i < xs.length) (R : Bool) (hr : Evt (fun k => numnahref08_Numbers.l0 k xs (wrap64 ((i : Int) + 1))) R) : ∀ (n j : Nat), xs[i].length ≤ j + n → xs[i].length ≤ 1000 →
    Evt (fun k => numnahref08_Numbers.l1 k xs (i : Int) (j : Int)) (!(xs[i].drop j).any (fun n => !withinB n 1 2) && R)
  | 0, j, hj, hl => by
    rw [List.drop_of_length_le (by omega)]
    refine Evt.step (g' := fun k => numnahref08_Numbers.l0 k xs (wrap64 ((i : Int) + 1))) (fun k => ?_) hr
    rw [numnahref08_Numbers.l1, if_pos (by omega), if_pos (by omega), rd_L1_at xs i h, if_neg (by omega)]
  | n + 1, j, hj, hl => by
    by_cases hlt : j < xs[i].length
    · rw [List.drop_eq_getElem_cons hlt, List.any_cons]
      have hw : wrap64 ((j : Int) + 1) = ((j + 1 : Nat) : Int) := (wr (by omega) (by omega)).trans (by omega)
      by_cases h1 : xs[i][j] < 1
      · have hw1 : withinB xs[i][j] 1 2 = false := by unfold withinB; rw [decide_eq_false (by omega), Bool.false_and]
        rw [hw1]
        refine Evt.now fun k => ?_
        rw [numnahref08_Numbers.l1, if_pos (by omega), if_pos (by omega), rd_L1_at xs i h, if_pos (by omega), if_pos (by omega), rd_at _ j hlt, if_pos h1]
        rfl
      · by_cases h2 : xs[i][j] > 2
        · have hw1 : withinB xs[i][j] 1 2 = false := by unfold withinB; rw [decide_eq_false (show ¬ xs[i][j] ≤ 2 by omega), Bool.and_false]
          rw [hw1]
          refine Evt.now fun k => ?_
          rw [numnahref08_Numbers.l1, if_pos (by omega), if_pos (by omega), rd_L1_at xs i h, if_pos (by omega), if_pos (by omega), rd_at _ j hlt, if_neg h1, if_pos h2]
          rfl
        · have hw1 : withinB xs[i][j] 1 2 = true := by unfold withinB; rw [decide_eq_true (show xs[i][j] ≥ 1 by omega), decide_eq_true (show xs[i][j] ≤ 2 by omega)]; rfl
          rw [hw1, Bool.not_true, Bool.false_or]
          refine Evt.step (g' := fun k => numnahref08_Numbers.l1 k xs (i : Int) ((j + 1 : Nat) : Int)) (fun k => ?_) (num_l1 xs i h R hr n (j + 1) (by omega) hl)
          rw [numnahref08_Numbers.l1, if_pos (by omega), if_pos (by omega), rd_L1_at xs i h, if_pos (by omega), if_pos (by omega), rd_at _ j hlt, if_neg h1, if_neg h2, hw]
    · rw [List.drop_of_length_le (by omega)]
      refine Evt.step (g' := fun k => numnahref08_Numbers.l0 k xs (wrap64 ((i : Int) + 1))) (fun k => ?_) hr
      rw [numnahref08_Numbers.l1, if_pos (by omega), if_pos (by omega), rd_L1_at xs i h, if_neg (by omega)]
theorem prt_i (i : Nat) (h : i < 6) : prt (97 + (i : Int)) = nParts (97 + (i : Int)) := prt_sym (by omega)
theorem num_l0 (xs : List (List Int)) (hl : xs.length ≤ 1000) (hr : ∀ x, x ∈ xs → x.length ≤ 1000) : ∀ (n i : Nat), i + n = 6 → i ≤ xs.length →
    Evt (fun k => numnahref08_Numbers.l0 k xs (i : Int)) (decide (xs.length = 6) && isRdF i ((xs.take 6).drop i))
  | 0, i, hi, hx => by
    rw [List.drop_of_length_le (by rw [List.length_take]; omega), isRdF, Bool.and_true]
    refine Evt.step (g' := fun k => numnahref08_Numbers.j1 k xs (i : Int) false) (fun k => ?_) (Evt.now fun k => ?_)
    · rw [numnahref08_Numbers.l0, show decide ((i : Int) < 6) = false from decide_eq_false (by omega)]
      split <;> rfl
    · rw [numnahref08_Numbers.j1, if_neg (by simp)]
      congr 1
      rw [Bool.eq_iff_iff]
      simp
      omega
  | n + 1, i, hi, hx => by
    have h6 : i < 6 := by omega
    by_cases hlt : i < xs.length
    · have hw : wrap64 ((i : Int) + 1) = ((i + 1 : Nat) : Int) := (wr (by omega) (by omega)).trans (by omega)
      have ih := num_l0 xs hl hr n (i + 1) (by omega) (by omega)
      rw [← hw] at ih
      have hrow := hr xs[i] (List.getElem_mem hlt)
      have hit : i < (xs.take 6).length := by rw [List.length_take]; omega
      rw [List.drop_eq_getElem_cons hit, List.getElem_take, isRdF]
      have hw2 : (wrap64 (97 + (i : Int))) % 256 = 97 + (i : Int) := by
        have : wrap64 (97 + (i : Int)) = 97 + (i : Int) := wr (by omega) (by omega)
        rw [this]
        omega
      have hnp : nParts (97 + (i : Int)) = (i : Int) / 2 := by unfold nParts; omega
      have hw3 : wrap64 (1 + nParts (97 + (i : Int))) = 1 + nParts (97 + (i : Int)) := wr (by omega) (by omega)
      refine Evt.step (g' := fun k => numnahref08_Numbers.j1 k xs (i : Int) true) (fun k => ?_) ?_
      · rw [numnahref08_Numbers.l0, if_pos (by omega), show decide ((i : Int) < 6) = true from decide_eq_true (by omega)]
      refine Evt.step (g' := fun k => (numnahref08_Parts.f k (97 + (i : Int))).bind fun t112 => (if ((rd_L1 xs (i : Int)).length : Int) = (wrap64 (1 + t112)) then (if 0 < ((rd_L1 xs (i : Int)).length : Int) then (if (rd (rd_L1 xs (i : Int)) 0) < 0 then (numnahref08_Numbers.j2 k xs (i : Int) true) else (numnahref08_Numbers.j2 k xs (i : Int) (decide ((rd (rd_L1 xs (i : Int)) 0) > 2)))) else (none)) else (numnahref08_Numbers.j2 k xs (i : Int) true))) (fun k => ?_) ?_
      · rw [numnahref08_Numbers.j1, if_pos rfl, if_pos (by omega), if_pos (by omega), hw2]
      refine Evt.bind (partsE _) ?_
      rw [prt_i i h6, hw3, rd_L1_at xs i hlt]
      have hF : Evt (fun k => numnahref08_Numbers.j2 k xs (i : Int) true) false := Evt.now fun k => by rw [numnahref08_Numbers.j2, if_pos rfl]
      unfold rowOk
      by_cases hc : (xs[i].length : Int) = 1 + nParts (97 + (i : Int))
      · rw [decide_eq_true hc, Bool.true_and]
        refine Evt.pos hc (Evt.pos (by omega) ?_)
        have h0 : 0 < xs[i].length := by omega
        have hr0 : rd xs[i] 0 = xs[i][0] := rd_at xs[i] 0 h0
        have hg0 : xs[i].getD 0 0 = xs[i][0] := by rw [List.getD_eq_getElem?_getD, List.getElem?_eq_getElem h0]; rfl
        rw [hr0, hg0]
        by_cases ha : xs[i][0] < 0
        · have : withinB xs[i][0] 0 2 = false := by unfold withinB; rw [decide_eq_false (by omega), Bool.false_and]
          rw [this, Bool.false_and, Bool.false_and, Bool.and_false]
          exact Evt.pos ha hF
        · refine Evt.neg ha ?_
          by_cases hb : xs[i][0] > 2
          · have : withinB xs[i][0] 0 2 = false := by unfold withinB; rw [decide_eq_false (show ¬ xs[i][0] ≤ 2 by omega), Bool.and_false]
            rw [this, Bool.false_and, Bool.false_and, Bool.and_false, decide_eq_true hb]
            exact hF
          · have : withinB xs[i][0] 0 2 = true := by unfold withinB; rw [decide_eq_true (show xs[i][0] ≥ 0 by omega), decide_eq_true (show xs[i][0] ≤ 2 by omega)]; rfl
            rw [this, Bool.true_and, decide_eq_false hb]
            have h1 := num_l1 xs i hlt _ ih (xs[i].length) 1 (by omega) hrow
            refine Evt.step (g' := fun k => numnahref08_Numbers.l1 k xs (i : Int) ((1 : Nat) : Int)) (fun k => ?_) (h1.val ?_)
            · rw [numnahref08_Numbers.j2, if_neg (by simp)]; rfl
            · cases decide (xs.length = 6) <;> simp
      · rw [decide_eq_false hc, Bool.false_and, Bool.false_and, Bool.and_false]
        exact Evt.neg hc hF
    · rw [decide_eq_false (show ¬ xs.length = 6 by omega), Bool.false_and]
      refine Evt.step (g' := fun k => numnahref08_Numbers.j1 k xs (i : Int) false) (fun k => ?_) (Evt.now fun k => ?_)
      · rw [numnahref08_Numbers.l0, if_neg (by omega)]
      · rw [numnahref08_Numbers.j1, if_neg (by simp)]
        congr 1
        rw [beq_eq_false_iff_ne]
        omega
theorem numbersRE (xs : List (List Int)) (hl : xs.length ≤ 1000) (hr : ∀ x, x ∈ xs → x.length ≤ 1000) : Evt (fun k => numnahref08_Numbers.f k xs) (isRd xs) := by
  refine (num_l0 xs hl hr 6 0 rfl (by omega)).val ?_
  unfold isRd
  by_cases h : xs.length = 6
  · rw [List.drop_zero, List.take_of_length_le (by omega)]
  · rw [decide_eq_false h, Bool.false_and, Bool.false_and]
/-! ### numbers -/
def cut74 (l : List (List Int)) : List (List Int) := (l.take 7).map (fun r => r.take 4)
theorem numbersL (l : List (List Int)) : ∀ (n i : Nat), i + n = 7 → i ≤ l.length → Evt (fun k => numnahlaw08_numbers.l0 k l (((l.take i).map (fun r => r.take 4))) (i : Int)) (cut74 l)
  | 0, i, hi, hx => by
    refine Evt.now fun k => ?_
    rw [numnahlaw08_numbers.l0, if_neg (show ¬ (i : Int) < 7 by omega), show i = 7 by omega]
    split <;> rfl
  | n + 1, i, hi, hx => by
    by_cases hlt : i < l.length
    · have hw : wrap64 ((i : Int) + 1) = ((i + 1 : Nat) : Int) := (wr (by omega) (by omega)).trans (by omega)
      refine Evt.step (g' := fun k => numnahlaw08_numbers.l0 k l (((l.take (i + 1)).map (fun r => r.take 4))) ((i + 1 : Nat) : Int)) (fun k => ?_) (numbersL l n (i + 1) (by omega) (by omega))
      have hm : 0 ≤ mn (l[i].length : Int) 4 ∧ mn (l[i].length : Int) 4 ≤ (l[i].length : Int) ∧ mn (l[i].length : Int) 4 ≤ 4 := by unfold mn; split <;> omega
      have ht : l[i].take ((mn (l[i].length : Int) 4).toNat) = l[i].take 4 := by
        unfold mn
        by_cases h4 : (4 : Int) < (l[i].length : Int)
        · rw [if_pos h4]; rfl
        · rw [if_neg h4, Int.toNat_natCast, List.take_of_length_le (Nat.le_refl _), List.take_of_length_le (by omega)]
      rw [numnahlaw08_numbers.l0, if_pos (by omega), if_pos (by omega), if_pos (by omega), rd_L1_at l i hlt, if_pos hm.1, if_pos hm.2.1, if_pos (by rw [List.length_take, List.length_nil]; omega), if_pos (by rw [List.length_map, List.length_take]; omega), ht, hw, List.nil_append, List.take_succ_eq_append_getElem hlt, List.map_append]
      rfl
    · refine Evt.now fun k => ?_
      rw [numnahlaw08_numbers.l0, if_neg (by omega), cut74, List.take_of_length_le (show l.length ≤ i by omega), List.take_of_length_le (show l.length ≤ 7 by omega)]
theorem numbersE (l : List (List Int)) : Evt (fun k => numnahlaw08_numbers.f k l) (cut74 l) := by
  exact numbersL l 7 0 rfl (by omega)
theorem cut74_len (l : List (List Int)) : (cut74 l).length ≤ 7 ∧ ∀ x, x ∈ cut74 l → x.length ≤ 4 := by
  unfold cut74
  refine ⟨by rw [List.length_map, List.length_take]; omega, fun x hx => ?_⟩
  obtain ⟨y, _, rfl⟩ := List.mem_map.1 hx
  rw [List.length_take]
  omega
end Go.Proofs.YtaafeallcaiooaaGreat.Pr
/- the path order is stable: under substitutions, and in larger terms. -/
namespace Go.Proofs.YtaafeallcaiooaaGreat.Pr
open Go.RowKit
set_option linter.unusedVariables false
set_option linter.unusedSimpArgs false
theorem sub_app (σ : Sub) (s : Int) (l : List Tm) : (Tm.app s l).sub σ = .app s (l.map (Tm.sub σ)) := by rw [Tm.sub, subL_map]
theorem lex_map {r : Int → Int} {f : Tm → Tm} : ∀ (l m : List Tm), (∀ t, t ∈ l ++ m → t.good ∧ (f t).good) → (∀ x y, x ∈ l → y ∈ m → gt r x y = true → gt r (f x) (f y) = true) → lexF (gt r) l m = true → lexF (gt r) (l.map f) (m.map f) = true
  | [], _, _, _, h => by rw [lexF] at h; cases h; (intros; simp_all)
  | _ :: _, [], _, _, h => by rw [lexF] at h; cases h; (intros; simp_all)
  | x :: l, y :: m, hg, ht, h => by
    have gx := hg x (by simp)
    have gy := hg y (by simp)
    rw [List.map_cons, List.map_cons, lexF]
    rw [lexF] at h
    by_cases e : x = y
    · subst e
      rw [if_pos (same_refl x)] at h
      rw [if_pos (same_refl _)]
      exact lex_map l m (fun t h => hg t (by simp at h ⊢; rcases h with h | h <;> simp [h])) (fun a b ha hb => ht a b (by simp [ha]) (by simp [hb])) h
    · rw [if_neg (fun h => e ((same_iff gx.1 gy.1).1 h))] at h
      have h2 := ht x y (by simp) (by simp) h
      rw [if_neg (fun h3 => by
        have h4 := (same_iff gx.2 gy.2).1 h3
        rw [h4, gt_irrefl gy.2] at h2
        cases h2)]
      exact h2
theorem gt_subv {r : Int → Int} {σ : Sub} (hσ : ∀ c u, σ c = some u → u.good) (v : Int) (hv : (Tm.var v).good) : ∀ (n : Nat) (s : Int) (l : List Tm), (Tm.app s l).size ≤ n → (Tm.app s l).good → occT v (.app s l) = true → gt r ((Tm.app s l).sub σ) ((Tm.var v).sub σ) = true
  | 0, s, l, hn, _, _ => by have := Tm.size_pos (.app s l); omega
  | n + 1, s, l, hn, hg, h => by
    have e1 := Tm.size.eq_2 s l
    have hga := hg
    rw [Tm.good] at hga
    rw [occ_app] at h
    obtain ⟨t, ht, h2⟩ := List.any_eq_true.1 h
    have h3 := sub_good σ hσ _ hg
    rw [sub_app] at h3 ⊢
    refine gt_part h3 (sub_good σ hσ _ hv) (List.mem_map.2 ⟨t, ht, rfl⟩) ?_
    cases t with
    | var c =>
      rw [occ_var, decide_eq_true_iff] at h2
      subst h2
      exact .inl rfl
    | app s' l' => exact .inr (gt_subv hσ v hv n s' l' (by have := sizes_mem l _ ht; omega) (goods_mem hga.2.2 ht) h2)
theorem gt_stab {r : Int → Int} {σ : Sub} (hσ : ∀ c u, σ c = some u → u.good) : ∀ (n : Nat) (a b : Tm), a.size + b.size ≤ n → a.good → b.good → gt r a b = true → gt r (a.sub σ) (b.sub σ) = true
  | 0, a, b, hn, _, _, _ => by have := Tm.size_pos a; have := Tm.size_pos b; omega
  | n + 1, a, b, hn, ha, hb, h => by
    obtain ⟨s, l, rfl⟩ := gt_isApp h
    have e1 := Tm.size.eq_2 s l
    have hga := ha
    rw [Tm.good] at hga
    cases b with
    | var v =>
      rw [gt_v] at h
      exact gt_subv hσ v hb _ s l (Int.self_le_toNat _) ha h
    | app s' l' =>
      have e2 := Tm.size.eq_2 s' l'
      have hgb := hb
      rw [Tm.good] at hgb
      have h3 := sub_good σ hσ _ ha
      have h4 := sub_good σ hσ _ hb
      rcases (gt_iff ha hb).1 h with ⟨t, ht, h2⟩ | ⟨h1, h2, h5⟩
      · rw [sub_app] at h3 ⊢
        refine gt_part h3 h4 (List.mem_map.2 ⟨t, ht, rfl⟩) ?_
        rcases h2 with rfl | h2
        · exact .inl rfl
        · exact .inr (gt_stab hσ n t _ (by have := sizes_mem l t ht; omega) (goods_mem hga.2.2 ht) hb h2)
      · rw [sub_app] at h3 h4
        have hS := fun u hu => gt_stab (r := r) hσ n (.app s l) u (by have := sizes_mem l' u hu; omega) ha (goods_mem hgb.2.2 hu) (h2 u hu)
        rw [sub_app, sub_app]
        refine (gt_iff h3 h4).2 (.inr ⟨h1, fun u hu => ?_, ?_⟩)
        · obtain ⟨w, hw, rfl⟩ := List.mem_map.1 hu
          have := hS w hw
          rwa [sub_app] at this
        · rcases h5 with h5 | ⟨h5, h6⟩
          · exact .inl h5
          · refine .inr ⟨h5, lex_map l l' (fun t ht => ?_) (fun x y hx hy => gt_stab hσ n x y (by have := sizes_mem l x hx; have := sizes_mem l' y hy; omega) (goods_mem hga.2.2 hx) (goods_mem hgb.2.2 hy)) h6⟩
            have hg : t.good := by
              rcases List.mem_append.1 ht with ht | ht
              · exact goods_mem hga.2.2 ht
              · exact goods_mem hgb.2.2 ht
            exact ⟨hg, sub_good σ hσ _ hg⟩
theorem lex_ctx {g : Tm → Tm → Bool} {x y : Tm} {post : List Tm} (hne : sameB x y = false) : ∀ pre : List Tm, lexF g (pre ++ x :: post) (pre ++ y :: post) = g x y
  | [] => by rw [List.nil_append, List.nil_append, lexF, if_neg (by rw [hne]; simp)]
  | t :: pre => by rw [List.cons_append, List.cons_append, lexF, if_pos (same_refl t)]; exact lex_ctx hne pre
end Go.Proofs.YtaafeallcaiooaaGreat.Pr
/- Apply on texts of terms; terms without variables; Greater on texts. -/
/- awake holds. -/
namespace Go.Proofs.YtaafeallcaiooaaGreat.Pr
open Go.RowKit Go.Proofs.YtaafeallcaiooaaGreatW.PrintWords Go.Proofs.YtaafeallcaiooaaGreatW.PrintLast Go.Proofs.YtaafeallcaiooaaGreatW.PrintMore
theorem t1 : nextsT [⟨⟨#[101, 40, 120, 44, 121, 41]⟩, ⟨#[101, 40, 121, 44, 120, 41]⟩⟩] ⟨#[101, 40, 97, 44, 98, 41]⟩ = (0, [⟨#[101, 40, 98, 44, 97, 41]⟩]) := by kernel_rfl
theorem t2 : (valT [[0], [1], [1, 1], [0, 1], [0, 1, 1], [0, 1, 2]] ⟨#[102, 40, 99, 40, 98, 41, 44, 120, 41]⟩).1 = 0 := by kernel_rfl
theorem t3 : orientT [⟨⟨#[99, 40, 100, 40, 120, 41, 41]⟩, ⟨#[100, 40, 99, 40, 120, 41, 41]⟩⟩] = (0, ⟨#[97, 98, 99, 100, 101, 102]⟩) := by kernel_rfl
theorem awake_true : numnahlaw08_awake.f 20 = some true := by kernel_rfl
end Go.Proofs.YtaafeallcaiooaaGreat.Pr
/- Greater. -/
namespace Go.Proofs.YtaafeallcaiooaaGreat.Pr
open Go.RowKit Go.Maps Go.Proofs.YtaafeallcaiooaaGreatW.PrintWords Go.Proofs.YtaafeallcaiooaaGreatW.PrintLast Go.Proofs.YtaafeallcaiooaaGreatW.PrintMore
set_option linter.unusedVariables false
set_option linter.unusedSimpArgs false
end Go.Proofs.YtaafeallcaiooaaGreat.Pr
namespace Go.Proofs.YtaafeallcaiooaaGreat.Pr
open Go.RowKit Go.Proofs.YtaafeallcaiooaaGreatW.PrintWords Go.Proofs.YtaafeallcaiooaaGreatW.PrintLast Go.Proofs.YtaafeallcaiooaaGreatW.PrintMore
set_option linter.unusedVariables false
set_option linter.unusedSimpArgs false
theorem applyL_app (s0 s1 s2 a b : List UInt8) : applyL s0 s1 s2 (a ++ b) = applyL s0 s1 s2 a ++ applyL s0 s1 s2 b := by unfold applyL; rw [List.flatMap_append]
theorem applyL_cons (s0 s1 s2 : List UInt8) (c : UInt8) (b : List UInt8) : applyL s0 s1 s2 (c :: b) = applyC s0 s1 s2 c ++ applyL s0 s1 s2 b := by unfold applyL; rw [List.flatMap_cons]
theorem applyC_no (s0 s1 s2 : List UInt8) {c : UInt8} (h : c.toNat < 120 ∨ 122 < c.toNat) : applyC s0 s1 s2 c = [c] := by
  unfold applyC
  rw [if_neg (fun e => by subst e; revert h; decide), if_neg (fun e => by subst e; revert h; decide), if_neg (fun e => by subst e; revert h; decide)]
theorem applyM (s0 s1 s2 : List UInt8) (f : Tm → Tm) : ∀ (l : List Tm) (i : Nat), (∀ t, t ∈ l → applyL s0 s1 s2 t.tx = (f t).tx) → applyL s0 s1 s2 (txM i l) = txM i (l.map f)
  | [], i, _ => rfl
  | t :: l, i, h => by
    rw [txM, List.map_cons, txM, applyL_cons, applyL_app, h t (by simp), applyM s0 s1 s2 f l (i + 1) (fun u hu => h u (by simp [hu])), applyC_no s0 s1 s2 (by
      have := mark_nat i
      unfold mark at this ⊢
      split
      · left; decide
      · left; decide)]
    rfl
/-! ### terms without variables -/
/-! ### Greater on texts -/
theorem awake_mono : ∀ n, numnahlaw08_awake.f (20 + n) = some true
  | 0 => awake_true
  | n + 1 => numnahlaw08_awake.mono (20 + n) true (awake_mono n)
theorem awakeE : Evt (fun k => numnahlaw08_awake.f k) true := ⟨20, fun k hk => by
  have := awake_mono (k - 20)
  rwa [show 20 + (k - 20) = k by omega] at this⟩
end Go.Proofs.YtaafeallcaiooaaGreat.Pr
/- short cuts a string; awake holds. -/
namespace Go.Proofs.YtaafeallcaiooaaGreat.Pr
open Go.RowKit Go.Proofs.YtaafeallcaiooaaGreatW.PrintWords Go.Proofs.YtaafeallcaiooaaGreatW.PrintLast Go.Proofs.YtaafeallcaiooaaGreatW.PrintMore
set_option linter.unusedVariables false
set_option linter.unusedSimpArgs false
theorem short_ev (s : ByteArray) : ∃ t : ByteArray, numnahlaw08_short.f s = some t ∧ t.size ≤ 400 := by
  unfold numnahlaw08_short.f
  have h : 0 ≤ mn (s.size : Int) 400 ∧ mn (s.size : Int) 400 ≤ (s.size : Int) ∧ mn (s.size : Int) 400 ≤ 400 := by unfold mn; split <;> omega
  rw [if_pos h.1, if_pos h.2.1]
  refine ⟨_, rfl, ?_⟩
  rw [ByteArray.size_extract]
  omega
theorem awakeF : Evt (fun k => (numnahlaw08_awake.f k).bind fun t => some t) true := Evt.bind awakeE (Evt.all fun _ => rfl)
end Go.Proofs.YtaafeallcaiooaaGreat.Pr
namespace Go.Proofs.YtaafeallcaiooaaGreat.Pr
open Go.RowKit Go.Proofs.YtaafeallcaiooaaGreatW.PrintWords Go.Proofs.YtaafeallcaiooaaGreatW.PrintLast Go.Proofs.YtaafeallcaiooaaGreatW.PrintMore
set_option linter.unusedVariables false
set_option linter.unusedSimpArgs false
theorem values_all (l : List (List Int)) (a : ByteArray) : Evt (fun k => numnahlaw08_RulesValues.f k l a) true := by
  obtain ⟨t, ht, hts⟩ := short_ev a
  have hTt := termRE t (by omega)
  have hsz := sizeE' t (by omega)
  have hN := numbersRE (cut74 l) (by have := (cut74_len l).1; omega) (fun x hx => by have := (cut74_len l).2 x hx; omega)
  obtain ⟨R, hR⟩ : ∃ R, R = cut74 l := ⟨_, rfl⟩
  have hE := numbersE l
  rw [← hR] at hN hE
  have hV : rules_Value.f R t = some ((valT R t).2 0, (valT R t).2 1, (valT R t).2 2, (valT R t).2 3, (valT R t).1) := rfl
  unfold numnahlaw08_RulesValues.f
  refine Evt.bind hE ?_
  simp only [ht, hV, Option.bind_some]
  refine Evt.bind hN ?_
  cases hrd : isRd R with
  | false =>
    have ev : valT R t = (2, fun _ => 0) := by unfold valT; rw [hrd]; rfl
    rw [ev]
    exact Evt.neg (by simp) (Evt.pos rfl (Evt.pos rfl awakeF))
  | true =>
    refine Evt.pos rfl (Evt.bind hTt ?_)
    cases hRt : readT t with
    | none =>
      have ev : valT R t = (4, fun _ => 0) := by unfold valT; rw [hrd, if_pos rfl, hRt]
      rw [ev]
      exact Evt.neg (by simp) (Evt.pos rfl (Evt.pos rfl awakeF))
    | some T =>
      have hT := readT_iff.1 hRt
      have hcn : (cnt t.data.toList : Int) = T.size := by
        rw [hT.2.2]
        have e : T.text.data.toList = T.tx := B8_list _
        rw [e]
        exact cnt_tx T hT.1
      rw [hcn] at hsz
      refine Evt.pos rfl (Evt.bind hsz ?_)
      by_cases h12 : T.size ≤ 12
      · have ev : valT R t = (0, ofT R T) := by unfold valT; rw [hrd, if_pos rfl, hRt]; exact if_pos h12
        have er : numnahref08_Value.f R t = some (ofT R T 0, ofT R T 1, ofT R T 2, ofT R T 3) := by
          unfold numnahref08_Value.f
          rw [if_pos hrd, hRt]
          rfl
        rw [ev]
        refine Evt.neg (by omega) ?_
        simp only [er, Option.bind_some]
        exact Evt.pos (by simp) (Evt.pos (by trivial) awakeF)
      · have ev : valT R t = (5, fun _ => 0) := by unfold valT; rw [hrd, if_pos rfl, hRt]; exact if_neg h12
        rw [ev]
        exact Evt.pos (by omega) (Evt.pos rfl (Evt.pos rfl awakeF))
end Go.Proofs.YtaafeallcaiooaaGreat.Pr
namespace Go.Proofs.YtaafeallcaiooaaGreat.Pure
open Go.RowKit Go.Proofs.YtaafeallcaiooaaGreat.Pr Go.Proofs.YtaafeallcaiooaaGreatW.PrintWords Go.Proofs.YtaafeallcaiooaaGreatW.PrintLast
theorem RulesValues : numnahlaw08_RulesValues.Pure := by
  intro l a _ _ _ _
  exact (values_all l a).ex
end Go.Proofs.YtaafeallcaiooaaGreat.Pure
