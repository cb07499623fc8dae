/- ParseBack, plainly: unlearning the learning parse gives the word back, each factor is one letter longer than the one that it names, and all but the last one are different. -/
import Derived.Test.YtpeeflkodpnbpaaDoorPrB11
import Derived.Test.YtpeeflkodpnbpaaDoorHAw
import Derived.Test.YtpeeflkodpnbpaaDoorHTame
namespace Go.Proofs.YtpeeflkodpnbpaaDoor.Pure
open Go.RowKit Go.Proofs.YtpeeflkodpnbpaaDoor.Pr Go.Proofs.YtpeeflkodpnbpaaDoorW.PrintWords Go.Proofs.YtpeeflkodpnbpaaDoorW.PrintLast
set_option linter.unusedVariables false
set_option linter.unusedSimpArgs false

theorem learnF_len (s : ByteArray) : ∀ q i known out, (learnF s q i known out).length ≤ out.length + q
  | 0, i, known, out => by simp [learnF]
  | q + 1, i, known, out => by
    rw [learnF]
    split
    · refine Nat.le_trans (learnF_len s q _ _ _) ?_
      rw [List.length_append, List.length_singleton]; omega
    · omega
def bl (s : ByteArray) : List UInt8 := s.data.toList
theorem bl_inj {a b : ByteArray} (h : bl a = bl b) : a = b := Go.WideShapes.bytes_inj h
theorem bl_len (s : ByteArray) : (bl s).length = s.size := Array.length_toList
theorem bl_append (a b : ByteArray) : bl (a ++ b) = bl a ++ bl b := by unfold bl; rw [ByteArray.data_append, Array.toList_append]
theorem bl_extract (s : ByteArray) (i j : Nat) : bl (s.extract i j) = ((bl s).drop i).take (j - i) := by
  unfold bl; rw [ByteArray.data_extract, Array.toList_extract, List.extract_eq_take_drop]
theorem ext_cat (s : ByteArray) (i j k : Nat) (h1 : i ≤ j) (h2 : j ≤ k) : s.extract i j ++ s.extract j k = s.extract i k := by
  apply bl_inj
  rw [bl_append, bl_extract, bl_extract, bl_extract, show k - i = (j - i) + (k - j) by omega, List.take_add, List.drop_drop, show i + (j - i) = j by omega]
theorem ext_l (a b : ByteArray) (j : Nat) (h : j + 1 ≤ a.size) : (a ++ b).extract j (j + 1) = a.extract j (j + 1) := by
  apply bl_inj
  have := bl_len a
  rw [bl_extract, bl_extract, bl_append, List.drop_append_of_le_length (by omega), List.take_append_of_le_length (by rw [List.length_drop]; omega)]
theorem ext_r (a b : ByteArray) (h : b.size = 1) : (a ++ b).extract a.size (a.size + 1) = b := by
  apply bl_inj
  rw [bl_extract, bl_append, ← bl_len a, List.drop_left, List.take_of_length_le (by rw [bl_len]; omega)]
theorem get_app (s t : ByteArray) (i : Nat) : (s ++ t).get! i = if i < s.size then s.get! i else t.get! (i - s.size) := by
  show ((s ++ t).data)[i]! = if i < s.size then s.data[i]! else t.data[i - s.size]!
  rw [ByteArray.data_append, getElem!_def, getElem!_def, getElem!_def, Array.getElem?_append]
  have : s.data.size = s.size := rfl
  rw [this]
  by_cases c : i < s.size <;> simp only [c, if_true, if_false]
theorem bt_get (s : ByteArray) (i : Nat) (h : i < s.size) : bt s (i : Int) = ((s.get! i).toNat : Int) := by
  unfold bt
  rw [dif_pos (by rw [Int.toNat_natCast]; exact h)]
  have e : (s[(i : Int).toNat]'(by rw [Int.toNat_natCast]; exact h)) = s.get! i := by
    show _ = s.data[i]!
    have h' : i < s.data.size := h
    rw [getElem!_pos s.data i h']
    simp only [Int.toNat_natCast]; rfl
  rw [e]
theorem ext_one (s : ByteArray) (i : Nat) (h : i < s.size) : bl (s.extract i (i + 1)) = [s.get! i] := by
  have h' : i < (bl s).length := by rw [bl_len]; exact h
  rw [bl_extract, List.drop_eq_getElem_cons h', show i + 1 - i = 1 by omega, List.take_succ_cons, List.take_zero]
  congr 1
  show (bl s)[i] = s.data[i]!
  have h2 : i < s.data.size := h
  rw [getElem!_pos s.data i h2]; rfl
theorem ext_get (s : ByteArray) (p : Nat) (h : p < s.size) : (s.extract p (p + 1)).get! 0 = s.get! p := by
  have e := ext_one s p h
  have hz : (s.extract p (p + 1)).size = 1 := by rw [ByteArray.size_extract]; omega
  have e2 := ext_one (s.extract p (p + 1)) 0 (by omega)
  have e3 : bl ((s.extract p (p + 1)).extract 0 (0 + 1)) = bl (s.extract p (p + 1)) := by
    rw [bl_extract, List.drop_zero, List.take_of_length_le (by rw [bl_len]; omega)]
  have e4 := e2.symm.trans (e3.trans e)
  exact (List.cons.inj e4).1
theorem one_eq (s t : ByteArray) (i j : Nat) (hi : i < s.size) (hj : j < t.size) (h : bt s (i : Int) = bt t (j : Int)) : s.extract i (i + 1) = t.extract j (j + 1) := by
  apply bl_inj
  rw [ext_one s i hi, ext_one t j hj]
  rw [bt_get s i hi, bt_get t j hj] at h
  congr 1
  apply UInt8.toNat_inj.1
  omega

/-! ### the factors -/
def posK (K : List ByteArray) (j : Nat) : Nat := ((K.take j).map ByteArray.size).sum
theorem posK_app (K : List ByteArray) (x : ByteArray) (j : Nat) (h : j ≤ K.length) : posK (K ++ [x]) j = posK K j := by
  unfold posK
  rw [List.take_append_of_le_length h]
theorem posK_succ (K : List ByteArray) (j : Nat) (x : ByteArray) (h : K[j]? = some x) : posK K (j + 1) = posK K j + x.size := by
  unfold posK
  rw [List.take_add_one, h]
  simp
structure OkJ (s : ByteArray) (K : List ByteArray) (l : List S63) (j L f : Nat) : Prop where
  L1 : 1 ≤ L
  fit : posK K j + L ≤ s.size
  kat : K[j]? = some (subAt s L (posK K j))
  lat : l[j]? = some ⟨(f : Int), (L : Int)⟩
  fle : f ≤ j
  fat : (emptyB :: K)[f]? = some (subAt s (L - 1) (posK K j))
  f0 : f = 0 → L = 1
  new : posK K j + L < s.size → ∀ k, k < j → K[k]? ≠ some (subAt s L (posK K j))
theorem OkJ.app {s : ByteArray} {K : List ByteArray} {l : List S63} {j L f : Nat} (h : OkJ s K l j L f) (hl : l.length = K.length) (hj : j < K.length) (x : ByteArray) (y : S63) : OkJ s (K ++ [x]) (l ++ [y]) j L f := by
  have e := posK_app K x j (by omega)
  refine ⟨h.L1, by rw [e]; exact h.fit, ?_, ?_, h.fle, ?_, h.f0, ?_⟩
  · rw [e, List.getElem?_append_left hj]; exact h.kat
  · rw [List.getElem?_append_left (by omega)]; exact h.lat
  · have := h.fle
    rw [e, ← List.cons_append, List.getElem?_append_left (by rw [List.length_cons]; omega)]; exact h.fat
  · rw [e]
    intro hn k hk
    rw [List.getElem?_append_left (by omega)]
    exact h.new hn k hk
theorem numK_get {t : ByteArray} : ∀ (l : List ByteArray) (m : Nat), t ∈ l → ∃ p, p < l.length ∧ numK t l m = ((m + p + 1 : Nat) : Int) ∧ l[p]? = some t
  | x :: l, m, h => by
    rw [numK]
    by_cases e : x = t
    · exact ⟨0, by simp, by rw [if_pos e], by simp [e]⟩
    · rcases List.mem_cons.1 h with h | h
      · exact absurd h.symm e
      · obtain ⟨p, hp, h1, h2⟩ := numK_get l (m + 1) h
        exact ⟨p + 1, by simpa using hp, by rw [if_neg e, h1]; congr 1; omega, by simpa using h2⟩
theorem extL_spec (s : ByteArray) (known : List ByteArray) (i : Nat) : ∀ q n, s.size ≤ i + n + q → (n = 1 ∨ subAt s (n - 1) i ∈ known) → (extL s known i q n = 1 ∨ subAt s (extL s known i q n - 1) i ∈ known) ∧ (i + extL s known i q n < s.size → subAt s (extL s known i q n) i ∉ known)
  | 0, n, hq, h => ⟨h, fun hh => by rw [extL] at hh; omega⟩
  | q + 1, n, hq, h => by
    rw [extL]
    split
    · rename_i hc
      exact extL_spec s known i q (n + 1) (by omega) (.inr (by rw [Nat.add_sub_cancel]; exact memB_iff.1 hc.2))
    · rename_i hc
      exact ⟨h, fun hh hm => hc ⟨hh, memB_iff.2 hm⟩⟩
theorem back_tr (s : ByteArray) : ∀ q i known out, i ≤ s.size → s.size ≤ i + q → out.length = known.length → posK known known.length = i → (∀ j, j < known.length → ∃ L f, OkJ s known out j L f) →
    ∃ K, (learnF s q i known out).length = K.length ∧ posK K K.length = s.size ∧ ∀ j, j < K.length → ∃ L f, OkJ s K (learnF s q i known out) j L f
  | 0, i, known, out, hi, hq, hl, hp, h => ⟨known, hl, by omega, h⟩
  | q + 1, i, known, out, hi, hq, hl, hp, h => by
    rw [learnF]
    split
    · rename_i hc
      have g1 := extL_ge s known i s.size 1
      have g2 := extL_le s known i s.size 1 (by omega)
      obtain ⟨g3, g4⟩ := extL_spec s known i s.size 1 (by omega) (.inl rfl)
      generalize extL s known i s.size 1 = L at *
      have hsz := subAt_size s L i g2
      have hk : (known ++ [subAt s L i])[known.length]? = some (subAt s L i) := by simp
      have e := posK_app known (subAt s L i) known.length (Nat.le_refl _)
      refine back_tr s q (i + L) _ _ g2 (by omega) (by rw [List.length_append, List.length_append, hl]; rfl) ?_ ?_
      · rw [List.length_append, List.length_singleton, posK_succ _ _ _ hk, e, hp, hsz]
      · intro j hj
        rw [List.length_append, List.length_singleton] at hj
        by_cases c : j < known.length
        · obtain ⟨L', f', h'⟩ := h j c
          exact ⟨L', f', h'.app hl c _ _⟩
        · obtain rfl : j = known.length := by omega
          have hnew : i + L < s.size → ∀ k, k < known.length → (known ++ [subAt s L i])[k]? ≠ some (subAt s L i) := by
            intro hlt k hk2 he
            rw [List.getElem?_append_left hk2] at he
            exact g4 hlt (List.mem_of_getElem? he)
          by_cases m : subAt s (L - 1) i ∈ known
          · obtain ⟨p, hp1, hp2, hp3⟩ := numK_get known 0 m
            refine ⟨L, p + 1, g1, by rw [e, hp]; exact g2, by rw [e, hp]; exact hk, ?_, by omega, ?_, by omega, by rw [e, hp]; exact hnew⟩
            · rw [← hl, List.getElem?_append_right (Nat.le_refl _), Nat.sub_self, hp2, Nat.zero_add]; rfl
            · rw [e, hp, List.getElem?_cons_succ, List.getElem?_append_left hp1]; exact hp3
          · have hL : L = 1 := g3.resolve_right m
            refine ⟨L, 0, g1, by rw [e, hp]; exact g2, by rw [e, hp]; exact hk, ?_, by omega, ?_, fun _ => hL, by rw [e, hp]; exact hnew⟩
            · rw [← hl, List.getElem?_append_right (Nat.le_refl _), Nat.sub_self, numK_mem m]; rfl
            · rw [e, hp, List.getElem?_cons_zero, hL]
              congr 1
              apply bl_inj
              unfold subAt
              rw [bl_extract]
              simp
              rfl
    · exact ⟨known, hl, by omega, h⟩

/-! ### the last letters of the factors -/
def lastS (s : ByteArray) (K : List ByteArray) : Nat → ByteArray
  | 0 => ⟨#[]⟩
  | j + 1 => lastS s K j ++ s.extract (posK K (j + 1) - 1) (posK K (j + 1))
theorem OkJ.next {s : ByteArray} {K : List ByteArray} {l : List S63} {j L f : Nat} (h : OkJ s K l j L f) : posK K (j + 1) = posK K j + L := by
  rw [posK_succ K j _ h.kat, subAt_size s L _ h.fit]
theorem OkJ.split {s : ByteArray} {K : List ByteArray} {l : List S63} {j L f : Nat} (h : OkJ s K l j L f) : subAt s (L - 1) (posK K j) ++ s.extract (posK K (j + 1) - 1) (posK K (j + 1)) = subAt s L (posK K j) := by
  have := h.L1
  rw [h.next]
  unfold subAt
  rw [show posK K j + (L - 1) = posK K j + L - 1 by omega, ext_cat s _ _ _ (by omega) (by omega)]
theorem one_size (s : ByteArray) (p : Nat) (h1 : 1 ≤ p) (h2 : p ≤ s.size) : (s.extract (p - 1) p).size = 1 := by
  rw [ByteArray.size_extract]; omega
theorem lastS_size {s : ByteArray} {K : List ByteArray} {l : List S63} (H : ∀ j, j < K.length → ∃ L f, OkJ s K l j L f) : ∀ j, j ≤ K.length → (lastS s K j).size = j
  | 0, _ => rfl
  | j + 1, h => by
    obtain ⟨L, f, o⟩ := H j (by omega)
    have h1 := o.next
    have h2 := o.fit
    have h3 := o.L1
    rw [lastS, ByteArray.size_append, lastS_size H j (by omega), one_size s _ (by omega) (by omega)]
theorem lastS_ext {s : ByteArray} {K : List ByteArray} {l : List S63} (H : ∀ j, j < K.length → ∃ L f, OkJ s K l j L f) : ∀ m, m ≤ K.length → ∀ j, j < m → (lastS s K m).extract j (j + 1) = s.extract (posK K (j + 1) - 1) (posK K (j + 1))
  | 0, _, j, h => by omega
  | m + 1, hm, j, h => by
    have hz := lastS_size H m (by omega)
    by_cases c : j < m
    · rw [lastS, ext_l _ _ _ (by omega)]
      exact lastS_ext H m (by omega) j c
    · obtain rfl : j = m := by omega
      obtain ⟨L, f, o⟩ := H j (by omega)
      have h1 := o.next
      have h2 := o.fit
      have h3 := o.L1
      have := ext_r (lastS s K j) (s.extract (posK K (j + 1) - 1) (posK K (j + 1))) (one_size s _ (by omega) (by omega))
      rw [hz] at this
      exact this
theorem lastS_ok {s : ByteArray} {K : List ByteArray} {l : List S63} (H : ∀ j, j < K.length → ∃ L f, OkJ s K l j L f) (hw : ∀ i, i < s.size → okAt s i) : ∀ m, m ≤ K.length → ∀ i, i < m → okAt (lastS s K m) i
  | 0, _, i, h => by omega
  | m + 1, hm, i, h => by
    have hz := lastS_size H m (by omega)
    unfold okAt
    rw [lastS, get_app, hz]
    by_cases c : i < m
    · rw [if_pos c]; exact lastS_ok H hw m (by omega) i c
    · rw [if_neg c]
      obtain rfl : i = m := by omega
      obtain ⟨L, f, o⟩ := H i (by omega)
      have h1 := o.next
      have h2 := o.fit
      have h3 := o.L1
      obtain ⟨p, hp⟩ : ∃ p, posK K (i + 1) = p + 1 := ⟨posK K (i + 1) - 1, by omega⟩
      rw [hp, Nat.add_sub_cancel, Nat.sub_self, ext_get s p (by omega)]
      exact hw p (by omega)
theorem rd_lat {l : List S63} {j : Nat} {x : S63} (h : l[j]? = some x) : rd_T63 l (j : Int) = x := by
  unfold rd_T63
  rw [Int.toNat_natCast, List.getD_eq_getElem?_getD, h]; rfl
/-! ### Unlearn -/
theorem eq81 (l : List S63) (hl : l.length ≤ 1000) : Evt (fun k => api_Factor_81.f k l l) true := by
  have : ∀ (m i : Nat), i + m = l.length → Evt (fun k => api_Factor_81.l0 k l l (l.length : Int) (i : Int)) true := by
    intro m
    induction m with
    | zero =>
      intro i hi
      refine Evt.now fun k => ?_
      rw [api_Factor_81.l0, if_neg (by omega)]
    | succ m ih =>
      intro i hi
      refine Evt.step (g' := fun k => api_Factor_81.l0 k l l (l.length : Int) ((i + 1 : Nat) : Int)) (fun k => ?_) (ih (i + 1) (by omega))
      rw [api_Factor_81.l0, if_pos (by omega), if_pos (by omega), if_pos (by omega), if_pos (by omega), if_neg (by simp), wr (by omega) (by omega)]
      rfl
  unfold api_Factor_81.f
  exact Evt.pos rfl (this l.length 0 (by omega))
theorem unl_l0 (s : ByteArray) (hs : s.size ≤ 160) (hw : isWordC s = true) (K : List ByteArray) (l : List S63) (hle : l = learnF s s.size 0 [] []) (hl : l.length = K.length) (hK : K.length ≤ 160) (hp : posK K K.length = s.size) (H : ∀ j, j < K.length → ∃ L f, OkJ s K l j L f) :
    ∀ (m j : Nat), j + m = K.length → Evt (fun k => parse_Unlearn.l0 k l (lastS s K K.length) ((emptyB :: K).take (j + 1)) (s.extract 0 (posK K j)) l (l.length : Int) (j : Int)) (s, 0)
  | 0, j, hj => by
    obtain rfl : j = K.length := by omega
    have e : s.extract 0 (posK K K.length) = s := by
      apply bl_inj
      rw [bl_extract, hp, ← bl_len s]; simp
    rw [e]
    have e1 : parse_isWord.f s = some true := by rw [parse_isWord.f, hw]
    have e2 : parse_learn.f s = some l := by rw [parse_learn.f, if_pos hs, hle]
    refine Evt.step (g' := fun k => (parse_isWord.f s).bind fun t691 => (if t691 = true then ((parse_learn.f s).bind fun t692 => ((api_Factor_81.f k t692 l).bind fun t695 => (if t695 = true then (some (s, 0)) else (some ((⟨#[]⟩ : ByteArray), 2))))) else (some ((⟨#[]⟩ : ByteArray), 2)))) (fun k => by rw [parse_Unlearn.l0, if_neg (by omega)]) ?_
    exact Evt.bind (Evt.all (fun _ => e1)) (Evt.pos rfl (Evt.bind (Evt.all (fun _ => e2)) (Evt.bind (eq81 l (by omega)) (Evt.all (fun _ => rfl)))))
  | m + 1, j, hj => by
    obtain ⟨L, f, o⟩ := H j (by omega)
    have h1 := o.next
    have h2 := o.fit
    have h3 := o.L1
    have h4 := o.fle
    have hr := rd_lat o.lat
    have hz := lastS_size H K.length (Nat.le_refl _)
    have w : Aside0 (wrap64 ((j : Int) + 1) = ((j + 1 : Nat) : Int)) := ⟨(wr (by omega) (by omega)).trans (by omega)⟩
    have hx : (lastS s K K.length).extract (j : Int).toNat ((j + 1 : Nat) : Int).toNat = s.extract (posK K (j + 1) - 1) (posK K (j + 1)) := by
      rw [Int.toNat_natCast, Int.toNat_natCast, lastS_ext H K.length (Nat.le_refl _) j (by omega)]
    have hrd : rdOf ByteArray.empty ((emptyB :: K).take (j + 1)) (f : Int) = subAt s (L - 1) (posK K j) := by
      unfold rdOf
      rw [Int.toNat_natCast, List.getD_eq_getElem?_getD, List.getElem?_take_of_lt (by omega), o.fat]; rfl
    have hcat := o.split
    have hout : s.extract 0 (posK K j) ++ subAt s L (posK K j) = s.extract 0 (posK K (j + 1)) := by
      unfold subAt
      rw [h1, ext_cat s _ _ _ (by omega) (by omega)]
    have hlist : (emptyB :: K).take (j + 1) ++ [subAt s L (posK K j)] = (emptyB :: K).take (j + 1 + 1) := by
      rw [List.take_add_one (i := j + 1), List.getElem?_cons_succ, o.kat]; rfl
    have hlen : ((emptyB :: K).take (j + 1)).length = j + 1 := by
      rw [List.length_take, List.length_cons]; omega
    have z1 : (subAt s (L - 1) (posK K j)).size = L - 1 := subAt_size s _ _ (by omega)
    have z2 : (s.extract (posK K (j + 1) - 1) (posK K (j + 1))).size = 1 := one_size s _ (by omega) (by omega)
    have z3 : (s.extract 0 (posK K j)).size = posK K j := by rw [ByteArray.size_extract]; omega
    have z4 : (subAt s L (posK K j)).size = L := subAt_size s _ _ h2
    have hwi : parse_within.f (f : Int) 0 (j : Int) = some true := by
      rw [parse_within.f, if_pos (by omega), decide_eq_true (by omega)]
    refine Evt.step (fun k => ?_) (unl_l0 s hs hw K l hle hl hK hp H m (j + 1) (by omega))
    have c1 : (j : Int) < (l.length : Int) := by omega
    have c2 : (0 : Int) ≤ (j : Int) := by omega
    have c3 : ¬ ((s.extract 0 (posK K j)).size : Int) > 160 := by omega
    have c4 : (0 : Int) ≤ (f : Int) := by omega
    have c5 : (f : Int) < (((emptyB :: K).take (j + 1)).length : Int) := by omega
    have c6 : (j : Int) ≤ ((j + 1 : Nat) : Int) := by omega
    have c7 : ((j + 1 : Nat) : Int) ≤ ((lastS s K K.length).size : Int) := by omega
    have c8 : (subAt s (L - 1) (posK K j)).size + (s.extract (posK K (j + 1) - 1) (posK K (j + 1))).size ≤ 9223372036854775807 := by omega
    have c9 : ((emptyB :: K).take (j + 1)).length < 8796093022208 := by omega
    have c10 : (s.extract 0 (posK K j)).size + (subAt s L (posK K j)).size ≤ 9223372036854775807 := by omega
    rw [parse_Unlearn.l0, if_pos c1, if_pos c2, if_pos c1, hr]
    dsimp only
    rw [hwi, Option.bind_some, if_pos rfl, if_neg c3, if_pos c4, if_pos c5, w.out, if_pos c6, if_pos c7, hrd, hx, if_pos c8, if_pos c9, hcat, if_pos c10, hlist, hout]
theorem unlearn_ev (s : ByteArray) (hs : s.size ≤ 160) (hw : isWordC s = true) (K : List ByteArray) (l : List S63) (hle : l = learnF s s.size 0 [] []) (hl : l.length = K.length) (hK : K.length ≤ 160) (hp : posK K K.length = s.size) (H : ∀ j, j < K.length → ∃ L f, OkJ s K l j L f) :
    Evt (fun k => parse_Unlearn.f k l (lastS s K K.length)) (s, 0) := by
  have hz := lastS_size H K.length (Nat.le_refl _)
  have hwl : isWordC (lastS s K K.length) = true := by
    rw [isWordC_iff] at hw ⊢
    exact ⟨by omega, fun i hi => lastS_ok H hw.2 K.length (Nat.le_refl _) i (by omega)⟩
  have e1 : parse_isWord.f (lastS s K K.length) = some true := by rw [parse_isWord.f, hwl]
  unfold parse_Unlearn.f
  refine Evt.bind (Evt.all (fun _ => e1)) (Evt.pos rfl ?_)
  have e2 : ((l.length : Int) != ((lastS s K K.length).size : Int)) = false := by
    rw [hz, hl]; simp
  rw [e2]
  refine Evt.step (fun k => ?_) (unl_l0 s hs hw K l hle hl hK hp H K.length 0 (by omega))
  rw [parse_Unlearn.j0, if_neg (by decide)]
  have e3 : s.extract 0 (posK K 0) = (⟨#[]⟩ : ByteArray) := by
    apply bl_inj
    rw [bl_extract]; rfl
  rw [e3]; rfl

/-! ### the checks -/
theorem bk_l1 (s : ByteArray) (hs : s.size ≤ 160) (K : List ByteArray) (l : List S63) (hl : l.length = K.length) (hK : K.length ≤ 160) (H : ∀ j, j < K.length → ∃ L f, OkJ s K l j L f) (i : Nat) (hi : i < K.length) (x7 : Int) (r : Bool)
    (h : Evt (fun k => numnahlaw09_ParseBack.l0 k s l (lastS s K (i + 1)) x7 ((i + 1 : Nat) : Int)) r) : ∀ (m q : Nat), q + m = i → Evt (fun k => numnahlaw09_ParseBack.l1 k s l (lastS s K (i + 1)) x7 (i : Int) (q : Int)) r := by
  have w : Aside0 (wrap64 ((i : Int) + 1) = ((i + 1 : Nat) : Int)) := ⟨(wr (by omega) (by omega)).trans (by omega)⟩
  have stop : ∀ q : Nat, Evt (fun k => numnahlaw09_ParseBack.j4 k s l (lastS s K (i + 1)) x7 (i : Int) (q : Int) false) r := by
    intro q
    refine Evt.step (fun k => ?_) h
    rw [numnahlaw09_ParseBack.j4, if_neg (by decide), w.out]
  intro m
  induction m with
  | zero =>
    intro q hq
    refine Evt.step (fun k => ?_) (stop q)
    rw [numnahlaw09_ParseBack.l1, if_neg (by omega)]
  | succ m ih =>
    intro q hq
    have w2 : Aside0 (wrap64 ((q : Int) + 1) = ((q + 1 : Nat) : Int)) := ⟨(wr (by omega) (by omega)).trans (by omega)⟩
    by_cases c : i + 1 < K.length
    · refine Evt.step (g' := fun k => numnahlaw09_ParseBack.j4 k s l (lastS s K (i + 1)) x7 (i : Int) (q : Int) true) (fun k => ?_) ?_
      · rw [numnahlaw09_ParseBack.l1, if_pos (by omega), w.out, decide_eq_true (by omega)]
      · obtain ⟨L, f, o⟩ := H i hi
        obtain ⟨L', f', o'⟩ := H q (by omega)
        have hr := rd_lat o.lat
        have hr' := rd_lat o'.lat
        have hz := lastS_size H (i + 1) (by omega)
        have c1 : (0 : Int) ≤ (q : Int) := by omega
        have c2 : (q : Int) < (l.length : Int) := by omega
        have c3 : (0 : Int) ≤ (i : Int) := by omega
        have c4 : (i : Int) < (l.length : Int) := by omega
        have c5 : (q : Int) < ((lastS s K (i + 1)).size : Int) := by omega
        have c6 : (i : Int) < ((lastS s K (i + 1)).size : Int) := by omega
        refine Evt.step (fun k => ?_) (ih (q + 1) (by omega))
        rw [numnahlaw09_ParseBack.j4, if_pos rfl, if_pos c1, if_pos c2, if_pos c3, if_pos c4, hr, hr']
        dsimp only
        by_cases e : (f' : Int) = (f : Int)
        · have e2 : ¬ bt (lastS s K (i + 1)) (q : Int) = bt (lastS s K (i + 1)) (i : Int) := by
            intro hb
            have g := one_eq _ _ q i (by omega) (by omega) hb
            rw [lastS_ext H (i + 1) (by omega) q (by omega), lastS_ext H (i + 1) (by omega) i (by omega)] at g
            have ef : f' = f := Int.ofNat.inj e
            have g2 := o'.fat
            rw [ef, o.fat] at g2
            have g3 := o'.split
            rw [← Option.some.inj g2, g, o.split] at g3
            have g4 := o'.kat
            rw [← g3] at g4
            obtain ⟨L2, f2, o2⟩ := H (i + 1) c
            have t1 := o.next
            have t2 := o2.fit
            have t3 := o2.L1
            exact o.new (by omega) q (by omega) g4
          rw [if_pos e, if_pos c5, if_pos c6, if_neg e2, w2.out]
        · rw [if_neg e, w2.out]
    · refine Evt.step (fun k => ?_) (stop q)
      rw [numnahlaw09_ParseBack.l1, if_pos (by omega), w.out, decide_eq_false (by omega)]
theorem bk_l0 (s : ByteArray) (hs : s.size ≤ 160) (hw : isWordC s = true) (K : List ByteArray) (l : List S63) (hle : l = learnF s s.size 0 [] []) (hl : l.length = K.length) (hK : K.length ≤ 160) (hp : posK K K.length = s.size) (H : ∀ j, j < K.length → ∃ L f, OkJ s K l j L f) :
    ∀ (m i : Nat), i + m = K.length → Evt (fun k => numnahlaw09_ParseBack.l0 k s l (lastS s K i) (posK K i : Int) (i : Int)) true
  | 0, i, hi => by
    obtain rfl : i = K.length := by omega
    refine Evt.step (g' := fun k => (parse_Unlearn.f k l (lastS s K K.length)).bind fun bt701 => (if bt701.2 = 0 then (if bt701.1.toList = s.toList then (if (posK K K.length : Int) = (s.size : Int) then ((numnahlaw09_awake.f k).bind fun t703 => (some t703)) else (some false)) else (some false)) else (some false))) (fun k => by rw [numnahlaw09_ParseBack.l0, if_neg (by omega)]) ?_
    exact Evt.bind (unlearn_ev s hs hw K l hle hl hK hp H) (Evt.pos rfl (Evt.pos rfl (Evt.pos (by omega) awake_bind)))
  | m + 1, i, hi => by
    obtain ⟨L, f, o⟩ := H i (by omega)
    have h1 := o.next
    have h2 := o.fit
    have h3 := o.L1
    have h4 := o.fle
    have hr := rd_lat o.lat
    have hz := lastS_size H i (by omega)
    have ih := bk_l0 s hs hw K l hle hl hK hp H m (i + 1) (by omega)
    have hL1 := bk_l1 s hs K l hl hK H i (by omega) (posK K (i + 1) : Int) true ih i 0 (by omega)
    have w1 : Aside0 (wrap64 ((s.size : Int) - (posK K i : Int)) = (s.size : Int) - (posK K i : Int)) := ⟨wr (by omega) (by omega)⟩
    have w2 : Aside0 (wrap64 ((f : Int) - 1) = (f : Int) - 1) := ⟨wr (by omega) (by omega)⟩
    have w3 : Aside0 (wrap64 (((L - 1 : Nat) : Int) + 1) = (L : Int)) := ⟨(wr (by omega) (by omega)).trans (by omega)⟩
    have w4 : Aside0 (wrap64 ((posK K i : Int) + (L : Int)) = ((posK K (i + 1) : Nat) : Int)) := ⟨(wr (by omega) (by omega)).trans (by omega)⟩
    have w5 : Aside0 (wrap64 (((posK K (i + 1) : Nat) : Int) - 1) = ((posK K (i + 1) - 1 : Nat) : Int)) := ⟨(wr (by omega) (by omega)).trans (by omega)⟩
    have c1 : (i : Int) < (l.length : Int) := by omega
    have c2 : (0 : Int) ≤ (i : Int) := by omega
    have c3 : ¬ (f : Int) < 0 := by omega
    have c4 : ¬ (f : Int) > (i : Int) := by omega
    have c5 : ¬ (L : Int) < 1 := by omega
    have c6 : ¬ (L : Int) > (s.size : Int) - (posK K i : Int) := by omega
    have z2 : (s.extract (posK K (i + 1) - 1) (posK K (i + 1))).size = 1 := one_size s _ (by omega) (by omega)
    have fin : Evt (fun k => numnahlaw09_ParseBack.j2 k s l (lastS s K i) (posK K i : Int) (i : Int) ((L - 1 : Nat) : Int)) true := by
      refine Evt.step (fun k => ?_) hL1
      have d1 : (0 : Int) ≤ ((posK K (i + 1) - 1 : Nat) : Int) := by omega
      have d2 : ((posK K (i + 1) - 1 : Nat) : Int) ≤ ((posK K (i + 1) : Nat) : Int) := by omega
      have d3 : ((posK K (i + 1) : Nat) : Int) ≤ (s.size : Int) := by omega
      have d4 : (lastS s K i).size + (s.extract (posK K (i + 1) - 1) (posK K (i + 1))).size ≤ 9223372036854775807 := by omega
      rw [numnahlaw09_ParseBack.j2, if_pos c2, if_pos c1, hr]
      dsimp only
      rw [w3.out, if_pos rfl, w4.out, w5.out, if_pos d1, if_pos d2, if_pos d3, Int.toNat_natCast, Int.toNat_natCast, if_pos d4]
      rfl
    refine Evt.step (g' := fun k => numnahlaw09_ParseBack.j1 k s l (lastS s K i) (posK K i : Int) (i : Int) false) (fun k => ?_) ?_
    · rw [numnahlaw09_ParseBack.l0, if_pos c1, if_pos c2, hr]
      dsimp only
      rw [if_neg c3, if_neg c4, if_neg c5, w1.out, decide_eq_false c6]
    · refine Evt.step (fun k => ?_) fin
      rw [numnahlaw09_ParseBack.j1, if_neg (by decide), if_pos c2, if_pos c1, hr]
      dsimp only
      by_cases hf : (f : Int) > 0
      · obtain ⟨g, rfl⟩ : ∃ g, f = g + 1 := ⟨f - 1, by omega⟩
        have hfat := o.fat
        rw [List.getElem?_cons_succ] at hfat
        obtain ⟨L', f', o'⟩ := H g (by omega)
        have hk := o'.kat
        rw [hfat] at hk
        have hsz := congrArg ByteArray.size (Option.some.inj hk)
        rw [subAt_size s _ _ (by omega), subAt_size s _ _ o'.fit] at hsz
        have hr' := rd_lat o'.lat
        have e1 : ((g + 1 : Nat) : Int) - 1 = (g : Int) := by omega
        have d1 : (0 : Int) ≤ (g : Int) := by omega
        have d2 : (g : Int) < (l.length : Int) := by omega
        rw [if_pos hf, w2.out, e1, if_pos d1, if_pos d2, hr', hsz]
      · have hL := o.f0 (by omega)
        rw [if_neg hf, hL]
        rfl
theorem ParseBack : numnahlaw09_ParseBack.Pure := by
  intro a0 h0
  apply Evt.ex
  obtain ⟨s, hs, hw, ht⟩ := tame_ev a0 h0 160 (by omega)
  show Evt (fun k => numnahlaw09_ParseBack.f k a0) true
  unfold numnahlaw09_ParseBack.f
  have e1 : parse_Learning.f s = some (learnF s s.size 0 [] [], 0) := by
    rw [parse_Learning.f, parse_isWord.f, hw, Option.bind_some, if_pos rfl, parse_learn.f, if_pos hs, Option.bind_some]
  obtain ⟨K, hl, hp, H⟩ := back_tr s s.size 0 [] [] (by omega) (by omega) rfl rfl (fun j hj => by simp at hj)
  have hlen := learnF_len s s.size 0 [] []
  simp only [List.length_nil] at hlen
  refine Evt.bind ht (Evt.bind (Evt.all (fun _ => e1)) (Evt.pos rfl ?_))
  exact bk_l0 s hs hw K _ rfl hl (by omega) hp H K.length 0 (by omega)
end Go.Proofs.YtpeeflkodpnbpaaDoor.Pure
