/- Orient. -/
import Derived.Test.YtaafeallcaiooaaGreatHCa
import Derived.Test.YtaafeallcaiooaaGreatHPt
import Derived.Lib.ConvBytes
import Derived.Test.YtaafeallcaiooaaGreatHNe
namespace Go.Proofs.YtaafeallcaiooaaGreat.Pr
theorem cmp_all (r : Int → Int) : ∀ (n : Nat) (a b : Tm), a.good → b.good → a.size + b.size ≤ (n : Int) → n ≤ 1000000 → CmpOk 130 r a b := by
  intro n
  induction n with
  | zero =>
    intro a b ha hb h _
    have h1 := a.size_pos
    have h2 := b.size_pos
    omega
  | succ n ih =>
    intro a b ha hb h hn
    have h1 := a.size_pos
    have h2 := b.size_pos
    cases b with
    | var v => exact cmp_var r a v ha (by omega)
    | app s' l' =>
      cases a with
      | var c => exact cmp_va r c s' l'
      | app s l =>
        refine cmp_app r s l s' l' ha hb (by omega) (by omega) (fun x y hx hy hlt => ?_)
        have h3 := x.size_pos
        have h4 := y.size_pos
        exact greater_of r x y hx hy (by omega) (by omega) (ih x y hx hy (by omega) (by omega))
theorem greater_all (r : Int → Int) (a b : Tm) (ha : a.good) (hb : b.good) (h : a.size + b.size ≤ 1000000) : CmpOk 93 r a b := by
  have h1 := a.size_pos
  have h2 := b.size_pos
  exact greater_of r a b ha hb (by omega) (by omega) (cmp_all r 1000000 a b ha hb h (Nat.le_refl _))
open Go.RowKit Go.Proofs.Zw Go.Proofs.Zl Go.Proofs.Zm
theorem HasW.apart {α : Type} {enc : α → Value} {w : World} {ok : Nat → Prop} {ls : List (Tm × Tm)} {A : Option Addr} {b : Nat} {L : List (α × Value)} (h : HasW w ok ls A) (hm : MapIs enc w b L) : HasW w (fun k => k ≠ b) ls A := by
  intro j hj
  obtain ⟨g, cs, p, q, h1, h2, h3, h4, h5, h6, h7⟩ := h j hj
  refine ⟨g, cs, p, q, h1, ?_, h3, h4, h5, h6.apart hm, h7.apart hm⟩
  intro e
  obtain ⟨es, cl, hb, _⟩ := hm
  rw [e, hb] at h3
  cases h3
theorem HasW.but {w w' : World} {b : Nat} {ls : List (Tm × Tm)} {A : Option Addr} (h : HasW w (fun k => k ≠ b) ls A) (hb : But b w w') : HasW w' (fun k => k ≠ b) ls A := h.step (fun k hk hl => ⟨hk, hb.block k hl hk⟩)
def provT (r : Int → Int) (ls : List (Tm × Tm)) : Bool := !(ls.any fun l => !gt r l.1 l.2)
theorem prov1_calls (r : Int → Int) (a b : Tm) (p q : Nat × Value) (B b1 b2 : Nat) (w : World) (ok ok' : Nat → Prop) (hp : Has w ok a p) (hq : Has w ok' b q) (ha : a.good) (hb : b.good) (hs : a.size + b.size ≤ 1000000) (hB : w.heap[B]? = some (.cells #[.map (some b1), .map (some b2)] 120 (0, 0))) (hP : Prec w r b1 b2) :
    Calls Tryz.prog 128 #[.agg #[encI p, encI q], .pointer (some ⟨B, 0, none⟩)] w fun e w' => e = .returned (.bool (!gt r a b)) ∧ But b2 w w' ∧ Prec w' r b1 b2 := by
  have hB1 : Below w.heap.size w (w.alloc (.cells #[encI p, encI q] 144)) := below_alloc (Below.refl _ _) _
  have hg := greater_all r a b ha hb hs p q (w.alloc (.cells #[encI p, encI q] 144)) ok ok' b1 b2 (hp.below hB1) (hq.below hB1) (hP.below hB1)
  have hx0 : (w.alloc (.cells #[encI p, encI q] 144)).cell? ⟨B, 0, none⟩ = some (.map (some b1)) := blk_cell (blk_alloc hB _) 0
  have hx1 : (w.alloc (.cells #[encI p, encI q] 144)).cell? ⟨B, 1, none⟩ = some (.map (some b2)) := blk_cell (blk_alloc hB _) 1
  generalize gt r a b = g at *
  obtain ⟨t1, v1⟩ := p
  obtain ⟨t2, v2⟩ := q
  have HG := Aside0.mk hg
  have HB := Aside0.mk hB1
  clear hg hB1 hp hq ha hb hs hB hP
  unfold precV at HG
  unfold encI at *
  go_enter Tryz.func128, Tryz.ntmps128
  go_wp2_with (go_at_call 93; refine HG.out.mono ?_; rintro e w2 ⟨rfl, hb, hP⟩; have H2 := Aside0.mk (And.intro hb hP); clear hb hP)
  go_ret
  exact ⟨rfl, (But.of_below HB.out).trans H2.out.1, H2.out.2⟩
set_option maxRecDepth 100000 in
set_option maxHeartbeats 1000000 in
theorem indexLaw_calls (r : Int → Int) (ls : List (Tm × Tm)) (B b1 b2 : Nat) (A : Option Addr) (cap : Nat) (w : World) (hL : HasW w (fun k => k ≠ b2) ls A) (hls : LawsGood ls) (hln : ls.length ≤ 1000) (hB : w.heap[B]? = some (.cells #[.map (some b1), .map (some b2)] 120 (0, 0))) (hP : Prec w r b1 b2) (hne : B ≠ b2) :
    Calls Tryz.prog 147 #[.slice A ls.length cap, .func (.func 128) #[] #[.pointer (some ⟨B, 0, none⟩)]] w fun e w' => ∃ k : Int, e = .returned (.int .i64 k) ∧ decide (k ≥ 0) = ls.any (fun l => !gt r l.1 l.2) ∧ But b2 w w' ∧ Prec w' r b1 b2 := by
  have HP := Aside0.mk (And.intro hL (And.intro hls (And.intro hln (And.intro hB (And.intro hP hne)))))
  clear hL hls hln hB hP hne
  go_enter Tryz.func147, Tryz.ntmps147
  go_wp2
  go_loopw [8] (fun v8 wr => ∃ (i : Nat), v8 = .int .i64 (i : Int) ∧ Aside0 (i ≤ ls.length) ∧ Aside0 ((ls.take i).any (fun l => !gt r l.1 l.2) = false) ∧ Aside0 (But b2 w wr ∧ Prec wr r b1 b2)) (fun v8 _ => ls.length - (intOf v8).toNat)
  case atStart => exact ⟨0, rfl, ⟨Nat.zero_le _⟩, ⟨rfl⟩, ⟨But.refl _ _, HP.out.2.2.2.2.1⟩⟩
  case round =>
    obtain ⟨i, rfl, HI, HA, HB⟩ := hrel
    obtain ⟨hL, hls, hln, hB, hP, hne⟩ := HP.out
    by_cases hlt : i < ls.length
    · have hlb : decide ((i : Int) < (ls.length : Int)) = true := decide_eq_true (by omega)
      obtain ⟨g, cs, ⟨t1, p1⟩, ⟨t2, p2⟩, rfl, hg1, hg2, hc1, hc2, hl1, hl2⟩ := (hL.but HB.out.1) i hlt
      have hcell1 : wr.cell? ⟨g, i * 2, none⟩ = some (.iface t1 p1) := (blk_cell hg2 (i * 2)).trans hc1
      have hcell2 : wr.cell? ⟨g, i * 2 + 1, none⟩ = some (.iface t2 p2) := (blk_cell hg2 (i * 2 + 1)).trans hc2
      obtain ⟨hg3, hg4, hs3, hs4⟩ := hls _ (List.getElem_mem hlt)
      have hcall := prov1_calls r ls[i].1 ls[i].2 (t1, p1) (t2, p2) B b1 b2 wr _ _ hl1 hl2 hg3 hg4 (by omega) ((HB.out.1.block B (Array.getElem?_eq_some_iff.1 hB).1 hne).trans hB) HB.out.2
      have hsn : (ls.take (i + 1)).any (fun l => !gt r l.1 l.2) = !gt r ls[i].1 ls[i].2 := by
        rw [List.take_succ_eq_append_getElem hlt, List.any_append, HA.out]
        simp
      have htr : (!gt r ls[i].1 ls[i].2) = true → ls.any (fun l => !gt r l.1 l.2) = true := fun h => List.any_eq_true.2 ⟨ls[i], List.getElem_mem hlt, h⟩
      have w1i : wrap64 ((i : Int) + 1) = (i : Int) + 1 := wrS (by omega) (by omega)
      have HC := Aside0.mk hcall
      have HH := Aside0.mk (And.intro hsn htr)
      clear hcall hsn htr hL hls hln hB hP hne hg1 hg2 hc1 hc2 hl1 hl2 hg3 hg4 hs3 hs4
      unfold encI at HC
      generalize (!gt r ls[i].1 ls[i].2) = b at *
      cases b with
      | true =>
        go_wp2_with (go_at_call 128; refine HC.out.mono ?_; rintro e w1 ⟨rfl, hb, hP⟩; have H1 := Aside0.mk (And.intro hb hP); clear hb hP)
        go_ret
        exact ⟨_, rfl, (decide_eq_true (by omega)).trans (HH.out.2 (by simp)).symm, HB.out.1.trans H1.out.1, H1.out.2⟩
      | false =>
        go_wp2_with (go_at_call 128; refine HC.out.mono ?_; rintro e w1 ⟨rfl, hb, hP⟩; have H1 := Aside0.mk (And.intro hb hP); clear hb hP)
        rw [w1i]
        refine ⟨⟨i + 1, by simp, ⟨by omega⟩, ⟨HH.out.1⟩, ⟨HB.out.1.trans H1.out.1, H1.out.2⟩⟩, ?_⟩
        simp only [intOf]
        omega
    · have hlb : decide ((i : Int) < (ls.length : Int)) = false := decide_eq_false (by omega)
      have hno : ls.any (fun l => !gt r l.1 l.2) = false := by have := HA.out; rwa [List.take_of_length_le (by omega)] at this
      have HN := Aside0.mk hno
      clear hL hls hln hB hP hne hno
      go_wp2
      go_ret
      exact ⟨-1, rfl, by rw [HN.out]; rfl, HB.out⟩
theorem containsLaw_calls (r : Int → Int) (ls : List (Tm × Tm)) (B b1 b2 : Nat) (A : Option Addr) (cap : Nat) (w : World) (hL : HasW w (fun k => k ≠ b2) ls A) (hls : LawsGood ls) (hln : ls.length ≤ 1000) (hB : w.heap[B]? = some (.cells #[.map (some b1), .map (some b2)] 120 (0, 0))) (hP : Prec w r b1 b2) (hne : B ≠ b2) :
    Calls Tryz.prog 127 #[.slice A ls.length cap, .func (.func 128) #[] #[.pointer (some ⟨B, 0, none⟩)]] w fun e w' => e = .returned (.bool (ls.any (fun l => !gt r l.1 l.2))) ∧ But b2 w w' ∧ Prec w' r b1 b2 := by
  have HC := Aside0.mk (indexLaw_calls r ls B b1 b2 A cap w hL hls hln hB hP hne)
  clear hL hls hln hB hP hne
  generalize ls.any (fun l => !gt r l.1 l.2) = b at *
  generalize ls.length = n at *
  go_enter Tryz.func127, Tryz.ntmps127
  go_wp2_with (go_at_call 147; refine HC.out.mono ?_; rintro e w1 ⟨k, rfl, hk, hb⟩; have H1 := Aside0.mk (And.intro hk hb); clear hb hk)
  go_ret
  rw [← H1.out.1]
  exact ⟨rfl, H1.out.2⟩
theorem proves_calls (r : Int → Int) (ls : List (Tm × Tm)) (b1 b2 : Nat) (A : Option Addr) (cap : Nat) (w : World) (ok : Nat → Prop) (hL : HasW w ok ls A) (hls : LawsGood ls) (hln : ls.length ≤ 1000) (hP : Prec w r b1 b2) :
    Calls Tryz.prog 88 #[precV b1 b2, .slice A ls.length cap] w fun e w' => e = .returned (.bool (provT r ls)) ∧ But b2 w w' ∧ Prec w' r b1 b2 := by
  obtain ⟨hr, hne, L, hM, hK⟩ := hP
  have hP : Prec w r b1 b2 := ⟨hr, hne, L, hM, hK⟩
  have hB1 : Below w.heap.size w (w.alloc (.cells #[.map (some b1), .map (some b2)] 120)) := below_alloc (Below.refl _ _) _
  have hlt := hM.lt
  have HC := Aside0.mk (containsLaw_calls r ls w.heap.size b1 b2 A cap (w.alloc (.cells #[.map (some b1), .map (some b2)] 120)) ((hL.apart hM).below hB1) hls hln (blk_new w _) (hP.below hB1) (by omega))
  have HB := Aside0.mk hB1
  clear hL hls hln hP hB1 hlt hr hne hM hK
  unfold provT precV
  generalize ls.any (fun l => !gt r l.1 l.2) = b at *
  generalize ls.length = n at *
  go_enter Tryz.func88, Tryz.ntmps88
  go_wp2_with (go_at_call 127; refine HC.out.mono ?_; rintro e w1 ⟨rfl, hb, hP⟩; have H1 := Aside0.mk (And.intro hb hP); clear hb hP)
  go_ret
  exact ⟨rfl, (But.of_below HB.out).trans H1.out.1, H1.out.2⟩
theorem indexB_calls (xs : List UInt8) (x : UInt8) (A : Option Addr) (cap : Nat) (w : World) (hc : ∀ j (h : j < xs.length), ∃ ad, A = some ad ∧ w.cell? (ad.add j) = some (.int .u8 (xs[j].toNat : Int))) (hln : xs.length ≤ 1000) :
    Calls Tryz.prog 129 #[.slice A xs.length cap, .int .u8 (x.toNat : Int)] w fun e w' => ∃ k : Int, e = .returned (.int .i64 k) ∧ decide (k ≥ 0) = xs.any (fun n => n == x) ∧ w' = w := by
  have HP := Aside0.mk (And.intro hc hln)
  clear hc hln
  go_enter Tryz.func129, Tryz.ntmps129
  go_wp2
  go_loopw [8] (fun v8 wr => ∃ (i : Nat), v8 = .int .i64 (i : Int) ∧ Aside0 (i ≤ xs.length) ∧ Aside0 ((xs.take i).any (fun n => n == x) = false) ∧ wr = w) (fun v8 _ => xs.length - (intOf v8).toNat)
  case atStart => exact ⟨0, rfl, ⟨Nat.zero_le _⟩, ⟨rfl⟩, rfl⟩
  case round =>
    obtain ⟨i, rfl, HI, HA, hwr⟩ := hrel
    subst wr
    obtain ⟨hc, hln⟩ := HP.out
    by_cases hlt : i < xs.length
    · have hlb : decide ((i : Int) < (xs.length : Int)) = true := decide_eq_true (by omega)
      obtain ⟨ad, rfl, hc1⟩ := hc i hlt
      have hsn : (xs.take (i + 1)).any (fun n => n == x) = (xs[i] == x) := by
        rw [List.take_succ_eq_append_getElem hlt, List.any_append, HA.out]
        simp
      have htr : (xs[i] == x) = true → xs.any (fun n => n == x) = true := fun h => List.any_eq_true.2 ⟨xs[i], List.getElem_mem hlt, h⟩
      have heq : ((x.toNat : Int) == (xs[i].toNat : Int)) = (xs[i] == x) := by
        by_cases h : xs[i] = x
        · rw [h]; simp
        · rw [beq_eq_false_iff_ne.2 h]
          refine beq_eq_false_iff_ne.2 (fun e => h ?_)
          exact (UInt8.toNat_inj.1 (by omega)).symm
      have w1i : wrap64 ((i : Int) + 1) = (i : Int) + 1 := wrp i (by omega)
      generalize (xs[i] == x) = b at *
      generalize xs[i] = y at *
      have HH := Aside0.mk (And.intro hsn htr)
      clear hsn htr hc hln
      cases b with
      | true =>
        go_wp2
        go_ret
        exact ⟨_, rfl, (decide_eq_true (by omega)).trans (HH.out.2 (by simp)).symm, rfl⟩
      | false =>
        go_wp2
        try rw [w1i]
        refine ⟨⟨i + 1, by simp, ⟨by omega⟩, ⟨HH.out.1⟩, by first | rfl | trivial⟩, ?_⟩
        simp only [intOf]
        omega
    · have hlb : decide ((i : Int) < (xs.length : Int)) = false := decide_eq_false (by omega)
      have hno : xs.any (fun n => n == x) = false := by have := HA.out; rwa [List.take_of_length_le (by omega)] at this
      have HN := Aside0.mk hno
      clear hc hln hno
      go_wp2
      go_ret
      exact ⟨-1, rfl, by rw [HN.out]; rfl, rfl⟩
theorem containsB_calls (xs : List UInt8) (x : UInt8) (A : Option Addr) (cap : Nat) (w : World) (hc : ∀ j (h : j < xs.length), ∃ ad, A = some ad ∧ w.cell? (ad.add j) = some (.int .u8 (xs[j].toNat : Int))) (hln : xs.length ≤ 1000) :
    Calls Tryz.prog 89 #[.slice A xs.length cap, .int .u8 (x.toNat : Int)] w fun e w' => e = .returned (.bool (xs.any (fun n => n == x))) ∧ w' = w := by
  have HC := Aside0.mk (indexB_calls xs x A cap w hc hln)
  clear hc hln
  generalize xs.any (fun n => n == x) = r at *
  generalize xs.length = n at *
  go_enter Tryz.func89, Tryz.ntmps89
  go_wp2_with (go_at_call 129; refine HC.out.mono ?_; rintro e w1 ⟨k, rfl, hk, h1⟩; subst w1; have H1 := Aside0.mk hk; clear hk)
  go_ret
  rw [← H1.out]
  exact ⟨rfl, rfl⟩
theorem But.new {g h : Nat} {a b c : World} (h1 : But g a b) (h2 : But h b c) (hh : a.heap.size ≤ h) : But g a c :=
  ⟨h2.os.trans h1.os, h2.tape.trans h1.tape, h2.output.trans h1.output, Nat.le_trans h1.size h2.size, fun k hk hg => (h2.block k (Nat.lt_of_lt_of_le hk h1.size) (by omega)).trans (h1.block k hk hg)⟩
def c6 : List UInt8 := [97, 98, 99, 100, 101, 102]
def extO (ls : List (Tm × Tm)) : Nat → List UInt8 → Option (List UInt8)
  | 0, L => if provT (rankP (B8 L)) ls then some L else none
  | n + 1, L => c6.findSome? fun c => if L.any (fun x => x == c) then none else extO ls n (L ++ [c])
theorem nodup_len : ∀ (L M : List UInt8), L.Nodup → (∀ x, x ∈ L → x ∈ M) → L.length ≤ M.length
  | [], M, _, _ => Nat.zero_le _
  | x :: L, M, hn, h => by
    rw [List.nodup_cons] at hn
    have hx := h x (by simp)
    have := nodup_len L (M.erase x) hn.2 (fun y hy => (List.mem_erase_of_ne (fun e => hn.1 (by rw [← e]; exact hy))).2 (h y (by simp [hy])))
    rw [List.length_erase_of_mem hx] at this
    have := List.length_pos_of_mem hx
    rw [List.length_cons]
    omega
theorem full6 {L : List UInt8} (h6 : L.length = 6) (hn : L.Nodup) (hc : ∀ x, x ∈ L → x ∈ c6) : ∀ c, c ∈ c6 → c ∈ L := by
  intro c hcm
  by_cases h : c ∈ L
  · exact h
  · exfalso
    have := nodup_len L (c6.erase c) hn (fun y hy => (List.mem_erase_of_ne (fun e => h (by rw [← e]; exact hy))).2 (hc y hy))
    rw [List.length_erase_of_mem hcm, h6] at this
    simp [c6] at this
theorem putL_new {L : List (Int × Value)} {a : Int} {v : Value} (h : a ∉ L.map (·.1)) : putL L a v = L ++ [(a, v)] := by
  induction L with
  | nil => rfl
  | cons q L ih =>
    rw [List.map_cons, List.mem_cons] at h
    rw [putL, if_neg (fun e => h (.inl e.symm)), ih (fun e => h (.inr e))]
    rfl
theorem bAt_list (L : List UInt8) (k : Nat) (h : k < L.length) : bAt (B8 L) k = (L[k].toNat : Int) := by
  unfold bAt
  rw [dif_pos (by rw [B8_size]; exact h)]
  rfl
theorem rkL_pairs {L : List UInt8} (hn : L.Nodup) : ∀ k, k ≤ L.length → (rkL (B8 L) k).map (·.1) = (L.take k).map (fun c => (c.toNat : Int))
  | 0, _ => by simp [rkL]
  | k + 1, h => by
    have ih := rkL_pairs hn k (by omega)
    have hk : k < L.length := by omega
    rw [rkL, bAt_list L k hk, putL_new, List.map_append, ih, List.take_succ_eq_append_getElem hk, List.map_append]
    · rfl
    · rw [ih]
      intro hm
      obtain ⟨x, hx, he⟩ := List.mem_map.1 hm
      have hxe : x = L[k] := UInt8.toNat_inj.1 (by omega)
      subst hxe
      obtain ⟨j, hj, he2⟩ := List.getElem_of_mem hx
      rw [List.length_take] at hj
      rw [List.getElem_take] at he2
      exact absurd ((List.getElem_inj hn).1 he2) (by omega)
theorem getL_some {L : List (Int × Value)} {a : Int} (h : a ∈ L.map (·.1)) : (getL L a).isSome = true := by
  obtain ⟨q, hq, rfl⟩ := List.mem_map.1 h
  unfold getL
  rw [Option.isSome_map, List.find?_isSome]
  exact ⟨q, hq, by simp⟩
theorem prec_perm {L : List UInt8} (h6 : L.length = 6) (hn : L.Nodup) (hc : ∀ x, x ∈ L → x ∈ c6) : precOk (B8 L) = true := by
  have hk := rkL_pairs hn L.length (Nat.le_refl _)
  rw [List.take_length] at hk
  unfold precOk
  rw [B8_size, decide_eq_true h6, Bool.true_and, decide_eq_true (by have := congrArg List.length hk; simp at this; omega), Bool.true_and, List.all_eq_true]
  intro c hcm
  refine getL_some ?_
  rw [hk]
  have hx : ∃ x : UInt8, x ∈ c6 ∧ (x.toNat : Int) = c := by
    simp only [List.mem_cons, List.not_mem_nil, or_false] at hcm
    rcases hcm with rfl | rfl | rfl | rfl | rfl | rfl
    · exact ⟨97, by decide, rfl⟩
    · exact ⟨98, by decide, rfl⟩
    · exact ⟨99, by decide, rfl⟩
    · exact ⟨100, by decide, rfl⟩
    · exact ⟨101, by decide, rfl⟩
    · exact ⟨102, by decide, rfl⟩
  obtain ⟨x, hx, rfl⟩ := hx
  exact List.mem_map.2 ⟨x, full6 h6 hn hc x hx, rfl⟩
theorem known_nil (r : Int → Int) : Known r [] := fun a b v _ _ h => by cases h
def ESt (w : World) (ls : List (Tm × Tm)) (bo bl be : Nat) (AL : Option Addr) (cL : Nat) : Prop :=
  (∃ o, w.heap[bo]? = some (.cells #[.string o] 9 (0, 0))) ∧ w.heap[bl]? = some (.cells #[.slice AL ls.length cL] 109 (0, 0)) ∧
  w.heap[be]? = some (.cells #[.func (.func 86) #[] #[.pointer (some ⟨bo, 0, none⟩), .pointer (some ⟨bl, 0, none⟩), .pointer (some ⟨be, 0, none⟩)]] 31 (0, 0)) ∧ HasW w (fun k => k ≠ bo) ls AL
theorem ESt.ne {w : World} {ls : List (Tm × Tm)} {bo bl be : Nat} {AL : Option Addr} {cL : Nat} (h : ESt w ls bo bl be AL cL) : bl ≠ bo ∧ be ≠ bo := by
  obtain ⟨⟨o, h1⟩, h2, h3, h4⟩ := h
  constructor
  · intro e
    rw [e, h1] at h2
    injection h2 with h2
    injection h2 with _ h2
    exact absurd h2 (by decide)
  · intro e
    rw [e, h1] at h3
    injection h3 with h3
    injection h3 with _ h3
    exact absurd h3 (by decide)
theorem ESt.but {w w' : World} {ls : List (Tm × Tm)} {bo bl be : Nat} {AL : Option Addr} {cL : Nat} (h : ESt w ls bo bl be AL cL) (hb : But bo w w') (ho : ∃ o, w'.heap[bo]? = some (.cells #[.string o] 9 (0, 0))) : ESt w' ls bo bl be AL cL := by
  have hn := h.ne
  obtain ⟨h1, h2, h3, h4⟩ := h
  exact ⟨ho, (hb.block _ (Array.getElem?_eq_some_iff.1 h2).1 hn.1).trans h2, (hb.block _ (Array.getElem?_eq_some_iff.1 h3).1 hn.2).trans h3, h4.but hb⟩
def ExtOk (ls : List (Tm × Tm)) (n : Nat) : Prop := ∀ (L : List UInt8) (w : World) (bo bl be : Nat) (AL : Option Addr) (cL : Nat), L.length + n = 6 → L.Nodup → (∀ x, x ∈ L → x ∈ c6) → ESt w ls bo bl be AL cL →
  Calls Tryz.prog 86 #[.string (B8 L), .pointer (some ⟨bo, 0, none⟩), .pointer (some ⟨bl, 0, none⟩), .pointer (some ⟨be, 0, none⟩)] w fun e w' => e = .returned (.bool (extO ls n L).isSome) ∧ But bo w w' ∧ ∃ o, w'.heap[bo]? = some (.cells #[.string o] 9 (0, 0)) ∧ ∀ q, extO ls n L = some q → o = B8 q
set_option maxRecDepth 100000 in
set_option maxHeartbeats 2000000 in
theorem ext_base (ls : List (Tm × Tm)) (hls : LawsGood ls) (hln : ls.length ≤ 1000) : ExtOk ls 0 := by
  intro L w bo bl be AL cL h6 hnd hc6 hS
  have hok := prec_perm (by omega) hnd hc6
  have hnp := newPrec_calls (B8 L) (by rw [B8_size]; omega)
  have hsz : (B8 L).size = 6 := by rw [B8_size]; omega
  have hpv := fun (b1 b2 : Nat) (w' : World) (hL : HasW w' (fun k => k ≠ bo) ls AL) (hP : Prec w' (rankP (B8 L)) b1 b2) => proves_calls (rankP (B8 L)) ls b1 b2 AL cL w' _ hL hls hln hP
  have hex : extO ls 0 L = if provT (rankP (B8 L)) ls then some L else none := rfl
  rw [hex]
  unfold OutP at hnp
  rw [hok] at hnp
  dsimp only at hnp
  obtain ⟨p, hp⟩ : ∃ p, p = B8 L := ⟨_, rfl⟩
  rw [← hp] at hnp hsz hpv ⊢
  obtain ⟨b, hb⟩ : ∃ b, b = provT (rankP p) ls := ⟨_, rfl⟩
  rw [← hb] at hpv ⊢
  obtain ⟨R, hR⟩ : ∃ R, R = (if b = true then some L else none) := ⟨_, rfl⟩
  rw [← hR]
  have HE : Aside0 (R.isSome = b ∧ ∀ q, R = some q → p = B8 q) := ⟨by rw [hR]; cases b <;> rfl, fun q hq => by
    rw [hR] at hq
    cases b with
    | true => injection hq with hq; rw [hp, hq]
    | false => cases hq⟩
  have HNP := Aside0.mk hnp
  have HPV := Aside0.mk hpv
  have hne := hS.ne
  obtain ⟨⟨o, h1⟩, h2, h3, h4⟩ := hS
  have hz := blk_frozen h1 0
  have hd : w.cell? ⟨bo, 0, none⟩ = some (.string o) := blk_cell h1 0
  have hbt : But bo w (w.setCell ⟨bo, 0, none⟩ (.string p)) := But.set w 0 _
  have HW : Aside0 (But bo w (w.setCell ⟨bo, 0, none⟩ (.string p)) ∧ (w.setCell ⟨bo, 0, none⟩ (.string p)).heap[bo]? = some (.cells #[.string p] 9 (0, 0)) ∧ (w.setCell ⟨bo, 0, none⟩ (.string p)).heap[bl]? = some (.cells #[.slice AL ls.length cL] 109 (0, 0)) ∧ HasW (w.setCell ⟨bo, 0, none⟩ (.string p)) (fun k => k ≠ bo) ls AL) :=
    ⟨hbt, blk_setCell h1 _, (hbt.block _ (Array.getElem?_eq_some_iff.1 h2).1 hne.1).trans h2, h4.but hbt⟩
  clear hok hnp hpv hex hp hb hbt hR hne h1 h2 h3 h4 h6 hnd hc6
  go_enter Tryz.func86, Tryz.ntmps86
  go_wp2
  obtain ⟨w1, hw1⟩ : ∃ w1, w1 = w.setCell ⟨bo, 0, none⟩ (.string p) := ⟨_, rfl⟩
  rw [← hw1] at HW ⊢
  obtain ⟨hbt, hbo, hbl, hL⟩ := HW.out
  clear hw1 hz hd HW
  have hy0 : w1.drew.cell? ⟨bl, 0, none⟩ = some (.slice AL ls.length cL) := blk_cell (blk_drew hbl) 0
  refine start_ (n := 5) (S := fun w' => w'.cell? ⟨bl, 0, none⟩ = some (.slice AL ls.length cL)) (ds := [3]) (bm 5 0) (by kernel_rfl) rfl rfl (hy0) (fun hHeld => ?_)
  refine pk_ 0 12 (bm 5 1) ?_
  refine take_ (i := 2) (N := some 14) (v := ?_) (a' := ?_) (bm 5 5) rfl rfl (by kernel_rfl) (fun _ _ _ h => h) (Or.inl ⟨by rfl, ?_⟩) hHeld ?_ ?_; rotate_left
  · intro w' s0
    go_simp
    with_reducible rfl
  rotate_left; exact tP_
  refine one_ (i := 1) (N := some 13) (bm 5 7) rfl rfl (by kernel_rfl) (by decide) (fun K hK => ?_)
  refine goesD_ Tryz.func87 (by kernel_rfl) rfl #[.string p] (by rfl) rfl rfl (by simp only [List.map_toArray, List.map_cons, List.map_nil]; rfl) ?_
  refine (HNP.out _).mono ?_
  rintro e w5 ⟨hb5, b1, b2, rfl, hne, hs1, hs2, hRk, hMp⟩
  refine .inl ⟨_, rfl, ?_⟩
  have hb5w : Below w1.heap.size w1 w5 := ⟨hb5.os, hb5.tape, hb5.output, hb5.size, hb5.block⟩
  have hP5 : Prec w5 (rankP p) b1 b2 := ⟨hRk, hne, [], hMp, known_nil _⟩
  have hc50 : w5.cell? ⟨bl, 0, none⟩ = some (.slice AL ls.length cL) := blk_cell (blk_below hbl hb5w) 0
  refine hK.out _ _ (hc50) (fun hHeld => ?_)
  clear hK K
  refine norm_ (a' := ?_) ?_ ?_; rotate_left; (show Act.put _ (some 13) _ = _; exact tP_)
  refine last_ (i := 3) (N := some 15) (bm 5 15) rfl rfl (by kernel_rfl) (by decide) (fun K hK => ?_)
  refine goesD_ Tryz.func88 (by kernel_rfl) rfl #[precV b1 b2, .slice AL ls.length cL] (by rfl) rfl rfl (by simp only [List.map_toArray, List.map_cons, List.map_nil]; rfl) ?_
  refine (HPV.out b1 b2 w5 (hL.below hb5w) hP5).mono ?_
  rintro e w6 ⟨rfl, hb6, hP6⟩
  refine .inl ⟨_, rfl, ?_⟩
  refine hK.out _ _ ?_
  clear hK K
  refine norm_ (a' := ?_) ?_ ?_; rotate_left; (show Act.put _ (some 15) _ = _; exact tP_)
  refine pk_ 4 5 (bm 5 31) ?_
  refine done_ (by kernel_rfl) ?_
  go_wp2
  go_ret
  rw [HE.out.1]
  refine ⟨rfl, hbt.trans ?_, p, ?_, HE.out.2⟩
  · exact (But.of_below hb5w).new hb6 (Nat.le_trans (by simp) hs2)
  · exact (hb6.block _ (Nat.lt_of_lt_of_le (Array.getElem?_eq_some_iff.1 hbo).1 hb5w.size) (fun e => by have := (Array.getElem?_eq_some_iff.1 hbo).1; rw [e] at this; exact absurd (Nat.le_trans (by simp) hs2) (Nat.not_le_of_gt this))).trans ((hb5w.block _ (Array.getElem?_eq_some_iff.1 hbo).1).trans hbo)
theorem below_bytes (w : World) (e : TypeId) (s : ByteArray) : Below w.heap.size w (Lib.bytesWorld w e s) :=
  ⟨rfl, by rfl, rfl, by rw [Lib.bytesWorld_size]; omega, fun k hk => Lib.bytesWorld_at_old w e s k hk⟩
theorem c6_at (i : Nat) (h : i < c6.length) : c6[i] = UInt8.ofNat (97 + i) := by
  have : i = 0 ∨ i = 1 ∨ i = 2 ∨ i = 3 ∨ i = 4 ∨ i = 5 := by simp [c6] at h; omega
  rcases this with rfl | rfl | rfl | rfl | rfl | rfl <;> rfl
theorem s6_0 (w : World) : (Instr.sliceAt 9 (.string ⟨#[97, 98, 99, 100, 101, 102]⟩) (some (.int .i64 0)) (some (.int .i64 1)) none).run Tryz.prog w = .ok (.string ⟨#[97]⟩) w := by kernel_rfl
theorem s6_1 (w : World) : (Instr.sliceAt 9 (.string ⟨#[97, 98, 99, 100, 101, 102]⟩) (some (.int .i64 1)) (some (.int .i64 2)) none).run Tryz.prog w = .ok (.string ⟨#[98]⟩) w := by kernel_rfl
theorem s6_2 (w : World) : (Instr.sliceAt 9 (.string ⟨#[97, 98, 99, 100, 101, 102]⟩) (some (.int .i64 2)) (some (.int .i64 3)) none).run Tryz.prog w = .ok (.string ⟨#[99]⟩) w := by kernel_rfl
theorem s6_3 (w : World) : (Instr.sliceAt 9 (.string ⟨#[97, 98, 99, 100, 101, 102]⟩) (some (.int .i64 3)) (some (.int .i64 4)) none).run Tryz.prog w = .ok (.string ⟨#[100]⟩) w := by kernel_rfl
theorem s6_4 (w : World) : (Instr.sliceAt 9 (.string ⟨#[97, 98, 99, 100, 101, 102]⟩) (some (.int .i64 4)) (some (.int .i64 5)) none).run Tryz.prog w = .ok (.string ⟨#[101]⟩) w := by kernel_rfl
theorem s6_5 (w : World) : (Instr.sliceAt 9 (.string ⟨#[97, 98, 99, 100, 101, 102]⟩) (some (.int .i64 5)) (some (.int .i64 6)) none).run Tryz.prog w = .ok (.string ⟨#[102]⟩) w := by kernel_rfl
theorem slice6 (i : Nat) (h : i < 6) (w : World) : (Instr.sliceAt 9 (.string ⟨#[97, 98, 99, 100, 101, 102]⟩) (some (.int .i64 (i : Int))) (some (.int .i64 ((i : Int) + 1))) none).run Tryz.prog w = .ok (.string ⟨#[UInt8.ofNat (97 + i)]⟩) w := by
  have : i = 0 ∨ i = 1 ∨ i = 2 ∨ i = 3 ∨ i = 4 ∨ i = 5 := by omega
  rcases this with rfl | rfl | rfl | rfl | rfl | rfl
  · exact s6_0 w
  · exact s6_1 w
  · exact s6_2 w
  · exact s6_3 w
  · exact s6_4 w
  · exact s6_5 w
theorem B8_snoc (L : List UInt8) (c : UInt8) : B8 L ++ (⟨#[c]⟩ : ByteArray) = B8 (L ++ [c]) := by
  apply ByteArray.ext
  simp [B8]
set_option maxRecDepth 100000 in
set_option maxHeartbeats 4000000 in
theorem ext_step (ls : List (Tm × Tm)) (n : Nat) (ih : ExtOk ls n) : ExtOk ls (n + 1) := by
  intro L w bo bl be AL cL h6 hnd hc6 hS
  obtain ⟨F, hF⟩ : ∃ F : UInt8 → Option (List UInt8), F = fun c => if L.any (fun x => x == c) then none else extO ls n (L ++ [c]) := ⟨_, rfl⟩
  have hex : extO ls (n + 1) L = c6.findSome? F := by rw [hF]; rfl
  obtain ⟨R, hR⟩ : ∃ R, R = extO ls (n + 1) L := ⟨_, rfl⟩
  rw [← hR] at hex ⊢
  have hsz : (B8 L).size = L.length := B8_size L
  have hl6 : ¬ L.length = 6 := by omega
  have hl62 : ((L.length : Int) == 6) = false := beq_eq_false_iff_ne.2 (by omega)
  have HP := Aside0.mk (And.intro hS (And.intro h6 (And.intro hnd (And.intro hc6 (And.intro hex (And.intro hF ih))))))
  have hle : L.length ≤ 6 := by omega
  obtain ⟨p, hp⟩ : ∃ p, p = B8 L := ⟨_, rfl⟩
  rw [← hp] at hsz ⊢
  have HPP := Aside0.mk hp
  clear hS h6 hnd hc6 hex hF ih hR hp hl6
  go_enter Tryz.func86, Tryz.ntmps86
  go_wp2
  go_loopw [16] (fun v16 wr => ∃ i : Nat, v16 = .int .i64 (i : Int) ∧ Aside0 (i ≤ 6) ∧ Aside0 ((c6.take i).findSome? F = none) ∧ Aside0 (But bo w wr ∧ ∃ o, wr.heap[bo]? = some (.cells #[.string o] 9 (0, 0)))) (fun v16 _ => 6 - (intOf v16).toNat)
  case atStart => exact ⟨0, rfl, ⟨Nat.zero_le _⟩, ⟨rfl⟩, ⟨But.refl _ _, HP.out.1.1⟩⟩
  case round =>
    obtain ⟨i, rfl, HI, HA, HB⟩ := hrel
    obtain ⟨hS, h6, hnd, hc6, hex, hF, ih⟩ := HP.out
    have hp := HPP.out
    by_cases hlt : i < 6
    · have hlb : decide ((i : Int) < 6) = true := decide_eq_true (by omega)
      have hi6 : i < c6.length := by simpa [c6] using hlt
      obtain ⟨c, hc⟩ : ∃ c, c = UInt8.ofNat (97 + i) := ⟨_, rfl⟩
      have hcc : c6[i] = c := by rw [hc]; exact c6_at i hi6
      have hcm : c ∈ c6 := by rw [← hcc]; exact List.getElem_mem hi6
      have hsl := slice6 i hlt
      rw [← hc] at hsl
      have hsn : (c6.take (i + 1)).findSome? F = F c := by
        rw [List.take_succ_eq_append_getElem hi6, List.findSome?_append, HA.out, hcc]
        simp
      have htr : ∀ q, F c = some q → R = some q := fun q hq => by
        rw [hex, ← List.take_append_drop (i + 1) c6, List.findSome?_append, hsn, hq]
        rfl
      have hSr := hS.but HB.out.1 HB.out.2
      obtain ⟨wb, hwb⟩ : ∃ wb, wb = Lib.bytesWorld wr 5 p := ⟨_, rfl⟩
      obtain ⟨cp, hcp⟩ : ∃ cp, cp = grownCap wr p.size 0 5 := ⟨_, rfl⟩
      have hbw : Below wr.heap.size wr wb := by rw [hwb]; exact below_bytes wr 5 p
      have hcv : (convert 9 124 (.string p)).run Tryz.prog wr = .ok (.slice (some ⟨wr.heap.size, 0, none⟩) L.length cp) wb := by
        have := Lib.run_convert_string_bytes (P := Tryz.prog) wr 9 124 5 p Tryz.underlying9 Tryz.underlying124 Tryz.underlying5
        rw [← hwb, ← hcp, hsz] at this
        exact this
      have hcb := containsB_calls L c (some ⟨wr.heap.size, 0, none⟩) cp wb (fun j hj => ⟨_, rfl, by
        have h1 := Lib.bytesWorld_cell wr 5 p j (by rw [hsz]; exact hj)
        rw [← hwb] at h1
        have h2 : p.data.toList.getD j 0 = L[j] := by
          rw [hp, B8_list, List.getD_eq_getElem?_getD, List.getElem?_eq_getElem hj]
          rfl
        rw [h2] at h1
        have h3 : (⟨wr.heap.size, 0, none⟩ : Addr).add j = ⟨wr.heap.size, j, none⟩ := by unfold Addr.add; simp; omega
        rw [h3]
        exact h1⟩) (by omega)
      have hSb : ESt wb ls bo bl be AL cL := hSr.but (But.of_below hbw) ⟨_, (hbw.block _ (Array.getElem?_eq_some_iff.1 HB.out.2.choose_spec).1).trans HB.out.2.choose_spec⟩
      have hx0 : wb.cell? ⟨be, 0, none⟩ = some (.func (.func 86) #[] #[.pointer (some ⟨bo, 0, none⟩), .pointer (some ⟨bl, 0, none⟩), .pointer (some ⟨be, 0, none⟩)]) := blk_cell hSb.2.2.1 0
      have w1i : wrap64 ((i : Int) + 1) = (i : Int) + 1 := wrp i (by omega)
      have hcat : p ++ (⟨#[c]⟩ : ByteArray) = B8 (L ++ [c]) := by rw [hp]; exact B8_snoc L c
      have hFc : F c = if L.any (fun x => x == c) then none else extO ls n (L ++ [c]) := by rw [hF]
      have hbo : But bo w wb := HB.out.1.trans (But.of_below hbw)
      cases hct : L.any (fun x => x == c) with
      | true =>
        rw [hct] at hcb hFc
        have HC := Aside0.mk hcb
        have HN : Aside0 (((c6.take (i + 1)).findSome? F = none) ∧ But bo w wb ∧ ∃ o, wb.heap[bo]? = some (.cells #[.string o] 9 (0, 0))) := ⟨hsn.trans hFc, hbo, hSb.1⟩
        clear hS h6 hnd hc6 hex hF ih hp hcc hcm hsn htr hSr hbw hcb hSb hFc hbo hct hwb hcp hc hi6 HA HB
        go_wp2_with (go_at_call 89; refine HC.out.mono ?_; rintro e w2 ⟨rfl, h2⟩; subst w2)
        try rw [w1i]
        refine ⟨⟨i + 1, by first | rfl | simp, ⟨hlt⟩, ⟨HN.out.1⟩, ⟨HN.out.2⟩⟩, ?_⟩
        simp only [intOf]
        clear w1i
        omega
      | false =>
        have hnm : c ∉ L := fun hm => by
          have : L.any (fun x => x == c) = true := List.any_eq_true.2 ⟨c, hm, by simp⟩
          rw [hct] at this
          cases this
        have hcall := ih (L ++ [c]) wb bo bl be AL cL (by rw [List.length_append]; simp; omega) (by rw [List.nodup_append]; exact ⟨hnd, by simp, fun a ha b hb e => hnm (by rw [List.mem_singleton] at hb; rw [← hb, ← e]; exact ha)⟩) (fun x hx => by
          rcases List.mem_append.1 hx with hx | hx
          · exact hc6 x hx
          · rw [List.mem_singleton] at hx; rw [hx]; exact hcm) hSb
        rw [hct] at hcb hFc
        have hFc2 : F c = extO ls n (L ++ [c]) := hFc
        rw [← hcat] at hcall
        obtain ⟨R2, hR2⟩ : ∃ R2, R2 = extO ls n (L ++ [c]) := ⟨_, rfl⟩
        rw [← hR2] at hcall hFc2
        have HC := Aside0.mk hcb
        have HX := Aside0.mk hcall
        have HN : Aside0 (((c6.take (i + 1)).findSome? F = R2) ∧ (∀ q, R2 = some q → R = some q) ∧ But bo w wb) := ⟨hsn.trans hFc2, fun q hq => htr q (hFc2.trans hq), hbo⟩
        clear hS h6 hnd hc6 hex hF ih hp hcc hcm hsn htr hSr hbw hcb hSb hFc hbo hct hwb hcp hc hi6 hcall hFc2 hR2 hnm HA HB hcat
        cases R2 with
        | some q =>
          go_wp2_with (first | (go_at_call 89; refine HC.out.mono ?_; rintro e w2 ⟨rfl, h2⟩; subst w2) | (go_at_call 86; refine HX.out.mono ?_; rintro e w3 ⟨rfl, hb3, o3, ho3, hq3⟩; have H3 := Aside0.mk (And.intro hb3 (And.intro ho3 hq3)); clear hb3 ho3 hq3))
          go_ret
          have hRq := HN.out.2.1 q rfl
          refine ⟨by rw [hRq]; rfl, HN.out.2.2.trans H3.out.1, o3, H3.out.2.1, fun q' hq' => ?_⟩
          rw [hRq] at hq'
          exact H3.out.2.2 q' hq'
        | none =>
          go_wp2_with (first | (go_at_call 89; refine HC.out.mono ?_; rintro e w2 ⟨rfl, h2⟩; subst w2) | (go_at_call 86; refine HX.out.mono ?_; rintro e w3 ⟨rfl, hb3, o3, ho3, hq3⟩; have H3 := Aside0.mk (And.intro hb3 (And.intro ho3 hq3)); clear hb3 ho3 hq3))
          try rw [w1i]
          refine ⟨⟨i + 1, by first | rfl | simp, ⟨hlt⟩, ⟨HN.out.1⟩, ⟨HN.out.2.2.trans H3.out.1, o3, H3.out.2.1⟩⟩, ?_⟩
          simp only [intOf]
          clear w1i
          omega
    · have hlb : decide ((i : Int) < 6) = false := decide_eq_false (by omega)
      have hi : i = 6 := by have := HI.out; omega
      subst hi
      have hno : R = none := by
        rw [hex]
        exact HA.out
      have HN := Aside0.mk (And.intro hno HB.out)
      clear hS h6 hnd hc6 hex hF ih hp hno HA HB
      go_wp2
      go_ret
      obtain ⟨hno, hb, o, ho⟩ := HN.out
      rw [hno]
      exact ⟨rfl, hb, o, ho, fun q hq => by cases hq⟩
theorem ext_calls (ls : List (Tm × Tm)) (hls : LawsGood ls) (hln : ls.length ≤ 1000) : ∀ n, ExtOk ls n
  | 0 => ext_base ls hls hln
  | n + 1 => ext_step ls n (ext_calls ls hls hln n)
def orientT (rs : List S94) : Int × ByteArray :=
  match newLawsT rs with
  | none => (2, ⟨#[]⟩)
  | some ls => match extO ls 6 [] with
    | none => (6, ⟨#[]⟩)
    | some q => (0, B8 q)
theorem enters85 : ∀ args w, (callFunc 85 args).run Tryz.prog w = .ok (.enter 85 args) w := fun args w => enters_ Tryz.func85 (by kernel_rfl) rfl args w
def StrAt (w' : World) (bo : Nat) (r : Int × ByteArray) : Prop := ∃ o, w'.heap[bo]? = some (.cells #[.string o] 9 (0, 0)) ∧ (r.1 = 0 → o = r.2)
set_option maxRecDepth 100000 in
set_option maxHeartbeats 1000000 in
theorem orient1_calls (rs : List S94) (A0 : Option Addr) (c0 b0 bo : Nat) (o : ByteArray) (w : World) (hC0 : Kd.C k94 w A0 rs.length rs) (hb0 : w.heap[b0]? = some (.cells #[.slice A0 rs.length c0] 35 (0, 0))) (hbo : w.heap[bo]? = some (.cells #[.string o] 9 (0, 0))) :
    Calls Tryz.prog 85 #[.pointer (some ⟨b0, 0, none⟩), .pointer (some ⟨bo, 0, none⟩)] w fun e w' => e = endE (orientT rs).1 ∧ But bo w w' ∧ StrAt w' bo (orientT rs) := by
  have hx0 := blk_cell hb0 0
  have hnl := newLaws_calls rs A0 c0 w hC0
  cases hL : newLawsT rs with
  | none =>
    have e : orientT rs = (2, ⟨#[]⟩) := by unfold orientT; rw [hL]
    rw [e]
    rw [hL] at hnl
    have HC := Aside0.mk hnl
    have HB := Aside0.mk hbo
    clear hnl hC0 hb0 hbo hL e
    go_enter Tryz.func85, Tryz.ntmps85
    go_wp2_with (go_at_call 77; refine HC.out.mono ?_; rintro e w1 ⟨hb, rfl⟩; have H1 := Aside0.mk hb; clear hb)
    exact ⟨rfl, rfl, But.of_below H1.out, o, blk_below HB.out H1.out, fun h => by cases h⟩
  | some ls =>
    have hlg := newLawsT_good hL
    rw [hL] at hnl
    have hext := ext_calls ls hlg.1 (by omega) 6 [] 
    have hor : orientT rs = ((match extO ls 6 [] with | none => (6, ⟨#[]⟩) | some q => (0, B8 q) : Int × ByteArray)) := by unfold orientT; rw [hL]
    obtain ⟨R, hR⟩ : ∃ R, R = extO ls 6 [] := ⟨_, rfl⟩
    rw [← hR] at hext hor
    rw [hor]
    clear hor
    have HC := Aside0.mk hnl
    have HB := Aside0.mk (And.intro hbo (Array.getElem?_eq_some_iff.1 hbo).1)
    have HX := Aside0.mk hext
    have e0 : B8 [] = ⟨#[]⟩ := rfl
    clear hnl hC0 hb0 hbo hL hR hext hlg
    cases R with
    | some q =>
      go_enter Tryz.func85, Tryz.ntmps85
      go_wp2_with (first
        | (go_at_call 77; refine HC.out.mono ?_; rintro e w1 ⟨hb, A2, c2, rfl, hW⟩; have H1 := Aside0.mk (And.intro hb hW); clear hb hW)
        | (go_at_call 86; refine (HX.out _ bo _ _ A2 c2 rfl List.nodup_nil (fun x hx => by cases hx) ⟨⟨o, blk_alloc (blk_alloc (blk_below HB.out.1 H1.out.1) _) _⟩, blk_alloc (blk_new w1 _) _, blk_new1' w1 _ _, (H1.out.2.step (ok' := fun k => k ≠ bo) (fun k hk hl => ⟨by have := HB.out.2; omega, rfl⟩)).below (below_alloc (below_alloc (Below.refl _ _) _) _)⟩).mono ?_; rintro e w4 ⟨rfl, hb4, o4, ho4, hq4⟩; have H4 := Aside0.mk (And.intro ((But.of_below (H1.out.1.trans ((below_alloc (below_alloc (Below.refl w1.heap.size w1) _) _).mono H1.out.1.size))).trans hb4) (And.intro ho4 hq4)); clear hb4 ho4 hq4)
        | (go_at_call 67; refine (demand_ok 6 _).mono ?_; rintro e w8 ⟨rfl, h8⟩; subst w8))
      simp [bodyPost, results, Tryz.results85]
      exact ⟨rfl, H4.out.1, o4, H4.out.2.1, fun _ => H4.out.2.2 q rfl⟩
    | none =>
      go_enter Tryz.func85, Tryz.ntmps85
      go_wp2_with (first
        | (go_at_call 77; refine HC.out.mono ?_; rintro e w1 ⟨hb, A2, c2, rfl, hW⟩; have H1 := Aside0.mk (And.intro hb hW); clear hb hW)
        | (go_at_call 86; refine (HX.out _ bo _ _ A2 c2 rfl List.nodup_nil (fun x hx => by cases hx) ⟨⟨o, blk_alloc (blk_alloc (blk_below HB.out.1 H1.out.1) _) _⟩, blk_alloc (blk_new w1 _) _, blk_new1' w1 _ _, (H1.out.2.step (ok' := fun k => k ≠ bo) (fun k hk hl => ⟨by have := HB.out.2; omega, rfl⟩)).below (below_alloc (below_alloc (Below.refl _ _) _) _)⟩).mono ?_; rintro e w4 ⟨rfl, hb4, o4, ho4, hq4⟩; have H4 := Aside0.mk (And.intro ((But.of_below (H1.out.1.trans ((below_alloc (below_alloc (Below.refl w1.heap.size w1) _) _).mono H1.out.1.size))).trans hb4) (And.intro ho4 hq4)); clear hb4 ho4 hq4)
        | (go_at_call 67; refine (demand_no 6 _).mono ?_; rintro e w8 ⟨rfl, h8⟩; subst w8))
      exact ⟨rfl, rfl, H4.out.1, o4, H4.out.2.1, fun h => by cases h⟩
set_option maxRecDepth 100000 in
theorem orient_calls (rs : List S94) (A0 : Option Addr) (c0 : Nat) (w : World) (hC0 : Kd.C k94 w A0 rs.length rs) :
    Calls Tryz.prog 36 #[.slice A0 rs.length c0] w fun e w' => e = .returned (.tuple #[.string (orientT rs).2, .int .i64 (orientT rs).1]) ∧ Below w.heap.size w w' := by
  obtain ⟨r, l, hv⟩ : ∃ r l, orientT rs = (r, l) := ⟨_, _, rfl⟩
  have hzl : r ≠ 0 → l = ⟨#[]⟩ := by
    intro hr
    unfold orientT at hv
    split at hv
    · injection hv with h1 h2
      exact h2.symm
    · split at hv
      · injection hv with h1 h2
        exact h2.symm
      · injection hv with h1 h2
        exact absurd h1.symm hr
  have h1 := fun b0 bo o w' hC => orient1_calls rs A0 c0 b0 bo o w' hC
  rw [hv] at h1 ⊢
  dsimp only at h1 ⊢
  obtain ⟨w3, hw3⟩ : ∃ w3, w3 = (w.alloc (.cells #[.slice A0 rs.length c0] 35)).alloc (.cells #[.string ⟨#[]⟩] 9) := ⟨_, rfl⟩
  have hB3 : Below w.heap.size w w3 := by rw [hw3]; exact below_alloc (below_alloc (Below.refl _ _) _) _
  have hsz : w3.heap.size = w.heap.size + 2 := by rw [hw3]; simp
  have hk0 : w3.heap[w.heap.size]? = some (.cells #[.slice A0 rs.length c0] 35 (0, 0)) := by rw [hw3]; exact blk_alloc (blk_new w _) _
  have hk1 : w3.heap[w.heap.size + 1]? = some (.cells #[.string ⟨#[]⟩] 9 (0, 0)) := by rw [hw3]; exact blk_new1' w _ _
  have hg := guard_keeps 85 enters85 #[.pointer (some ⟨w.heap.size, 0, none⟩), .pointer (some ⟨w.heap.size + 1, 0, none⟩)] w3 (fun c w1 => c = r ∧ But (w.heap.size + 1) w3 w1 ∧ StrAt w1 (w.heap.size + 1) (r, l)) ((h1 w.heap.size (w.heap.size + 1) ⟨#[]⟩ (w3.alloc (.cells #[.int .i64 0] 26)) (Kd.C_below hC0 (below_alloc hB3 _)) (blk_alloc hk0 _) (blk_alloc hk1 _)).mono (fun e w1 hh => by
    obtain ⟨rfl, hb, hv1⟩ := hh
    have hbt : But (w.heap.size + 1) w3 w1 := (But.of_below (below_alloc (Below.refl _ _) _)).trans hb
    refine ⟨(hb.block _ (by simp) (by omega)).trans (blk_new w3 _), ?_⟩
    by_cases hr : r = 0
    · subst hr
      exact .inl ⟨rfl, rfl, hbt, hv1⟩
    · exact .inr ⟨r, endE_no hr, rfl, hbt, hv1⟩))
  have HG := Aside0.mk hg
  have HB := Aside0.mk hB3
  have HZ := Aside0.mk hsz
  have HL := Aside0.mk hzl
  clear hg hB3 hsz hk0 hk1 hC0 h1 hv hzl
  subst hw3
  by_cases hr0 : r = 0
  · subst hr0
    go_enter Tryz.func36, Tryz.ntmps36
    go_wp2_with (go_at_call 65; refine HG.out.mono ?_; rintro e w1 ⟨c, w2, rfl, ⟨rfl, hb, o, hv1, hv3⟩, hb2⟩; have hv2 := (hb2.block _ (Array.getElem?_eq_some_iff.1 hv1).1 (by have := HZ.out; omega)).trans hv1; have hz0 := blk_frozen hv2 0; have hd0 : w1.cell? ⟨w.heap.size + 1, 0, none⟩ = some (.string o) := blk_cell hv2 0; have HH := Aside0.mk (And.intro hb (And.intro hb2 (And.intro hv2 hv3))); clear hb hb2 hv2 hv3)
    have hz := HZ.out
    have b1 := HB.out
    obtain ⟨b2, b3, hv2, hv3⟩ := HH.out
    have b4 : Below w.heap.size w w1 := (b1.trans (b2.below (Nat.le_add_right _ _) (by omega))).trans (b3.below (by omega) (by have := b2.size; omega))
    have hv9 : (w1.setCell ⟨w.heap.size + 1, 0, none⟩ (.string o)).heap[w.heap.size + 1]? = some (.cells #[.string o] 9 (0, 0)) := blk_setCell hv2 _
    have hcc : (w1.setCell ⟨w.heap.size + 1, 0, none⟩ (.string o)).cell? ⟨w.heap.size + 1, 0, none⟩ = some (.string o) := blk_cell hv9 0
    have b5 : Below w.heap.size w (w1.setCell ⟨w.heap.size + 1, 0, none⟩ (.string o)) := below_set b4 (by omega)
    have hol : o = l := by first | exact hv3 rfl | exact hv3 trivial | exact hv3
    generalize w1.setCell ⟨w.heap.size + 1, 0, none⟩ (.string o) = w9 at *
    simp [bodyPost, results, Tryz.results36, go_sem, hcc]
    exact ⟨hol, b5⟩
  · have hrb : (r != 0) = true := by simp [hr0]
    go_enter Tryz.func36, Tryz.ntmps36
    go_wp2_with (go_at_call 65; refine HG.out.mono ?_; rintro e w1 ⟨c, w2, rfl, ⟨rfl, hb, o, hv1, hv3⟩, hb2⟩; have hv2 := (hb2.block _ (Array.getElem?_eq_some_iff.1 hv1).1 (by have := HZ.out; omega)).trans hv1; have hz0 := blk_frozen hv2 0; have hd0 : w1.cell? ⟨w.heap.size + 1, 0, none⟩ = some (.string o) := blk_cell hv2 0; have HH := Aside0.mk (And.intro hb (And.intro hb2 (And.intro hv2 hv3))); clear hb hb2 hv2 hv3)
    have hz := HZ.out
    have b1 := HB.out
    obtain ⟨b2, b3, hv2, hv3⟩ := HH.out
    have b4 : Below w.heap.size w w1 := (b1.trans (b2.below (Nat.le_add_right _ _) (by omega))).trans (b3.below (by omega) (by have := b2.size; omega))
    have hv9 : (w1.setCell ⟨w.heap.size + 1, 0, none⟩ (.string ⟨#[]⟩)).heap[w.heap.size + 1]? = some (.cells #[.string ⟨#[]⟩] 9 (0, 0)) := blk_setCell hv2 _
    have hcc : (w1.setCell ⟨w.heap.size + 1, 0, none⟩ (.string ⟨#[]⟩)).cell? ⟨w.heap.size + 1, 0, none⟩ = some (.string ⟨#[]⟩) := blk_cell hv9 0
    have b5 : Below w.heap.size w (w1.setCell ⟨w.heap.size + 1, 0, none⟩ (.string ⟨#[]⟩)) := below_set b4 (by omega)
    have hol : ⟨#[]⟩ = l := (HL.out hr0).symm
    generalize w1.setCell ⟨w.heap.size + 1, 0, none⟩ (.string ⟨#[]⟩) = w9 at *
    simp [bodyPost, results, Tryz.results36, go_sem, hcc]
    exact ⟨hol, b5⟩
end Go.Proofs.YtaafeallcaiooaaGreat.Pr
