import Derived.Test.YthngclneffngbaaHReg9
import Derived.RangeFuncNested
import Derived.RangeFuncBound
import Derived.RangeFuncCalls
import Derived.RangeFuncLeaves
import Derived.Shelf.Abstract
import Derived.Shelf.RegionOpen
import Derived.WalkKit
import Derived.OwnWalkIn
import Derived.TacticsInMore
import Derived.LoopNIn
import Derived.LoopIn
import Derived.Sort.CutIn
namespace Go.Proofs.Ythngclneffngbaa.Pr
open Go.RowKit Go.Shelf Go.Proofs.YthngclneffngbaaW.PrintWords Go.Proofs.YthngclneffngbaaW.PrintLast Go.Proofs.YthngclneffngbaaW.PrintMore
attribute [local go_sem] Oper.semAt_some
set_option linter.unusedVariables false
set_option linter.unusedSimpArgs false

theorem drew_drewN (w : World) (m : Nat) : w.drew.drewN m = w.drewN (1 + m) := by
  rw [show w.drew = w.drewN 1 from rfl, World.drewN_drewN]
/-- a place, how far off, and whether the open count is meant -/
abbrev Wit := Int × Int × Int × Bool
def encW (t : Wit) : Array Value := #[.agg #[.int .i64 t.1, .int .i64 t.2.1, .int .i64 t.2.2.1, .bool t.2.2.2]]
def witAt (s n : Int) (g : Int → Int → Int) (x y : Int) : List Wit :=
  (if 0 < x ∧ 0 < y then [(x, y, offS s n (g x y) x y, true)] else []) ++ (if x < s ∧ y < s then [(x, y, offS s n (g (x + 1) (y + 1)) x y, false)] else [])
def witRow (s n : Int) (g : Int → Int → Int) (x : Int) : Nat → List Wit
  | 0 => []
  | k + 1 => witRow s n g x k ++ witAt s n g x k
def witAll (s n : Int) (g : Int → Int → Int) : Nat → List Wit
  | 0 => []
  | k + 1 => witAll s n g k ++ witRow s n g k (s + 1).toNat
theorem witAt_len (s n : Int) (g : Int → Int → Int) (x y : Int) : (witAt s n g x y).length ≤ 2 := by
  unfold witAt
  split <;> split <;> simp
theorem witRow_len (s n : Int) (g : Int → Int → Int) (x : Int) : ∀ k, (witRow s n g x k).length ≤ 2 * k
  | 0 => by simp [witRow]
  | k + 1 => by
    have := witRow_len s n g x k
    have := witAt_len s n g x k
    rw [witRow, List.length_append]
    omega
theorem witAll_len (s n : Int) (g : Int → Int → Int) : ∀ k, (witAll s n g k).length ≤ k * (2 * (s + 1).toNat)
  | 0 => by simp [witAll]
  | k + 1 => by
    have := witAll_len s n g k
    have := witRow_len s n g k (s + 1).toNat
    rw [witAll, List.length_append, Nat.add_mul]
    omega

/-- WHAT A ROUND KEEPS: all cells but those of block c. -/
structure KC (c : Nat) (A B : World) : Prop where
  size : A.heap.size ≤ B.heap.size
  same : ∀ k o, A.heap[k]? = some o → o.isCells = true → k ≠ c → B.heap[k]? = some o
theorem KC.refl (c : Nat) (A : World) : KC c A A := ⟨Nat.le_refl _, fun _ _ h _ _ => h⟩
theorem KC.trans {c : Nat} {A B C : World} (h : KC c A B) (k : KC c B C) : KC c A C := ⟨Nat.le_trans h.size k.size, fun j o hj hc hn => k.same j o (h.same j o hj hc hn) hc hn⟩
theorem KC.below {c : Nat} {A B : World} (h : Below A.heap.size A B) : KC c A B := ⟨h.size, fun k o hk _ _ => (h.block k (Array.getElem?_eq_some_iff.1 hk).1).trans hk⟩
theorem KC.putObj {c : Nat} {w : World} (W : World) (l : Nat) (o o' : Obj) (_ : w.heap.size ≤ l) (h : W.heap[l]? = some o) (hc : o.isCells = false) (_ : o.isWalk = false) : KC c W (W.putObj l o') :=
  ⟨by simp, fun k ok hk hck _ => by
    have : k ≠ l := by
      intro e
      subst e
      rw [h] at hk
      cases hk
      rw [hc] at hck
      cases hck
    exact (World.putObj_heap_other (fun e => this (by first | exact e | exact e.symm))).trans hk⟩
theorem KC.blk {c : Nat} {A B : World} (h : KC c A B) {k : Nat} {cs : Array Value} {t : TypeId} {fr : Nat × Nat} (hk : A.heap[k]? = some (.cells cs t fr)) (hn : k ≠ c) : B.heap[k]? = some (.cells cs t fr) := h.same k _ hk rfl hn
theorem grown_of_below {A B : World} (h : Below A.heap.size A B) : A.grownBy B none := ⟨h.os, h.tape, h.output, h.size, fun k hk _ => h.block k hk⟩
theorem abides_below {β : Type} {B0 : Nat} {J : β → World → Prop} (hJ : AbidesFrom B0 J) {s : β} {A B : World} (h : J s A) (hb : Below A.heap.size A B) : J s B :=
  hJ s A B none h (grown_of_below hb) (fun r e => by cases e)
theorem yieldAt_mono {F : Fence} {m : Nat} {P : Program} {l : Nat} {args : Array Value} {W : World} {R R' : Ending → World → Prop} (h : YieldAt F m P l args W R) (hr : ∀ e w, R e w → R' e w) : YieldAt F m P l args W R' := by
  obtain ⟨fn, tmps, assign, body, h1, h2⟩ := h
  exact ⟨fn, tmps, assign, body, h1, h2.mono hr⟩

/-- what the iterator reads -/
structure ShBox (W : World) (bs bo b : Nat) (s : Int) (l : List S50) : Prop where
  hs : W.heap[bs]? = some (.cells #[.pointer (some ⟨b, 0, none⟩)] 98 (0, 0))
  ho : W.heap[bo]? = some (.cells #[.func (.func 75) #[] #[.pointer (some ⟨bs, 0, none⟩)]] 49 (0, 0))
  hb : IsSheet W b s l
theorem ShBox.kc {W W' : World} {bs bo b c : Nat} {s : Int} {l : List S50} (h : ShBox W bs bo b s l) (k : KC c W W') (h1 : bs ≠ c) (h2 : bo ≠ c) (h3 : b ≠ c) : ShBox W' bs bo b s l :=
  ⟨k.blk h.hs h1, k.blk h.ho h2, k.blk h.hb h3⟩
theorem ShBox.below {W W' : World} {bs bo b : Nat} {s : Int} {l : List S50} (h : ShBox W bs bo b s l) (k : Below W.heap.size W W') : ShBox W' bs bo b s l :=
  ⟨blk_below h.hs k, blk_below h.ho k, blk_below h.hb k⟩

set_option maxRecDepth 100000 in
set_option maxHeartbeats 8000000 in
theorem sheet_stops (m bs bo b c : Nat) (s : Int) (l : List S50) (hok : okSheet s l = true) (h1 : bs ≠ c) (h2 : bo ≠ c) (h3 : b ≠ c) (w : World) (hcw : c < w.heap.size) (hB : ShBox w bs bo b s l) :
    SeqStopsK Fence.wide m Try.prog 76 #[.pointer (some ⟨bs, 0, none⟩), .pointer (some ⟨bo, 0, none⟩)] encW (KC c) (fun ys => ys = witAll s l.length (cnt2 l) (s + 1).toNat) (fun _ => True) 30000 w := fun l' J Jx W hW hJ hJx hY h0 => by
  obtain ⟨⟨s0, s1⟩, ⟨n0, n1⟩, hpts⟩ := okSheet_bounds hok
  have hmix : Try.prog.follows .mixedOrders = true := by kernel_rfl
  have HB := Lib.hid (hB.below hW)
  have HP := Lib.hid hpts
  have hcW : c < W.heap.size := by have := hW.size; omega
  clear hB hpts hok hW
  refine callsIn_of_wp Try.func76 rfl trivial ?_ rfl
  simp only [Try.ntmps76, List.size_toArray, List.length_cons, List.length_nil, Nat.reduceAdd, Nat.reduceSub, Array.replicate_succ, Array.replicate_zero, List.push_toArray, List.append_toArray, List.nil_append, List.cons_append]
  have a0 := blk_cell HB.out.hs 0
  have a1 := SheetAt.scale HB.out.hb
  have z1 : wrap64 (s + 1) = s + 1 := by unfold wrap64; omega
  gi_wp2
  gi_loopw [12] (fun i wr => ∃ x : Int, 0 ≤ x ∧ x ≤ s + 1 ∧ i = .int .i64 x ∧ J (witAll s l.length (cnt2 l) x.toNat) wr ∧ KC c W wr) (fun i _ => (s + 1).toNat - (intOf i).toNat)
  case atStart => exact ⟨0, by omega, by omega, rfl, h0, KC.refl _ _⟩
  case round =>
    obtain ⟨x, hx0, hx1, rfl, hj, hk⟩ := hrel
    have HJ := Lib.hid hj
    have HK := Lib.hid hk
    clear hj hk
    by_cases hlt : x < s + 1
    · have hb1 := HB.out.kc HK.out h1 h2 h3
      have b0 := blk_cell hb1.hs 0
      have b1 := SheetAt.scale hb1.hb
      clear hb1
      gi_wp2
      gi_loopw [20] (fun i w2 => ∃ y : Int, 0 ≤ y ∧ y ≤ s + 1 ∧ i = .int .i64 y ∧ J (witAll s l.length (cnt2 l) x.toNat ++ witRow s l.length (cnt2 l) x y.toNat) w2 ∧ KC c W w2) (fun i _ => (s + 1).toNat - (intOf i).toNat)
      case atStart => exact ⟨0, by omega, by omega, rfl, by simpa [witRow] using HJ.out, HK.out⟩
      case round =>
        obtain ⟨y, hy0, hy1, rfl, hj, hk⟩ := hrel
        have HJ2 := Lib.hid hj
        have HK2 := Lib.hid hk
        clear hj hk b0 b1
        by_cases hyl : y < s + 1
        · have hb1 := HB.out.kc HK2.out h1 h2 h3
          have b0 := blk_cell hb1.hs 0
          have b1 := SheetAt.scale hb1.hb
          clear hb1
          gi_upto_region 7 with fail
          obtain ⟨pre, hpre⟩ : ∃ pre, pre = witAll s l.length (cnt2 l) x.toNat ++ witRow s l.length (cnt2 l) x y.toNat := ⟨_, rfl⟩
          rw [← hpre] at HJ2
          have hlen : pre.length + 2 < 30000 := by
            have e1 := witAll_len s l.length (cnt2 l) x.toNat
            have e2 := witRow_len s l.length (cnt2 l) x y.toNat
            have e3 : x.toNat * (2 * (s + 1).toNat) ≤ 101 * 202 := Nat.mul_le_mul (by omega) (by omega)
            rw [hpre, List.length_append]
            omega
          have HPRE := Lib.hid hpre
          have HLEN := Lib.hid hlen
          clear hpre hlen b0 b1
          obtain ⟨W1, hW1⟩ : ∃ W1, W1 = wr.alloc (.cells #[.int .i64 x, .int .i64 y] 50) := ⟨_, rfl⟩
          obtain ⟨q, hq⟩ : ∃ q, q = wr.heap.size := ⟨_, rfl⟩
          have hqb : W1.heap[q]? = some (.cells #[.int .i64 x, .int .i64 y] 50 (0, 0)) := by rw [hW1, hq]; exact blk_new wr _
          have hb1 : Below wr.heap.size wr W1 := hW1 ▸ below_alloc (Below.refl _ _) _
          have hqc : q ≠ c := by have := HK2.out.size; omega
          rw [← hW1, ← hq]
          have HQ := Lib.hid hqb
          have HJ3 := Lib.hid (abides_below hJ HJ2.out hb1)
          have HK3 := Lib.hid (HK2.out.trans (KC.below hb1))
          have HB3 := Lib.hid (HB.out.kc HK3.out h1 h2 h3)
          clear hW1 hq hqb hb1
          have hx0b : x < 102 := by omega
          have hy0b : y < 102 := by omega
          obtain ⟨v, hv⟩ : ∃ v, v = cnt2 l x y := ⟨_, rfl⟩
          have hvb : 0 ≤ v ∧ v ≤ 60 := by have := cnt2_le l x y; omega
          have HV := Lib.hid hv
          clear hv
          gi_cut [50] from 88 (fun v50 wc => (v50 = .bool false ∧ J (pre ++ if 0 < x ∧ 0 < y then [(x, y, offS s l.length v x y, true)] else []) wc ∧ KC c W wc ∧ wc.heap[q]? = some (.cells #[.int .i64 x, .int .i64 y] 50 (0, 0))) ∨ (v50 = .bool true ∧ ∃ p, Jx p wc))
          case first =>
            have d0 := blk_cell HB3.out.hs 0
            have d1 := blk_cell HB3.out.ho 0
            have d2 := SheetAt.cell HB3.out.hb x.toNat y.toNat (by omega) (by omega)
            have d3 := blk_cell HQ.out 0
            have d4 := blk_cell HQ.out 1
            rw [Int.toNat_of_nonneg hx0, Int.toNat_of_nonneg hy0] at d2
            rw [← HV.out] at d2
            by_cases hg : 0 < x ∧ 0 < y
            · obtain ⟨hg1, hg2⟩ := hg
              refine wreg7.run m l' bs bo b q x y v (offS s l.length v x y) s _ _ _ _ _ _ _ _ _ _ _ _ _ _ _ _ _ _ _ _ _ _ _ _ _ _ _ _ _ _ _ _ _ _ _ _ _ _ _ _ _ _ _ _ _ _ _ _ _ _ _ _ _ _ _ _ _ _ _ _ _ _ _ _ _ _ _ _ _ _ _ _ _ _ _ _ _ _ _ _ _ _ W1 _ (fun ok W' => (ok = true ∧ J (pre ++ [(x, y, offS s l.length v x y, true)]) W' ∧ KC c W1 W') ∨ (ok = false ∧ Jx (pre ++ [(x, y, offS s l.length v x y, true)]) W')) (fun _ _ _ _ _ h => h) hg1 hg2 hx0b hy0b hx0 hy0 d0 d1 (SheetAt.scale HB3.out.hb) d2 d3 d4 ?_ ?_ ?_
              · refine callsIn_wide.2 ((soff_any bs b s l.length v x y (fun x y => cnt2 l x y) W1.drew d0 HB3.out.hb (by omega) (by omega) (by omega) (by omega) (by omega)).mono ?_)
                rintro e w' ⟨rfl, md, rfl⟩
                exact ⟨rfl, md, drew_drewN _ _⟩
              · intro w' hb
                refine yieldAt_mono (hY pre (x, y, offS s l.length v x y, true) w' (abides_below hJ HJ3.out hb) (by have := HLEN.out; omega)) ?_
                rintro e W' (⟨rfl, h1, h2⟩ | ⟨rfl, h1⟩)
                · exact ⟨true, rfl, Or.inl ⟨rfl, h1, (KC.below hb).trans h2⟩⟩
                · exact ⟨false, rfl, Or.inr ⟨rfl, h1⟩⟩
              · rintro ok W' (⟨rfl, h1, h2⟩ | ⟨rfl, h1⟩)
                · gi_wp2
                  gi_meet
                  case rel => exact Or.inl ⟨rfl, by rw [if_pos ⟨hg1, hg2⟩]; exact h1, HK3.out.trans h2, h2.blk HQ.out hqc⟩
                · gi_wp2
                  gi_meet
                  case rel => exact Or.inr ⟨rfl, _, h1⟩
            · have hJd := abides_below hJ HJ3.out (below_drew (Below.refl W1.heap.size W1))
              have hKd := HK3.out.trans (KC.below (below_drew (Below.refl W1.heap.size W1)))
              by_cases hgx : 0 < x
              · have hgy : ¬ 0 < y := by omega
                refine wskip7b.run m l' bs bo b q x y s _ _ _ _ _ _ _ _ _ _ _ _ _ _ _ _ _ _ _ _ _ _ _ _ _ _ _ _ _ _ _ _ _ _ _ _ _ _ _ _ _ _ _ _ _ _ _ _ _ _ _ _ _ _ _ _ _ _ _ _ _ _ _ _ _ _ _ _ _ _ _ _ _ _ _ _ _ _ _ _ _ _ W1 _ (fun _ _ _ _ _ h => h) hgx hgy d0 (SheetAt.scale HB3.out.hb) ?_
                gi_wp2
                gi_meet
                case rel => exact Or.inl ⟨rfl, by rw [if_neg hg, List.append_nil]; exact hJd, hKd, HQ.out⟩
              · refine wskip7a.run m l' bs bo b q x y s _ _ _ _ _ _ _ _ _ _ _ _ _ _ _ _ _ _ _ _ _ _ _ _ _ _ _ _ _ _ _ _ _ _ _ _ _ _ _ _ _ _ _ _ _ _ _ _ _ _ _ _ _ _ _ _ _ _ _ _ _ _ _ _ _ _ _ _ _ _ _ _ _ _ _ _ _ _ _ _ _ _ W1 _ (fun _ _ _ _ _ h => h) hgx d0 (SheetAt.scale HB3.out.hb) ?_
                gi_wp2
                gi_meet
                case rel => exact Or.inl ⟨rfl, by rw [if_neg hg, List.append_nil]; exact hJd, hKd, HQ.out⟩
          case rest =>
            rcases hcut with ⟨rfl, hj, hk, hq⟩ | ⟨rfl, p, hjx⟩
            rotate_left
            · gi_wp2
              refine bodyPost_ret (results_none rfl _ _ _) rfl ?_
              exact ⟨⟨_, rfl⟩, .inr ⟨p, trivial, hjx⟩⟩
            obtain ⟨pre2, hpre2⟩ : ∃ pre2, pre2 = pre ++ if 0 < x ∧ 0 < y then [(x, y, offS s l.length v x y, true)] else [] := ⟨_, rfl⟩
            rw [← hpre2] at hj
            have HP2 := Lib.hid hpre2
            have HL2 := Lib.hid (show pre2.length < 30000 - 1 by have := HLEN.out; rw [hpre2, List.length_append]; split <;> simp <;> omega)
            have HJ4 := Lib.hid hj
            have HK4 := Lib.hid hk
            have HQ4 := Lib.hid hq
            have HB4 := Lib.hid (HB.out.kc HK4.out h1 h2 h3)
            clear hpre2 hj hk hq HJ3 HK3 HQ HB3
            gi_upto_region 8 with fail
            obtain ⟨u, hu⟩ : ∃ u, u = cnt2 l (x + 1) (y + 1) := ⟨_, rfl⟩
            have hub : 0 ≤ u ∧ u ≤ 60 := by have := cnt2_le l (x + 1) (y + 1); omega
            have HU := Lib.hid hu
            clear hu
            gi_cut [85] from 88 (fun v85 wc => (v85 = .bool false ∧ J (pre2 ++ if x < s ∧ y < s then [(x, y, offS s l.length u x y, false)] else []) wc ∧ KC c W wc) ∨ (v85 = .bool true ∧ ∃ p, Jx p wc))
            case first =>
              have d0 := blk_cell HB4.out.hs 0
              have d1 := blk_cell HB4.out.ho 0
              have d3 := blk_cell HQ4.out 0
              have d4 := blk_cell HQ4.out 1
              by_cases hg : x < s ∧ y < s
              · obtain ⟨hg1, hg2⟩ := hg
                have d2 := SheetAt.cell HB4.out.hb (x + 1).toNat (y + 1).toNat (by omega) (by omega)
                rw [Int.toNat_of_nonneg (by omega), Int.toNat_of_nonneg (by omega), ← HU.out] at d2
                refine wreg8.run m l' bs bo b q x y u (offS s l.length u x y) s _ _ _ _ _ _ _ _ _ _ _ _ _ _ _ _ _ _ _ _ _ _ _ _ _ _ _ _ _ _ _ _ _ _ _ _ _ _ _ _ _ _ _ _ _ _ _ _ _ _ _ _ _ _ _ _ _ _ _ _ _ _ _ _ _ _ _ _ _ _ _ _ _ _ _ _ _ _ _ _ _ _ wc _ (fun ok W' => (ok = true ∧ J (pre2 ++ [(x, y, offS s l.length u x y, false)]) W' ∧ KC c wc W') ∨ (ok = false ∧ Jx (pre2 ++ [(x, y, offS s l.length u x y, false)]) W')) (fun _ _ _ _ _ h => h) hg1 hg2 (by omega) (by omega) (by omega) (by omega) (by rw [i64_w]; unfold wrap64; omega) (by rw [i64_w]; unfold wrap64; omega) hx0 hy0 d0 d1 (SheetAt.scale HB4.out.hb) d2 d3 d4 ?_ ?_ ?_
                · refine callsIn_wide.2 ((soff_any bs b s l.length u x y (fun x y => cnt2 l x y) wc.drew d0 HB4.out.hb (by omega) (by omega) (by omega) (by omega) (by omega)).mono ?_)
                  rintro e w' ⟨rfl, md, rfl⟩
                  exact ⟨rfl, md, drew_drewN _ _⟩
                · intro w' hb
                  refine yieldAt_mono (hY pre2 (x, y, offS s l.length u x y, false) w' (abides_below hJ HJ4.out hb) (by have := HL2.out; omega)) ?_
                  rintro e W' (⟨rfl, h1, h2⟩ | ⟨rfl, h1⟩)
                  · exact ⟨true, rfl, Or.inl ⟨rfl, h1, (KC.below hb).trans h2⟩⟩
                  · exact ⟨false, rfl, Or.inr ⟨rfl, h1⟩⟩
                · rintro ok W' (⟨rfl, h1, h2⟩ | ⟨rfl, h1⟩)
                  · gi_wp2
                    gi_meet
                    case rel => exact Or.inl ⟨rfl, by rw [if_pos ⟨hg1, hg2⟩]; exact h1, HK4.out.trans h2⟩
                  · gi_wp2
                    gi_meet
                    case rel => exact Or.inr ⟨rfl, _, h1⟩
              · have hJd := abides_below hJ HJ4.out (below_drew (Below.refl wc.heap.size wc))
                have hKd := HK4.out.trans (KC.below (below_drew (Below.refl wc.heap.size wc)))
                by_cases hgx : x < s
                · have hgy : ¬ y < s := by omega
                  refine wskip8b.run m l' bs bo b q x y s _ _ _ _ _ _ _ _ _ _ _ _ _ _ _ _ _ _ _ _ _ _ _ _ _ _ _ _ _ _ _ _ _ _ _ _ _ _ _ _ _ _ _ _ _ _ _ _ _ _ _ _ _ _ _ _ _ _ _ _ _ _ _ _ _ _ _ _ _ _ _ _ _ _ _ _ _ _ _ _ _ _ wc _ (fun _ _ _ _ _ h => h) hgx hgy d0 (SheetAt.scale HB4.out.hb) ?_
                  gi_wp2
                  gi_meet
                  case rel => exact Or.inl ⟨rfl, by rw [if_neg hg, List.append_nil]; exact hJd, hKd⟩
                · refine wskip8a.run m l' bs bo b q x y s _ _ _ _ _ _ _ _ _ _ _ _ _ _ _ _ _ _ _ _ _ _ _ _ _ _ _ _ _ _ _ _ _ _ _ _ _ _ _ _ _ _ _ _ _ _ _ _ _ _ _ _ _ _ _ _ _ _ _ _ _ _ _ _ _ _ _ _ _ _ _ _ _ _ _ _ _ _ _ _ _ _ wc _ (fun _ _ _ _ _ h => h) hgx d0 (SheetAt.scale HB4.out.hb) ?_
                  gi_wp2
                  gi_meet
                  case rel => exact Or.inl ⟨rfl, by rw [if_neg hg, List.append_nil]; exact hJd, hKd⟩
            case rest =>
              rcases hcut with ⟨rfl, hj, hk⟩ | ⟨rfl, p, hjx⟩
              rotate_left
              · gi_wp2
                refine bodyPost_ret (results_none rfl _ _ _) rfl ?_
                exact ⟨⟨_, rfl⟩, .inr ⟨p, trivial, hjx⟩⟩
              have z3 : wrap64 (y + 1) = y + 1 := by unfold wrap64; omega
              have hj2 : J (witAll s l.length (cnt2 l) x.toNat ++ witRow s l.length (cnt2 l) x (y + 1).toNat) wc := by
                rw [show (y + 1).toNat = y.toNat + 1 by omega, witRow, ← List.append_assoc, ← HPRE.out, Int.toNat_of_nonneg hy0]
                unfold witAt
                rw [← List.append_assoc, ← HV.out, ← HU.out, ← HP2.out]
                exact hj
              have HJ5 := Lib.hid hj2
              have HK5 := Lib.hid hk
              clear hj hj2 hk
              gi_wp2
              go_roundw
              case rel => exact ⟨y + 1, by omega, by omega, rfl, HJ5.out, HK5.out⟩
              case measure => simp [intOf]; omega
        · have hy : y = s + 1 := by omega
          subst hy
          have z3 : wrap64 (x + 1) = x + 1 := by unfold wrap64; omega
          have hj2 : J (witAll s l.length (cnt2 l) (x + 1).toNat) wr := by
            rw [show (x + 1).toNat = x.toNat + 1 by omega, witAll, Int.toNat_of_nonneg hx0]
            exact HJ2.out
          have HJ5 := Lib.hid hj2
          clear hj2
          gi_wp2
          go_roundw
          case rel => exact ⟨x + 1, by omega, by omega, rfl, HJ5.out, HK2.out⟩
          case measure => simp [intOf]; omega
    · have hx : x = s + 1 := by omega
      subst hx
      gi_wp2
      go_end0
      exact ⟨⟨_, rfl⟩, .inl HJ.out⟩

/-- the first witness that is farthest off -/
def bestStep (b t : Wit) : Wit := if b.2.2.1 < t.2.2.1 then t else b
def bestW (l : List Wit) : Wit := l.foldl bestStep (0, 0, -1, false)
theorem bestW_snoc (l : List Wit) (t : Wit) : bestW (l ++ [t]) = bestStep (bestW l) t := by simp [bestW, List.foldl_append]
def wcells (t : Wit) : Array Value := #[.int .i64 t.1, .int .i64 t.2.1, .int .i64 t.2.2.1, .bool t.2.2.2]
def sheetW (s : Int) (l : List S50) : Wit := bestW (witAll s l.length (cnt2 l) (s + 1).toNat)
def spread_Sheet.f (a0 : Int) (l1 : List S50) : Option (Int × Int × Int × Int × Bool × Int) :=
  if okSheet a0 l1 = true then some ((redF (sheetW a0 l1).2.2.1 (l1.length * a0 * a0)).1, (redF (sheetW a0 l1).2.2.1 (l1.length * a0 * a0)).2, (sheetW a0 l1).1, (sheetW a0 l1).2.1, (sheetW a0 l1).2.2.2, 0)
  else some (0, 0, 0, 0, false, 2)
theorem KC.setCell {c : Nat} (W : World) (k : Nat) (v : Value) : KC c W (W.setCell ⟨c, k, none⟩ v) :=
  ⟨by rw [World.size_setCell]; exact Nat.le_refl _, fun j o hj _ hn => (Below.heap_setCell W _ v j hn).trans hj⟩
theorem blk_own {B c : Nat} {β : Type} {f : β → Array Value} {t : TypeId} : OwnFrom B (fun (p : β) W => W.heap[c]? = some (.cells (f p) t (0, 0))) := by
  intro s W W' row h hg hr
  refine (hg.block c (Array.getElem?_eq_some_iff.1 h).1 ?_).trans h
  intro e
  obtain ⟨_, o, ho, hc⟩ := hr c e.symm
  rw [h] at ho
  cases ho
  cases hc

def shR.T : Bool × List (List Nat × List Nat) := (true, [([], []), ([0], [0]), ([], []), ([2], [2]), ([3], [3]), ([4], [4]), ([], []), ([5, 6], [5, 6]), ([], []), ([7, 8], [7, 8]), ([1, 9], [1, 9]), ([], []), ([11], [11]), ([], []), ([13], [13]), ([10, 10, 0, 1, 2, 3, 4, 5, 6, 7, 8, 9, 10], [10]), ([12, 15, 0, 1, 2, 3, 4, 5, 6, 7, 8, 9, 10, 11, 12, 15], [12]), ([14, 16, 0, 1, 2, 3, 4, 5, 6, 7, 8, 9, 10, 11, 12, 13, 14, 15, 16], [14]), ([17, 0, 1, 2, 3, 4, 5, 6, 7, 8, 9, 10, 11, 12, 13, 14, 15, 16, 17], [])])
def shR.B : List Nat := [0, 1, 0, 4, 12, 28, 0, 124, 0, 508, 1023, 0, 2048, 0, 8192, 2047, 40959, 131071, 262143]
theorem shR.tab : rtab .any (opsOf Try.f45 9) = shR.T := by kernel_rfl
theorem shR.bits : waitsOk shR.T.2 shR.B = true := by kernel_rfl
theorem wp_calm {P : Program} {c : Code} {Q : Exit → Act → World → Prop} {a : Act} {w : World} (h : c.wp P (fun e a w => e = .normal ∧ Q e a w) a w) : c.wp P Q a w := wp_mono h (fun e a w hq => hq.2)
theorem witAll_bound (s : Int) (l : List S50) (ok : okSheet s l = true) : ∀ t ∈ witAll s l.length (cnt2 l) (s + 1).toNat, 0 ≤ t.2.2.1 ∧ t.2.2.1 ≤ 600000 := by
  obtain ⟨⟨o1, o2⟩, ⟨o3, o4⟩, o5⟩ := okSheet_bounds ok
  have hat : ∀ x y : Int, 0 ≤ x → x ≤ s → 0 ≤ y → y ≤ s → ∀ t ∈ witAt s l.length (cnt2 l) x y, 0 ≤ t.2.2.1 ∧ t.2.2.1 ≤ 600000 := by
    intro x y x0 x1 y0 y1 t ht
    have b1 := cnt2_le l x y
    have b2 := cnt2_le l (x + 1) (y + 1)
    unfold witAt at ht
    rcases List.mem_append.1 ht with h | h
    · split at h
      · rw [List.mem_singleton] at h
        subst h
        exact offS_bound s l.length _ x y (by omega) (by omega) (by omega) (by omega) (by omega)
      · cases h
    · split at h
      · rw [List.mem_singleton] at h
        subst h
        exact offS_bound s l.length _ x y (by omega) (by omega) (by omega) (by omega) (by omega)
      · cases h
  have hrow : ∀ (x : Int) (k : Nat), 0 ≤ x → x ≤ s → (k : Int) ≤ s + 1 → ∀ t ∈ witRow s l.length (cnt2 l) x k, 0 ≤ t.2.2.1 ∧ t.2.2.1 ≤ 600000 := by
    intro x k x0 x1
    induction k with
    | zero => intro _ t ht; cases ht
    | succ k ih =>
      intro hk t ht
      rw [witRow] at ht
      rcases List.mem_append.1 ht with h | h
      · exact ih (by omega) t h
      · exact hat x k x0 x1 (by omega) (by omega) t h
  have hall : ∀ k : Nat, (k : Int) ≤ s + 1 → ∀ t ∈ witAll s l.length (cnt2 l) k, 0 ≤ t.2.2.1 ∧ t.2.2.1 ≤ 600000 := by
    intro k
    induction k with
    | zero => intro _ t ht; cases ht
    | succ k ih =>
      intro hk t ht
      rw [witAll] at ht
      rcases List.mem_append.1 ht with h | h
      · exact ih (by omega) t h
      · exact hrow k _ (by omega) (by omega) (by omega) t h
  exact hall _ (by omega)
theorem bestW_mem (l : List Wit) : bestW l = (0, 0, -1, false) ∨ bestW l ∈ l := by
  have key : ∀ (l : List Wit) (b : Wit), l.foldl bestStep b = b ∨ l.foldl bestStep b ∈ l := by
    intro l
    induction l with
    | nil => intro b; exact Or.inl rfl
    | cons t l ih =>
      intro b
      rw [List.foldl_cons]
      rcases ih (bestStep b t) with h | h
      · rw [h]
        unfold bestStep
        split
        · exact Or.inr (List.mem_cons_self ..)
        · exact Or.inl rfl
      · exact Or.inr (List.mem_cons_of_mem _ h)
  exact key l _
theorem sheetW_bound (s : Int) (l : List S50) (ok : okSheet s l = true) : -1 ≤ (sheetW s l).2.2.1 ∧ (sheetW s l).2.2.1 ≤ 600000 := by
  unfold sheetW
  rcases bestW_mem (witAll s l.length (cnt2 l) (s + 1).toNat) with h | h
  · rw [h]
    simp
  · have := witAll_bound s l ok _ h
    omega
theorem results_cctt {P : Program} {fn : Func} {p p' u v : Tmp} {ty ty' : TypeId} (h : fn.results = #[.cell p ty, .cell p' ty', .tmp u, .tmp v]) (tmps : Array Value) (w : World) (g g' : Nat) (t t' : TypeId) (cs cs' : Array Value) (fr fr' : Nat × Nat) (d d' : TypeDesc)
    (hp : tmps.getD p undef = .pointer (some ⟨g, 0, none⟩)) (hp2 : tmps.getD p' undef = .pointer (some ⟨g', 0, none⟩)) (hg : w.heap[g]? = some (.cells cs t fr)) (hg2 : w.heap[g']? = some (.cells cs' t' fr'))
    (hu : P.underlying ty = some d) (hu2 : P.underlying ty' = some d') (hd : (match d with | .struct _ | .array _ _ => true | _ => false) = true) (hd2 : (match d' with | .struct _ | .array _ _ => true | _ => false) = true) (hi : (P.info? ty).map (·.size) = some cs.size) (hi2 : (P.info? ty').map (·.size) = some cs'.size) :
    (results fn tmps).run P w = .ok (.tuple #[.agg cs, .agg cs', tmps.getD u undef, tmps.getD v undef]) w := by
  have hp' : tmps[p]?.getD undef = .pointer (some ⟨g, 0, none⟩) := by simpa using hp
  have hp2' : tmps[p']?.getD undef = .pointer (some ⟨g', 0, none⟩) := by simpa using hp2
  simp [results, h, hp', hp2', asAddr, run_loadVar_row w g t ty cs fr d hg hu hd hi, run_loadVar_row w g' t' ty' cs' fr' d' hg2 hu2 hd2 hi2]
set_option maxHeartbeats 4000000 in
set_option maxRecDepth 100000 in
theorem sheet_in (s : Int) (A : Option Addr) (ca : Nat) (l : List S50) (w : World) (hr : Kd.C k50 w A l.length l) (hc : l.length ≤ ca) (ok : okSheet s l = true) :
    CallsIn Fence.wide 9 Try.prog 45 #[.int .i64 s, .slice A l.length ca] w fun e w' => e = .returned (.tuple #[.agg #[.int .i64 (redF (sheetW s l).2.2.1 (l.length * s * s)).1, .int .i64 (redF (sheetW s l).2.2.1 (l.length * s * s)).2], .agg #[.int .i64 (sheetW s l).1, .int .i64 (sheetW s l).2.1], .bool (sheetW s l).2.2.2, .int .i64 0]) ∧ Below w.heap.size w w' := by
  have HR := Lib.hid hr
  have OK := Lib.hid ok
  clear hr ok
  refine callsIn_of_wp_marks Try.func45 rfl trivial ?_ rfl
  simp only [Try.ntmps45, List.size_toArray, List.length_cons, List.length_nil, Nat.reduceAdd, Nat.reduceSub, Array.replicate_succ, Array.replicate_zero, List.push_toArray, List.append_toArray, List.nil_append, List.cons_append]
  gi_upto_region 2 with (refine ⟨trivial, ?_⟩; gi_at_call 68; refine (callsIn_wide.2 (newSheet_any _ _ _ l _ (Kd.C_alloc (Kd.C_alloc HR.out _) _) hc)).mono ?_; rintro e w1 ⟨hb, ⟨hf, _⟩ | ⟨hf, b, hbl, rfl, hL⟩⟩; (exact absurd OK.out (by rw [hf]; simp)); have HB := Lib.hid hb; clear hb hf; have HL := Lib.hid hL; clear hL; have hbk := blk_below (blk_alloc (zero2S w 26) (.cells #[.int .i64 0, .int .i64 0] 50)) HB.out; have HK := Lib.hid hbk; clear hbk; have hbk := blk_below (zero2S (w.alloc (.cells #[.int .i64 0, .int .i64 0] 26)) 50) HB.out; have HK2 := Lib.hid hbk; clear hbk)
  gi_wp2_with (refine ⟨trivial, ?_⟩; gi_at_call 69; refine (callsIn_wide.2 (witnesses_any b _)).mono ?_; rintro e w2 ⟨rfl, hw2⟩)
  simp only [World.size_alloc] at hw2
  rw [← hw2]
  obtain ⟨c, hcz⟩ : ∃ c, c = w1.heap.size := ⟨_, rfl⟩
  have hsz := HB.out.size
  simp only [World.size_alloc] at hsz hbl
  have hb12 : Below w1.heap.size w1 w2 := hw2 ▸ below_alloc (below_alloc (below_alloc (Below.refl _ _) _) _) _
  have hz2 : w2.heap.size = c + 3 := by rw [hw2, hcz]; simp
  have hk : w2.heap[c]? = some (.cells (wcells (0, 0, -1, false)) 102 (0, 0)) := by rw [hw2, hcz]; exact blk_alloc (blk_alloc (blk_new w1 _) _) _
  have hks : w2.heap[c + 1]? = some (.cells #[.pointer (some ⟨b, 0, none⟩)] 98 (0, 0)) := by
    have h := blk_new (w1.alloc (.cells #[.int .i64 0, .int .i64 0, .int .i64 (-1), .bool false] 102)) (.cells #[.pointer (some ⟨b, 0, none⟩)] 98)
    rw [World.size_alloc] at h
    rw [hw2, hcz]
    exact blk_alloc h _
  have hko : w2.heap[c + 1 + 1]? = some (.cells #[.func (.func 75) #[] #[.pointer (some ⟨c + 1, 0, none⟩)]] 49 (0, 0)) := by
    have h := blk_new ((w1.alloc (.cells #[.int .i64 0, .int .i64 0, .int .i64 (-1), .bool false] 102)).alloc (.cells #[.pointer (some ⟨b, 0, none⟩)] 98)) (.cells #[.func (.func 75) #[] #[.pointer (some ⟨w1.heap.size + 1, 0, none⟩)]] 49)
    rw [World.size_alloc, World.size_alloc] at h
    rw [hw2, hcz]
    exact h
  have hbl2 : b < c := by rw [hcz]; exact blk_lt HL.out
  have hBx : ShBox w2 (c + 1) (c + 1 + 1) b s l := ⟨hks, hko, blk_below HL.out hb12⟩
  have KR1 := Lib.hid (blk_below HK.out hb12)
  have KR2 := Lib.hid (blk_below HK2.out hb12)
  have HLs := Lib.hid (show IsSheet w2 b s l from blk_below HL.out hb12)
  have HW2 := Lib.hid (show Below w.heap.size w w2 from ((below_alloc (below_alloc (Below.refl _ w) _) _).trans (HB.out.mono (by simp; omega))).trans (hb12.mono (by omega)))
  rw [← hcz] at *
  clear hw2 hks hko
  refine wpIn_rangeFunc_ownH rfl (by omega) (gf := 76) (lb := #[.pointer (some ⟨c + 1, 0, none⟩), .pointer (some ⟨c + 1 + 1, 0, none⟩)]) rfl trivial (enters_of Try.func76 (by kernel_rfl) rfl)
    (sheet_stops 8 (c + 1) (c + 1 + 1) b c s l OK.out (by omega) (by omega) (by omega) w2 (by omega) hBx) (fun h k => h.trans k) (fun W l o o' h1 h2 h3 h4 => KC.putObj (w := w2) W l o o' h1 h2 h3 h4) (Below.refl _ _) (fun _ => rfl)
    (fun pre W => W.heap[c]? = some (.cells (wcells (bestW pre)) 102 (0, 0)) ∧ Below c w2 W) (fun _ _ _ => False) (OwnFrom.and blk_own (ownFrom_below (by omega) (by omega))) (fun _ _ _ _ _ h _ _ => h) ⟨hk, Below.refl _ _⟩
    (fun x a' W => ∃ Bx, c < Bx ∧ W.heap[Bx]? = some (.cells (wcells x) 102 (0, 0)) ∧ a' = { tmps := #[.int .i64 s, .slice A l.length ca, undef, undef, .pointer (some ⟨w.heap.size, 0, none⟩), .pointer (some ⟨w.heap.size + 1, 0, none⟩), .bool false, .int .i64 0, .pointer (some ⟨b, 0, none⟩), .bool true, .pointer (some ⟨c, 0, none⟩), .pointer (some ⟨Bx, 0, none⟩), .tuple #[.pointer (some ⟨b, 0, none⟩), .bool true], .int .i64 s, .slice A l.length ca, .tuple #[.pointer (some ⟨b, 0, none⟩), .bool true], .pointer (some ⟨b, 0, none⟩), .bool true, .bool true, .bool false, undef, undef, .agg #[.int .i64 0, .int .i64 0, .int .i64 (-1), .bool false], .pointer (some ⟨b, 0, none⟩), .func (.func 76) #[] #[.pointer (some ⟨c + 1, 0, none⟩), .pointer (some ⟨c + 1 + 1, 0, none⟩)], .agg (wcells x), undef, undef, undef, undef, undef, undef, undef, undef, undef, undef, undef, undef, undef, undef, undef, undef, undef, undef, undef, undef, undef], defers := [] })
    (fun x a' => by rintro _ W W' row ⟨Bx, h1, h2, h3⟩ hg hr; exact ⟨Bx, h1, blk_own (β := Unit) (f := fun _ => wcells x) () W W' row h2 hg hr, h3⟩) ?assign ?body ?done ?stop
  case stop =>
    rintro D c pre W _ _ h _
    exact h.elim
  case assign =>
    rintro l' pre x W K ⟨hi, hib⟩ hK
    simp only [encW]
    gi_wp2
    have hbA : Below W.heap.size W (W.alloc (.cells (wcells x) 102)) := below_alloc (Below.refl _ _) _
    exact hK _ _ ((KeepsOthers.alloc _ _).from _) (KC.below hbA) ⟨blk_alloc hi _, hib.alloc (by have := hib.size; omega) _⟩ ⟨W.heap.size, by have := hib.size; omega, blk_new W _, rfl⟩
  case body =>
    rintro l' pre x a' W hl ⟨r, hr⟩ ⟨hi, hib⟩ ⟨Bx, hBx, hx, rfl⟩ hlt
    have c0 := blk_cell hi 0
    have c1 := blk_cell hi 1
    have c2 := blk_cell hi 2
    have c3 := blk_cell hi 3
    have f0 := blk_frozen hi 0
    have f1 := blk_frozen hi 1
    have f2 := blk_frozen hi 2
    have f3 := blk_frozen hi 3
    have d0 := blk_cell hx 0
    have d1 := blk_cell hx 1
    have d2 := blk_cell hx 2
    have d3 := blk_cell hx 3
    unfold wcells at c0 c1 c2 c3 d0 d1 d2 d3
    by_cases hgt : (bestW pre).2.2.1 < x.2.2.1
    · gi_wp2
      refine ⟨?_, ?_, ?_, ?_⟩
      · exact ((((KeepsOthers.setCell _ _ _).trans (KeepsOthers.setCell _ _ _)).trans (KeepsOthers.setCell _ _ _)).trans (KeepsOthers.setCell _ _ _)).from _
      · exact (((KC.setCell _ _ _).trans (KC.setCell _ _ _)).trans (KC.setCell _ _ _)).trans (KC.setCell _ _ _)
      · rw [bestW_snoc, bestStep, if_pos hgt]
        exact blk_put (blk_put (blk_put (blk_put hi 0 _ rfl) 1 _ rfl) 2 _ rfl) 3 _ rfl
      · exact (((hib.setCell (p := ⟨c, 0, none⟩) (Nat.le_refl _) _).setCell (p := ⟨c, 1, none⟩) (Nat.le_refl _) _).setCell (p := ⟨c, 2, none⟩) (Nat.le_refl _) _).setCell (p := ⟨c, 3, none⟩) (Nat.le_refl _) _
    · gi_wp2
      exact ⟨(KeepsOthers.refl _).from _, KC.refl _ _, by rw [bestW_snoc, bestStep, if_neg (Int.not_lt.2 hgt)]; exact hi, hib⟩
  case done =>
    rintro D ys W hD rfl ⟨hi, hib⟩ hK
    gi_upto_region 9 with fail
    obtain ⟨⟨o1, o2⟩, ⟨o3, o4⟩, o5⟩ := okSheet_bounds OK.out
    have hbd := sheetW_bound s l OK.out
    have hm1 := bnd_mul (a := l.length) (b := s) (A := 60) (B := 100) (by omega) (by omega) (by omega) (by omega)
    have hm2 := bnd_mul (a := l.length * s) (b := s) (A := 6000) (B := 100) (by omega) (by omega) (by omega) (by omega)
    have hm3 : 1 ≤ (l.length : Int) * s := by
      have := Int.mul_le_mul (a := 1) (b := 1) (c := (l.length : Int)) (d := s) (by omega) (by omega) (by omega) (by omega)
      omega
    have hm4 : 1 ≤ (l.length : Int) * s * s := by
      have := Int.mul_le_mul (a := 1) (b := 1) (c := (l.length : Int) * s) (d := s) (by omega) (by omega) (by omega) (by omega)
      omega
    have zw1 : wrap64 (l.length * s) = l.length * s := w64S (by omega) (by omega)
    have zw2 : wrap64 (l.length * s * s) = l.length * s * s := w64S (by omega) (by omega)
    have HM := Lib.hid (show 1 ≤ (l.length : Int) * s * s ∧ (l.length : Int) * s * s ≤ 600000 ∧ -1 ≤ (sheetW s l).2.2.1 ∧ (sheetW s l).2.2.1 ≤ 600000 by omega)
    clear hm1 hm2 hm3 hm4 hbd o1 o2 o3 o4 o5
    have K1 := Lib.hid ((hib.block w.heap.size (by omega)).trans KR1.out)
    have K2 := Lib.hid ((hib.block (w.heap.size + 1) (by omega)).trans (by have := KR2.out; simpa using this))
    have HC := Lib.hid (show W.heap[c]? = some (.cells (wcells (sheetW s l)) 102 (0, 0)) from hi)
    have HL4 := Lib.hid (show IsSheet W b s l from (hib.block b hbl2).trans HLs.out)
    have HD := Lib.hid hK
    have nb1 := Lib.hid (show b ≠ w.heap.size by omega)
    have nb2 := Lib.hid (show b ≠ w.heap.size + 1 by omega)
    have nc1 := Lib.hid (show c ≠ w.heap.size by omega)
    have nc2 := Lib.hid (show c ≠ w.heap.size + 1 by omega)
    have n12 : w.heap.size ≠ w.heap.size + 1 := by omega
    have n21 : w.heap.size + 1 ≠ w.heap.size := by omega
    have HIB := Lib.hid hib
    clear hi hK hib
    refine wpIn_wide.2 (wp_calm ?_)
    refine start_ (n := 19) (S := fun w' => w'.cell? ⟨c, 2, none⟩ = some (.int .i64 (sheetW s l).2.2.1) ∧ w'.cell? ⟨b, 1, none⟩ = some (.int .i64 l.length) ∧ w'.cell? ⟨c, 0, none⟩ = some (.int .i64 (sheetW s l).1) ∧ w'.cell? ⟨c, 1, none⟩ = some (.int .i64 (sheetW s l).2.1) ∧ w'.cell? ⟨c, 3, none⟩ = some (.bool (sheetW s l).2.2.2)) (ds := []) #[false, false, false, false, false, false, false, false, false, false, false, false, false, false, false, false, false, false, false] (by kernel_rfl) rfl rfl ⟨(blk_cell HC.out 2).trans rfl, SheetAt.n HL4.out, (blk_cell HC.out 0).trans rfl, (blk_cell HC.out 1).trans rfl, (blk_cell HC.out 3).trans rfl⟩ (fun hHeld => ?_); refine with_tabW shR.tab shR.bits (fun HT_ HW_ => ?_)
    refine pure_ (i := 0) (N := (some 32)) (v := ?_) (a' := ?_) #[true, false, false, false, false, false, false, false, false, false, false, false, false, false, false, false, false, false, false] rfl rfl (any_of HT_.out (by kernel_rfl)) (fun _ _ _ h => nomatch h.1) (Or.inl ⟨by rfl, ?_⟩) ?_ ?_
    rotate_left
    · intro w'
      go_simp
      with_reducible rfl
    rotate_left
    · simp only [Act.put, List.setIfInBounds_toArray, List.set_cons_zero, List.set_cons_succ, i64_w, i32_w]
      rfl
    refine take_ (i := 1) (N := (some 33)) (v := ?_) (a' := ?_) #[true, true, false, false, false, false, false, false, false, false, false, false, false, false, false, false, false, false, false] rfl rfl (take_ofW HT_.out HW_.out (by kernel_rfl)) (fun _ _ _ h => nomatch h.1) (Or.inl ⟨by rfl, ?_⟩) hHeld ?_ ?_
    rotate_left
    · rintro w' ⟨s0, s1, s2, s3, s4⟩
      go_simp
      with_reducible rfl
    rotate_left
    · simp only [Act.put, List.setIfInBounds_toArray, List.set_cons_zero, List.set_cons_succ, i64_w, i32_w]
      rfl
    refine pure_ (i := 2) (N := (some 34)) (v := ?_) (a' := ?_) #[true, true, true, false, false, false, false, false, false, false, false, false, false, false, false, false, false, false, false] rfl rfl (any_of HT_.out (by kernel_rfl)) (fun _ _ _ h => nomatch h.1) (Or.inl ⟨by rfl, ?_⟩) ?_ ?_
    rotate_left
    · intro w'
      go_simp
      with_reducible rfl
    rotate_left
    · simp only [Act.put, List.setIfInBounds_toArray, List.set_cons_zero, List.set_cons_succ, i64_w, i32_w]
      rfl
    refine pure_ (i := 3) (N := (some 35)) (v := ?_) (a' := ?_) #[true, true, true, true, false, false, false, false, false, false, false, false, false, false, false, false, false, false, false] rfl rfl (any_of HT_.out (by kernel_rfl)) (fun _ _ _ h => nomatch h.1) (Or.inl ⟨by rfl, ?_⟩) ?_ ?_
    rotate_left
    · intro w'
      go_simp
      with_reducible rfl
    rotate_left
    · simp only [Act.put, List.setIfInBounds_toArray, List.set_cons_zero, List.set_cons_succ, i64_w, i32_w]
      rfl
    refine pure_ (i := 4) (N := (some 36)) (v := ?_) (a' := ?_) #[true, true, true, true, true, false, false, false, false, false, false, false, false, false, false, false, false, false, false] rfl rfl (any_of HT_.out (by kernel_rfl)) (fun _ _ _ h => nomatch h.1) (Or.inl ⟨by rfl, ?_⟩) ?_ ?_
    rotate_left
    · intro w'
      go_simp
      with_reducible rfl
    rotate_left
    · simp only [Act.put, List.setIfInBounds_toArray, List.set_cons_zero, List.set_cons_succ, i64_w, i32_w]
      rfl
    refine take_ (i := 5) (N := (some 37)) (v := ?_) (a' := ?_) #[true, true, true, true, true, true, false, false, false, false, false, false, false, false, false, false, false, false, false] rfl rfl (take_ofW HT_.out HW_.out (by kernel_rfl)) (fun _ _ _ h => nomatch h.1) (Or.inl ⟨by rfl, ?_⟩) hHeld ?_ ?_
    rotate_left
    · rintro w' ⟨s0, s1, s2, s3, s4⟩
      go_simp
      with_reducible rfl
    rotate_left
    · simp only [Act.put, List.setIfInBounds_toArray, List.set_cons_zero, List.set_cons_succ, i64_w, i32_w]
      rfl
    refine pure_ (i := 6) (N := (some 38)) (v := ?_) (a' := ?_) #[true, true, true, true, true, true, true, false, false, false, false, false, false, false, false, false, false, false, false] rfl rfl (any_of HT_.out (by kernel_rfl)) (fun _ _ _ h => nomatch h.1) (Or.inl ⟨by rfl, ?_⟩) ?_ ?_
    rotate_left
    · intro w'
      go_simp
      with_reducible rfl
    rotate_left
    · simp only [Act.put, List.setIfInBounds_toArray, List.set_cons_zero, List.set_cons_succ, i64_w, i32_w]
      rfl
    refine pure_ (i := 7) (N := (some 39)) (v := ?_) (a' := ?_) #[true, true, true, true, true, true, true, true, false, false, false, false, false, false, false, false, false, false, false] rfl rfl (any_of HT_.out (by kernel_rfl)) (fun _ _ _ h => nomatch h.1) (Or.inl ⟨by rfl, ?_⟩) ?_ ?_
    rotate_left
    · intro w'
      go_simp
      with_reducible rfl
    rotate_left
    · simp only [Act.put, List.setIfInBounds_toArray, List.set_cons_zero, List.set_cons_succ, i64_w, i32_w]
      rfl
    refine pure_ (i := 8) (N := (some 40)) (v := ?_) (a' := ?_) #[true, true, true, true, true, true, true, true, true, false, false, false, false, false, false, false, false, false, false] rfl rfl (any_of HT_.out (by kernel_rfl)) (fun _ _ _ h => nomatch h.1) (Or.inl ⟨by rfl, ?_⟩) ?_ ?_
    rotate_left
    · intro w'
      go_simp
      with_reducible rfl
    rotate_left
    · simp only [Act.put, List.setIfInBounds_toArray, List.set_cons_zero, List.set_cons_succ, i64_w, i32_w]
      rfl
    refine pure_ (i := 9) (N := (some 41)) (v := ?_) (a' := ?_) #[true, true, true, true, true, true, true, true, true, true, false, false, false, false, false, false, false, false, false] rfl rfl (any_of HT_.out (by kernel_rfl)) (fun _ _ _ h => nomatch h.1) (Or.inl ⟨by rfl, ?_⟩) ?_ ?_
    rotate_left
    · intro w'
      go_simp
      with_reducible rfl
    rotate_left
    · simp only [Act.put, List.setIfInBounds_toArray, List.set_cons_zero, List.set_cons_succ, i64_w, i32_w]
      rfl
    refine pure_ (i := 11) (N := (some 43)) (v := ?_) (a' := ?_) #[true, true, true, true, true, true, true, true, true, true, false, true, false, false, false, false, false, false, false] rfl rfl (any_of HT_.out (by kernel_rfl)) (fun _ _ _ h => nomatch h.1) (Or.inl ⟨by rfl, ?_⟩) ?_ ?_
    rotate_left
    · intro w'
      go_simp
      with_reducible rfl
    rotate_left
    · simp only [Act.put, List.setIfInBounds_toArray, List.set_cons_zero, List.set_cons_succ, i64_w, i32_w]
      rfl
    refine take_ (i := 12) (N := (some 44)) (v := ?_) (a' := ?_) #[true, true, true, true, true, true, true, true, true, true, false, true, true, false, false, false, false, false, false] rfl rfl (take_ofW HT_.out HW_.out (by kernel_rfl)) (fun _ _ _ h => nomatch h.1) (Or.inl ⟨by rfl, ?_⟩) hHeld ?_ ?_
    rotate_left
    · rintro w' ⟨s0, s1, s2, s3, s4⟩
      go_simp
      with_reducible rfl
    rotate_left
    · simp only [Act.put, List.setIfInBounds_toArray, List.set_cons_zero, List.set_cons_succ, i64_w, i32_w]
      rfl
    refine pure_ (i := 13) (N := (some 45)) (v := ?_) (a' := ?_) #[true, true, true, true, true, true, true, true, true, true, false, true, true, true, false, false, false, false, false] rfl rfl (any_of HT_.out (by kernel_rfl)) (fun _ _ _ h => nomatch h.1) (Or.inl ⟨by rfl, ?_⟩) ?_ ?_
    rotate_left
    · intro w'
      go_simp
      with_reducible rfl
    rotate_left
    · simp only [Act.put, List.setIfInBounds_toArray, List.set_cons_zero, List.set_cons_succ, i64_w, i32_w]
      rfl
    refine take_ (i := 14) (N := (some 46)) (v := ?_) (a' := ?_) #[true, true, true, true, true, true, true, true, true, true, false, true, true, true, true, false, false, false, false] rfl rfl (take_ofW HT_.out HW_.out (by kernel_rfl)) (fun _ _ _ h => nomatch h.1) (Or.inl ⟨by rfl, ?_⟩) hHeld ?_ ?_
    rotate_left
    · rintro w' ⟨s0, s1, s2, s3, s4⟩
      go_simp
      with_reducible rfl
    rotate_left
    · simp only [Act.put, List.setIfInBounds_toArray, List.set_cons_zero, List.set_cons_succ, i64_w, i32_w]
      rfl
    refine one_ (i := 10) (N := some 42) #[true, true, true, true, true, true, true, true, true, true, true, true, true, true, true, false, false, false, false] rfl rfl (one_of HT_.out (by kernel_rfl)) (by decide) (fun K hK => ?_)
    refine goes_ Try.func58 (by kernel_rfl) rfl #[.int .i64 (sheetW s l).2.2.1, .int .i64 (l.length * s * s)] (by rfl) rfl rfl (by (try simp only [List.map_toArray, List.map_cons, List.map_nil]); (try go_simp); first | done | rfl | (simp only [List.length_drop, List.length_take]; rfl)) ?_
    refine (frac_any (sheetW s l).2.2.1 (l.length * s * s) _ HM.out.1 (by have := HM.out; omega) (by have := HM.out; omega) (by have := HM.out; omega)).mono ?_
    rintro e w3 ⟨rfl, hb3⟩
    refine ⟨_, rfl, ?_⟩
    have HB3 := Lib.hid hb3
    clear hb3
    have G1 := Lib.hid (blk_below (blk_drew K1.out) HB3.out)
    have G2 := Lib.hid (blk_below (blk_drew K2.out) HB3.out)
    have G3 := Lib.hid (blk_below (blk_drew HC.out) HB3.out)
    have G4 := Lib.hid (blk_below (blk_drew HL4.out) HB3.out)
    have GD := Lib.hid ((HB3.out.block D (by have := HD.out; exact (Array.getElem?_eq_some_iff.1 this).1)).trans HD.out)
    refine hK.out _ _ ⟨(blk_cell G3.out 2).trans rfl, SheetAt.n G4.out, (blk_cell G3.out 0).trans rfl, (blk_cell G3.out 1).trans rfl, (blk_cell G3.out 3).trans rfl⟩ (fun hHeld => ?_)
    clear hK K
    refine norm_ (a' := ?_) ?_ ?_
    rotate_left
    · show Act.put _ (some 42) _ = _
      simp only [Act.put, List.setIfInBounds_toArray, List.set_cons_zero, List.set_cons_succ, i64_w, i32_w]
      rfl
    refine one_ (i := 15) (N := none) #[true, true, true, true, true, true, true, true, true, true, true, true, true, true, true, true, false, false, false] rfl rfl (one_of HT_.out (by kernel_rfl)) (by decide) (fun K hK => ?_)
    have q1 := (blk_cell G1.out 0)
    have q2 := (blk_cell G1.out 1)
    have q3 := blk_frozen G1.out 0
    have q4 := blk_frozen G1.out 1
    refine skip_ (w1 := ?_) (by rfl) rfl ?_ ?_
    rotate_left
    · go_simp
      rfl
    refine hK.out _ _ ⟨((cell_far (p := ⟨w.heap.size, _, none⟩) nc1.out _).trans ((cell_far (p := ⟨w.heap.size, _, none⟩) nc1.out _).trans (hHeld.1))), ((cell_far (p := ⟨w.heap.size, _, none⟩) nb1.out _).trans ((cell_far (p := ⟨w.heap.size, _, none⟩) nb1.out _).trans (hHeld.2.1))), ((cell_far (p := ⟨w.heap.size, _, none⟩) nc1.out _).trans ((cell_far (p := ⟨w.heap.size, _, none⟩) nc1.out _).trans (hHeld.2.2.1))), ((cell_far (p := ⟨w.heap.size, _, none⟩) nc1.out _).trans ((cell_far (p := ⟨w.heap.size, _, none⟩) nc1.out _).trans (hHeld.2.2.2.1))), ((cell_far (p := ⟨w.heap.size, _, none⟩) nc1.out _).trans ((cell_far (p := ⟨w.heap.size, _, none⟩) nc1.out _).trans (hHeld.2.2.2.2)))⟩ (fun hHeld => ?_)
    clear hK K
    refine one_ (i := 16) (N := none) #[true, true, true, true, true, true, true, true, true, true, true, true, true, true, true, true, true, false, false] rfl rfl (one_of HT_.out (by kernel_rfl)) (by decide) (fun K hK => ?_)
    clear q1 q2 q3 q4
    have q1 := blk_cell G2.out 0
    have q2 := (blk_cell G2.out 1)
    have q3 := blk_frozen G2.out 0
    have q4 := blk_frozen G2.out 1
    refine skip_ (w1 := ?_) (by rfl) rfl ?_ ?_
    rotate_left
    · go_simp
      rfl
    refine hK.out _ _ ⟨((cell_far (p := ⟨(w.heap.size + 1), _, none⟩) nc2.out _).trans ((cell_far (p := ⟨(w.heap.size + 1), _, none⟩) nc2.out _).trans (hHeld.1))), ((cell_far (p := ⟨(w.heap.size + 1), _, none⟩) nb2.out _).trans ((cell_far (p := ⟨(w.heap.size + 1), _, none⟩) nb2.out _).trans (hHeld.2.1))), ((cell_far (p := ⟨(w.heap.size + 1), _, none⟩) nc2.out _).trans ((cell_far (p := ⟨(w.heap.size + 1), _, none⟩) nc2.out _).trans (hHeld.2.2.1))), ((cell_far (p := ⟨(w.heap.size + 1), _, none⟩) nc2.out _).trans ((cell_far (p := ⟨(w.heap.size + 1), _, none⟩) nc2.out _).trans (hHeld.2.2.2.1))), ((cell_far (p := ⟨(w.heap.size + 1), _, none⟩) nc2.out _).trans ((cell_far (p := ⟨(w.heap.size + 1), _, none⟩) nc2.out _).trans (hHeld.2.2.2.2)))⟩ (fun hHeld => ?_)
    clear hK K
    refine pure_ (i := 17) (N := (some 6)) (v := ?_) (a' := ?_) #[true, true, true, true, true, true, true, true, true, true, true, true, true, true, true, true, true, true, false] rfl rfl (any_of HT_.out (by kernel_rfl)) (fun _ _ _ h => nomatch h.1) (Or.inl ⟨by rfl, ?_⟩) ?_ ?_
    rotate_left
    · intro w'
      go_simp
      with_reducible rfl
    rotate_left
    · simp only [Act.put, List.setIfInBounds_toArray, List.set_cons_zero, List.set_cons_succ, i64_w, i32_w]
      rfl
    refine pure_ (i := 18) (N := (some 7)) (v := ?_) (a' := ?_) #[true, true, true, true, true, true, true, true, true, true, true, true, true, true, true, true, true, true, true] rfl rfl (any_of HT_.out (by kernel_rfl)) (fun _ _ _ h => nomatch h.1) (Or.inl ⟨by rfl, ?_⟩) ?_ ?_
    rotate_left
    · intro w'
      go_simp
      with_reducible rfl
    rotate_left
    · simp only [Act.put, List.setIfInBounds_toArray, List.set_cons_zero, List.set_cons_succ, i64_w, i32_w]
      rfl
    refine done_ (done_of HT_.out (by kernel_rfl)) ?_
    refine ⟨rfl, ?_⟩
    gi_wp2
    have e1 := blk_far (blk_far (blk_put (blk_put G1.out 0 (.int .i64 (redF (sheetW s l).2.2.1 (l.length * s * s)).1) rfl) 1 (.int .i64 (redF (sheetW s l).2.2.1 (l.length * s * s)).2) rfl) (p := ⟨w.heap.size + 1, 0, none⟩) n12 (.int .i64 (sheetW s l).1)) (p := ⟨w.heap.size + 1, 1, none⟩) n12 (.int .i64 (sheetW s l).2.1)
    have e2 := blk_put (blk_put (blk_far (blk_far G2.out (p := ⟨w.heap.size, 0, none⟩) n21 (.int .i64 (redF (sheetW s l).2.2.1 (l.length * s * s)).1)) (p := ⟨w.heap.size, 1, none⟩) n21 (.int .i64 (redF (sheetW s l).2.2.1 (l.length * s * s)).2)) 0 (.int .i64 (sheetW s l).1) rfl) 1 (.int .i64 (sheetW s l).2.1) rfl
    have eD := (KeepsOthers.setCell _ ⟨w.heap.size + 1, 1, none⟩ (.int .i64 (sheetW s l).2.1)).same D _ ((KeepsOthers.setCell _ ⟨w.heap.size + 1, 0, none⟩ (.int .i64 (sheetW s l).1)).same D _ ((KeepsOthers.setCell _ ⟨w.heap.size, 1, none⟩ (.int .i64 (redF (sheetW s l).2.2.1 (l.length * s * s)).2)).same D _ ((KeepsOthers.setCell _ ⟨w.heap.size, 0, none⟩ (.int .i64 (redF (sheetW s l).2.2.1 (l.length * s * s)).1)).same D _ GD.out rfl) rfl) rfl) rfl
    refine ⟨by simp, .inl ⟨_, _, rfl, run_takeDeferred eD, ?_⟩⟩
    have hDz : w2.heap.size ≤ D := hD
    have hDz2 := HIB.out.size
    refine ⟨_, results_cctt rfl _ _ w.heap.size (w.heap.size + 1) 26 50 _ _ (0, 0) (0, 0) _ _ rfl rfl ((World.putObj_heap_other (by omega)).trans e1) ((World.putObj_heap_other (by omega)).trans e2) Try.underlying26 Try.underlying50 rfl rfl (by kernel_rfl) (by kernel_rfl), rfl, ?_⟩
    have b1 : Below w.heap.size w w2 := HW2.out
    have b2 : Below w.heap.size w W := b1.trans (HIB.out.mono (by omega))
    have b3 : Below w.heap.size w w3 := below_then (below_drew b2) b2.size HB3.out
    have b4 := (((b3.setCell (p := ⟨w.heap.size, 0, none⟩) (Nat.le_refl _) (.int .i64 (redF (sheetW s l).2.2.1 (l.length * s * s)).1)).setCell (p := ⟨w.heap.size, 1, none⟩) (Nat.le_refl _) (.int .i64 (redF (sheetW s l).2.2.1 (l.length * s * s)).2)).setCell (p := ⟨w.heap.size + 1, 0, none⟩) (Nat.le_succ _) (.int .i64 (sheetW s l).1)).setCell (p := ⟨w.heap.size + 1, 1, none⟩) (Nat.le_succ _) (.int .i64 (sheetW s l).2.1)
    exact b4.trans (belowK_b (w := w) (Nat.le_refl _) _ D _ _ (by omega) eD rfl rfl)

set_option maxHeartbeats 4000000 in
set_option maxRecDepth 100000 in
theorem spread_Sheet.calls (a0 : Int) (A1 : Option Addr) (c1 : Nat) (l1 : List S50) (r1 r2 r3 r4 : Int) (r5 : Bool) (r6 : Int) (w : World) (hr1 : Kd.C k50 w A1 l1.length l1) (hc1 : l1.length ≤ c1) (h : spread_Sheet.f a0 l1 = some (r1, r2, r3, r4, r5, r6)) :
    Calls Try.prog 45 #[.int .i64 a0, .slice A1 l1.length c1] w fun e w' => e = .returned (.tuple #[.agg #[.int .i64 r1, .int .i64 r2], .agg #[.int .i64 r3, .int .i64 r4], .bool r5, .int .i64 r6]) ∧ Below w.heap.size w w' := by
  unfold spread_Sheet.f at h
  by_cases ok : okSheet a0 l1 = true
  · rw [if_pos ok] at h
    simp only [Option.some.injEq, Prod.mk.injEq] at h
    obtain ⟨rfl, rfl, rfl, rfl, rfl, rfl⟩ := h
    exact callsIn_wide.1 (sheet_in a0 A1 c1 l1 w hr1 hc1 ok)
  · rw [if_neg ok] at h
    simp only [Option.some.injEq, Prod.mk.injEq] at h
    obtain ⟨rfl, rfl, rfl, rfl, rfl, rfl⟩ := h
    have HR := Lib.hid hr1
    have OK := Lib.hid ok
    clear ok hr1
    go_enter Try.func45, Try.ntmps45
    go_wp2_with (go_at_call 68; refine (newSheet_any _ _ _ l1 _ (Kd.C_alloc (Kd.C_alloc HR.out _) _) hc1).mono ?_; rintro e w' ⟨hb, ⟨hf, rfl⟩ | ⟨hf, _⟩⟩; rotate_left; (exact absurd hf OK.out); have HB := Lib.hid hb; clear hb hf; have hbk := blk_below (blk_alloc (zero2S w 26) (.cells #[.int .i64 0, .int .i64 0] 50)) HB.out; have HK := Lib.hid hbk; clear hbk; have hbk := blk_below (zero2S (w.alloc (.cells #[.int .i64 0, .int .i64 0] 26)) 50) HB.out; have HK2 := Lib.hid hbk; clear hbk; have q1 := blk_cell HK.out 0; have q2 := blk_cell HK.out 1; have q3 := blk_frozen HK.out 0; have q4 := blk_frozen HK.out 1; have k2 := HK2.out; simp only [World.size_alloc] at k2; have q5 := blk_cell k2 0; have q6 := blk_cell k2 1; have q7 := blk_frozen k2 0; have q8 := blk_frozen k2 1; have K2 := Lib.hid k2; clear k2)
    have n12 : w.heap.size ≠ w.heap.size + 1 := by omega
    have n21 : w.heap.size + 1 ≠ w.heap.size := by omega
    refine bodyPost_ret (results_cctt rfl _ _ w.heap.size (w.heap.size + 1) 26 50 #[.int .i64 0, .int .i64 0] #[.int .i64 0, .int .i64 0] (0, 0) (0, 0) _ _ rfl rfl (blk_far (blk_far (blk_put (blk_put HK.out 0 _ rfl) 1 _ rfl) n12 _) n12 _) (blk_put (blk_put (blk_far (blk_far K2.out n21 _) n21 _) 0 _ rfl) 1 _ rfl) Try.underlying26 Try.underlying50 rfl rfl (by kernel_rfl) (by kernel_rfl)) rfl ⟨rfl, ?_⟩
    have hb6 : Below w.heap.size w w' := (below_alloc (below_alloc (Below.refl _ w) _) _).trans (HB.out.mono (by simp; omega))
    exact (((hb6.setCell (p := ⟨w.heap.size, 0, none⟩) (Nat.le_refl _) _).setCell (p := ⟨w.heap.size, 1, none⟩) (Nat.le_refl _) _).setCell (p := ⟨w.heap.size + 1, 0, none⟩) (Nat.le_succ _) _).setCell (p := ⟨w.heap.size + 1, 1, none⟩) (Nat.le_succ _) _
end Go.Proofs.Ythngclneffngbaa.Pr
