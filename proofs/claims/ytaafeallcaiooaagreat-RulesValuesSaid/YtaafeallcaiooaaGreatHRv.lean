/- the reference's Value, on texts of terms. -/
import Derived.Test.YtaafeallcaiooaaGreatHVa
import Derived.Test.YtaafeallcaiooaaGreatHRt2
import Derived.Test.YtaafeallcaiooaaGreatHAp
namespace Go.Proofs.YtaafeallcaiooaaGreat.Pr
open Go.RowKit Go.Maps Go.Proofs.YtaafeallcaiooaaGreatW.PrintWords Go.Proofs.YtaafeallcaiooaaGreatW.PrintLast Go.Proofs.YtaafeallcaiooaaGreatW.PrintMore
set_option linter.unusedVariables false
set_option linter.unusedSimpArgs false
/-- where the parts of a term begin -/
def posn : Nat → List Tm → List Int
  | _, [] => []
  | p, t :: ts => ((p + 1 : Nat) : Int) :: posn (p + 1 + t.tx.length) ts
theorem posn_len : ∀ (ts : List Tm) (p : Nat), (posn p ts).length = ts.length
  | [], _ => rfl
  | t :: ts, p => by rw [posn, List.length_cons, List.length_cons, posn_len ts]
theorem starts_step (s : ByteArray) (h0 : 0 < s.size) (acc : List Int) (p j : Int) (k : Nat) : numnahref08_starts.l0 (k + 1) s 0 acc p j = (numnahref08_Parts.f k (bt s 0)).bind fun t178 => (if j < t178 then (if acc.length < 17592186044416 then ((numnahref08_End.f k s p).bind fun t182 => (numnahref08_starts.l0 k s 0 (acc ++ [p]) (wrap64 (t182 + 1)) (wrap64 (j + 1)))) else none) else some acc) := by
  rw [numnahref08_starts.l0, if_pos (by decide), if_pos (by omega)]
theorem startsL (s : ByteArray) (hs : s.size ≤ 140737488351232) (n : Nat) (hb : prt (bt s 0) = (n : Int)) (h0 : 0 < s.size) (hn2 : n ≤ 2) : ∀ (l : List Tm) (j p : Nat) (r : List UInt8) (acc : List Int), (∀ x, x ∈ l → x.good) → j + l.length = n → acc.length = j → (l = [] ∨ s.data.toList.drop p = txM j l ++ r) →
    Evt (fun k => numnahref08_starts.l0 k s 0 acc ((p + 1 : Nat) : Int) (j : Int)) (acc ++ posn p l)
  | [], j, p, r, acc, hx, hj, ha, h => by
    have hj2 : j = n := by simpa using hj
    refine Evt.step (fun k => starts_step s h0 acc ((p + 1 : Nat) : Int) (j : Int) k) ?_
    refine Evt.bind (partsE _) ?_
    rw [hb]
    refine Evt.neg (by omega) ?_
    rw [posn, List.append_nil]
    exact Evt.all fun k => rfl
  | x :: l, j, p, r, acc, hx, hj, ha, h => by
    have h := h.resolve_left (by simp)
    rw [txM, List.cons_append, List.append_assoc] at h
    obtain ⟨h1, h2, h3⟩ := at_cons h
    have hE := rEndE s hs x (hx x (by simp)) (p + 1) _ h3
    have hlen : j < n := by rw [List.length_cons] at hj; omega
    have hsz : p + 1 + x.tx.length ≤ s.size := by
      have h4 := congrArg List.length h3
      rw [List.length_drop, List.length_append] at h4
      have : s.data.toList.length = s.size := by simp
      omega
    have c1 : (j : Int) < (n : Int) := by omega
    have c2 : acc.length < 17592186044416 := Nat.lt_trans (show acc.length < 3 by omega) (by decide)
    have hjl : j + 1 + l.length = n := by rw [List.length_cons] at hj; omega
    have hwj : wrap64 ((j : Int) + 1) = ((j + 1 : Nat) : Int) := (wr (by omega) (by omega)).trans (by omega)
    have hw : wrap64 (((p + 1 : Nat) : Int) + x.tx.length + 1) = ((p + 1 + x.tx.length + 1 : Nat) : Int) := by
      clear hwj
      exact (wr (by omega) (by omega)).trans (by omega)
    refine Evt.step (fun k => starts_step s h0 acc ((p + 1 : Nat) : Int) (j : Int) k) ?_
    refine Evt.bind (partsE _) ?_
    rw [hb]
    simp only [if_pos c1, if_pos c2]
    refine Evt.bind hE ?_
    rw [hw, hwj]
    have := startsL s hs n hb h0 hn2 l (j + 1) (p + 1 + x.tx.length) r (acc ++ [((p + 1 : Nat) : Int)]) (fun y hy => hx y (by simp [hy])) hjl (by simp [ha]) (.inr (drop_app h3))
    refine this.val ?_
    rw [posn, List.append_assoc]
    rfl
theorem tx_posn {s : ByteArray} {c : Int} {ts : List Tm} (hg : (Tm.app c ts).good) (h : s.data.toList = (Tm.app c ts).tx) : 0 < s.size ∧ bt s 0 = c ∧ (ts = [] ∨ s.data.toList.drop 1 = txM 0 ts ++ [41]) := by
  have hl2 := good_len hg
  rw [Tm.good] at hg
  have hc := ch_toNat (c := c) (by omega)
  have h1 : s.data.toList.drop 0 = ch c :: (if ts.length = 0 then [] else txM 0 ts ++ [41]) := by rw [List.drop_zero, h, tx_app2 c ts hl2]
  obtain ⟨a, b, d⟩ := at_cons h1
  refine ⟨a, by rw [← hc]; exact b, ?_⟩
  by_cases h0 : ts.length = 0
  · exact .inl (List.eq_nil_of_length_eq_zero h0)
  · rw [if_neg h0] at d
    exact .inr d
theorem startsE (s : ByteArray) (hs : s.size ≤ 140737488351232) (c : Int) (ts : List Tm) (hg : (Tm.app c ts).good) (h : s.data.toList = (Tm.app c ts).tx) : Evt (fun k => numnahref08_starts.f k s 0) (posn 1 ts) := by
  have hl2 := good_len hg
  obtain ⟨a, b, d⟩ := tx_posn hg h
  rw [Tm.good] at hg
  have hp := prt_sym hg.1
  refine (startsL s hs ts.length (by rw [b, hp]; exact hg.2.1.symm) a hl2 ts 0 1 [41] [] (fun x hx => goods_mem hg.2.2 hx) (by omega) rfl d).congr fun k => ?_
  have e : wrap64 (0 + 2) = ((1 + 1 : Nat) : Int) := by kernel_rfl
  rw [numnahref08_starts.f, e]
  rfl
theorem posn_at (s : ByteArray) : ∀ (l : List Tm) (j p i : Nat) (r : List UInt8) (hi : i < l.length), s.data.toList.drop p = txM j l ++ r → ∃ (q : Nat) (r' : List UInt8), rd (posn p l) (i : Int) = (q : Int) ∧ s.data.toList.drop q = l[i].tx ++ r'
  | x :: l, j, p, 0, r, hi, h => by
    rw [txM, List.cons_append, List.append_assoc] at h
    obtain ⟨h1, h2, h3⟩ := at_cons h
    exact ⟨p + 1, _, rfl, h3⟩
  | x :: l, j, p, i + 1, r, hi, h => by
    rw [txM, List.cons_append, List.append_assoc] at h
    obtain ⟨h1, h2, h3⟩ := at_cons h
    obtain ⟨q, r', a, b⟩ := posn_at s l (j + 1) (p + 1 + x.tx.length) i r (by simpa using hi) (drop_app h3)
    refine ⟨q, r', ?_, b⟩
    rw [← a]
    simp only [rd, Int.toNat_natCast, posn]
    rfl
theorem sliceT (s : ByteArray) (q : Nat) (t : Tm) (r : List UInt8) (h : s.data.toList.drop q = t.tx ++ r) (hq : q ≤ s.size) (w : World) : (Instr.sliceAt 9 (.string s) (some (.int .i64 (q : Int))) (some (.int .i64 ((q : Int) + t.tx.length))) none).run Tryz.prog w = .ok (.string t.text) w := by
  have hsz : q + t.tx.length ≤ s.size := by
    have h4 := congrArg List.length h
    rw [List.length_drop, List.length_append] at h4
    have : s.data.toList.length = s.size := by simp
    omega
  have h1 := run_slice_string (P := Tryz.prog) w 9 s .i64 .i64 (q : Int) ((q : Int) + t.tx.length) Tryz.underlying9 (by omega) (by omega) (by omega)
  have h2 : s.extract (q : Int).toNat ((q : Int) + t.tx.length).toNat = t.text := by
    apply ByteArray.ext
    apply Array.ext'
    have e1 : ((q : Int) + t.tx.length).toNat = q + t.tx.length := by omega
    rw [e1, Int.toNat_natCast, ByteArray.data_extract, Array.toList_extract]
    have h4 : (s.data.toList.drop q).take (q + t.tx.length - q) = t.tx := by
      rw [h, show q + t.tx.length - q = t.tx.length by omega, List.take_left]
    have h5 : t.text.data.toList = t.tx := by unfold Tm.text; simp
    rw [h5]
    first | exact h4 | (rw [List.extract_eq_take_drop]; exact h4) | (rw [List.extract_eq_drop_take]; exact h4) | simpa using h4
  rw [h2] at h1
  simp [go_sem, Instr.sliceAt, run_underlying Tryz.underlying9, Sem.run_bind, h1]
theorem vals_set25 {w : World} {g : Nat} {f : Nat → Int} (h : w.heap[g]? = some (.cells (vals f) 25 (0, 0))) (k : Nat) (hk : k < 4) (v : Int) : (w.setCell ⟨g, k, none⟩ (.int .i64 v)).heap[g]? = some (.cells (vals (updN f k v)) 25 (0, 0)) := by
  have : k = 0 ∨ k = 1 ∨ k = 2 ∨ k = 3 := by omega
  rcases this with rfl | rfl | rfl | rfl <;> simp [World.setCell, Array.getElem?_modify, h, vals, updN]
theorem tx_pos : ∀ t : Tm, 0 < t.tx.length
  | .var c => by rw [Tm.tx]; simp
  | .app s l => by rw [Tm.tx]; split <;> simp
theorem add_blk (a : Addr) (j : Nat) : (a.add j).block = a.block := by
  unfold Addr.add
  split <;> rfl
theorem add_succ' (a : Addr) (i : Nat) : a.add (1 + i) = ⟨a.block, a.off + (i + 1), none⟩ := by
  unfold Addr.add
  rw [Nat.add_comm 1 i]
  simp
theorem But.cell {g : Nat} {w w' : World} (h : But g w w') {a : Addr} (hl : a.block < w.heap.size) (hg : a.block ≠ g) : w'.cell? a = w.cell? a := by
  have := h.block a.block hl hg
  unfold World.cell?
  rw [this]
def RvOk (l : List (List Int)) (t : Tm) : Prop := ∀ (A : Option Addr) (cap : Nat) (w : World), Kd.C (Kd.slice 3 (Kd.int .i64)) w A l.length l → t.good → t.tx.length ≤ 1000000 → Calls Tryz.prog 27 #[.slice A l.length cap, .string t.text] w fun e w' => e = .returned (.agg (vals (ofT l t))) ∧ Below w.heap.size w w'
set_option maxRecDepth 100000 in
set_option maxHeartbeats 1000000 in
theorem rv_var (l : List (List Int)) (c : Int) (hc : 120 ≤ c ∧ c ≤ 122) (A : Option Addr) (cap : Nat) (w : World) (s : ByteArray) (h0 : 0 < s.size) (hb : bt s 0 = c) :
    Calls Tryz.prog 27 #[.slice A l.length cap, .string s] w fun e w' => e = .returned (.agg (vals (ofT l (.var c)))) ∧ Below w.heap.size w w' := by
  have hB : ∀ o1 o2, Below w.heap.size w ((w.alloc o1).alloc o2) := fun o1 o2 => below_alloc (below_alloc (Below.refl _ _) _) _
  have hx : ∀ h : 0 < s.size, (((s[0]'h).toNat : Nat) : Int) = c := fun h => (bt_at s 0 h).trans hb
  replace h0 := eq_true h0
  clear hb
  have h : c = 120 ∨ c = 121 ∨ c = 122 := by omega
  rcases h with rfl | rfl | rfl
  · have hh : ((w.alloc (.cells #[.int .i64 0, .int .i64 1, .int .i64 0, .int .i64 0] 25)).alloc (.cells #[.int .i64 0, .int .i64 1, .int .i64 0, .int .i64 0] 25)).heap[w.heap.size]? = some (.cells #[.int .i64 0, .int .i64 1, .int .i64 0, .int .i64 0] 25 (0, 0)) := blk_alloc (blk_new w _) _
    have hv : vals (ofT l (.var 120)) = #[.int .i64 0, .int .i64 1, .int .i64 0, .int .i64 0] := by unfold vals; rw [ofT]; rfl
    rw [hv]
    have HC := Aside0.mk (isvar_calls 120 w)
    rw [show isVarI 120 = true from rfl] at HC
    have HC' := Aside0.mk (isvar_calls 120)
    rw [show isVarI 120 = true from rfl] at HC'
    clear hv
    go_enter Tryz.func27, Tryz.ntmps27
    go_wp2_with (go_at_call 74; refine (HC'.out _).mono ?_; rintro e w1 ⟨rfl, h1⟩; subst w1)
    refine bodyPost_ret (results_cell_row (P := Tryz.prog) rfl _ _ w.heap.size 25 _ (0, 0) _ rfl hh Tryz.underlying25 rfl (by kernel_rfl)) rfl ?_
    exact ⟨rfl, hB _ _⟩
  · have hh : ((w.alloc (.cells #[.int .i64 0, .int .i64 0, .int .i64 1, .int .i64 0] 25)).alloc (.cells #[.int .i64 0, .int .i64 0, .int .i64 1, .int .i64 0] 25)).heap[w.heap.size]? = some (.cells #[.int .i64 0, .int .i64 0, .int .i64 1, .int .i64 0] 25 (0, 0)) := blk_alloc (blk_new w _) _
    have hv : vals (ofT l (.var 121)) = #[.int .i64 0, .int .i64 0, .int .i64 1, .int .i64 0] := by unfold vals; rw [ofT]; rfl
    rw [hv]
    have HC := Aside0.mk (isvar_calls 121 w)
    rw [show isVarI 121 = true from rfl] at HC
    have HC' := Aside0.mk (isvar_calls 121)
    rw [show isVarI 121 = true from rfl] at HC'
    clear hv
    go_enter Tryz.func27, Tryz.ntmps27
    go_wp2_with (go_at_call 74; refine (HC'.out _).mono ?_; rintro e w1 ⟨rfl, h1⟩; subst w1)
    refine bodyPost_ret (results_cell_row (P := Tryz.prog) rfl _ _ w.heap.size 25 _ (0, 0) _ rfl hh Tryz.underlying25 rfl (by kernel_rfl)) rfl ?_
    exact ⟨rfl, hB _ _⟩
  · have hh : ((w.alloc (.cells #[.int .i64 0, .int .i64 0, .int .i64 0, .int .i64 1] 25)).alloc (.cells #[.int .i64 0, .int .i64 0, .int .i64 0, .int .i64 1] 25)).heap[w.heap.size]? = some (.cells #[.int .i64 0, .int .i64 0, .int .i64 0, .int .i64 1] 25 (0, 0)) := blk_alloc (blk_new w _) _
    have hv : vals (ofT l (.var 122)) = #[.int .i64 0, .int .i64 0, .int .i64 0, .int .i64 1] := by unfold vals; rw [ofT]; rfl
    rw [hv]
    have HC := Aside0.mk (isvar_calls 122 w)
    rw [show isVarI 122 = true from rfl] at HC
    have HC' := Aside0.mk (isvar_calls 122)
    rw [show isVarI 122 = true from rfl] at HC'
    clear hv
    go_enter Tryz.func27, Tryz.ntmps27
    go_wp2_with (go_at_call 74; refine (HC'.out _).mono ?_; rintro e w1 ⟨rfl, h1⟩; subst w1)
    refine bodyPost_ret (results_cell_row (P := Tryz.prog) rfl _ _ w.heap.size 25 _ (0, 0) _ rfl hh Tryz.underlying25 rfl (by kernel_rfl)) rfl ?_
    exact ⟨rfl, hB _ _⟩
set_option maxRecDepth 100000 in
set_option maxHeartbeats 4000000 in
theorem rv_app (l : List (List Int)) (hrd : isRd l = true) (c : Int) (ts : List Tm) (ih : ∀ x, x ∈ ts → RvOk l x) (A : Option Addr) (cap : Nat) (w : World) (hC : Kd.C (Kd.slice 3 (Kd.int .i64)) w A l.length l) (hg : (Tm.app c ts).good) (s : ByteArray) (hss : s.data.toList = (Tm.app c ts).tx) (hsl : s.size ≤ 1000000) :
    Calls Tryz.prog 27 #[.slice A l.length cap, .string s] w fun e w' => e = .returned (.agg (vals (ofT l (.app c ts)))) ∧ Below w.heap.size w w' := by
  have hl2 := good_len hg
  obtain ⟨hs0, hbt, hdr⟩ := tx_posn hg hss
  obtain ⟨ks, hks⟩ := (startsE s (by omega) c ts hg hss).ex
  rw [Tm.good] at hg
  have hrd2 : l.length = 6 ∧ isRdF 0 l = true := by
    unfold isRd at hrd
    simpa using hrd
  obtain ⟨hl6, hrF⟩ := hrd2
  have hsi : (c - 97).toNat < l.length := by omega
  have hrow := isRdF_at l 0 _ hrF hsi
  rw [Nat.zero_add] at hrow
  have hra : rowAt l c = l[(c - 97).toNat] := by unfold rowAt; rw [List.getD_eq_getElem?_getD, List.getElem?_eq_getElem hsi]; rfl
  obtain ⟨ad, A0, c0, rfl, hcell, hlc, hCr⟩ := at_L1 hC (c - 97) (by omega) (by omega)
  have hrd1 : rd_L1 l (c - 97) = rowAt l c := rfl
  rw [hrd1] at hcell hlc hCr
  have hrl : ((rowAt l c).length : Int) = 1 + ts.length := by
    rw [← hra] at hrow
    unfold rowOk at hrow
    simp only [Bool.and_eq_true, decide_eq_true_eq] at hrow
    have h1 := hrow.1
    have h2 := hg.2.1
    rw [show (97 : Int) + ((c - 97).toNat : Nat) = c by omega] at h1
    omega
  have hof : ofT l (.app c ts) = ofL l (rowAt l c) 0 ts (fun k => if k = 0 then (rowAt l c).getD 0 0 else 0) := by rw [ofT]
  rw [hof]
  obtain ⟨R, hR⟩ : ∃ R, R = ofL l (rowAt l c) 0 ts (fun k => if k = 0 then (rowAt l c).getD 0 0 else 0) := ⟨_, rfl⟩
  rw [← hR]
  generalize rowAt l c = row at *
  obtain ⟨ad0, rfl, hc0⟩ := Kd.at_int hCr 0 (by omega) (by omega)
  have hc00 : w.cell? ad0 = some (.int .i64 (row.getD 0 0)) := by
    have := hc0
    simpa [Addr.add, rd] using this
  have hs00 : 0 ≤ c - 97 ∧ c - 97 ≤ 255 := by omega
  have hws : IntKind.u8.wrap (c - 97) = c - 97 := Go.IntWalk.u8_in _ (by omega)
  have hslt : c - 97 < (l.length : Int) := by omega
  have hr0 : 0 < row.length := by omega
  have hiv : isVarI c = false := by
    unfold isVarI
    have : decide (c ≥ 120) = false := decide_eq_false (by omega)
    rw [this]; rfl
  have hcv := isvar_calls c
  rw [hiv] at hcv
  have hcellA : ∀ o1, (w.alloc o1).cell? (ad.add (c - 97).toNat) = some (.slice (some ad0) row.length c0) := fun o1 => ((below_alloc (Below.refl _ _) o1).cell (World.block_lt_of_cell? w _ hcell)).trans hcell
  have hRC : ∀ i : Nat, 1 + i < row.length → ∀ w', Below w.heap.size w w' → w'.cell? (ad0.add (1 + i)) = some (.int .i64 (row.getD (1 + i) 0)) := by
    intro i hi w' hb
    obtain ⟨ad1, e1, hc1⟩ := Kd.at_int (Kd.C_below hCr hb) ((1 + i : Nat) : Int) (by omega) (by omega)
    obtain rfl : ad0 = ad1 := by injection e1
    have h1 : rd row ((1 + i : Nat) : Int) = row.getD (1 + i) 0 := by simp only [rd, Int.toNat_natCast]
    rw [h1, Int.toNat_natCast] at hc1
    exact hc1
  obtain ⟨r0, hr0e⟩ : ∃ r0, r0 = row.getD 0 0 := ⟨_, rfl⟩
  rw [← hr0e] at hR hc00
  have hcellB : ∀ o1, (w.alloc o1).cell? ad0 = some (.int .i64 r0) := fun o1 => ((below_alloc (Below.refl _ _) o1).cell (World.block_lt_of_cell? w _ hc00)).trans hc00
  have hx : ∀ h : 0 < s.size, (((s[0]'h).toNat : Nat) : Int) = c := fun h => (bt_at s 0 h).trans hbt
  have hs0t := eq_true hs0
  have HRC := Aside0.mk hRC
  have HCV := Aside0.mk hcv
  have HST : Aside0 (∀ w', Calls Tryz.prog 75 #[.string s, .int .i64 0] w' fun e w1 => ∃ A2 c2, e = .returned (.slice A2 (posn 1 ts).length c2) ∧ (∀ a, A2 = some a → w'.heap.size ≤ a.block) ∧ Kd.C (Kd.int .i64) w1 A2 (posn 1 ts).length (posn 1 ts) ∧ Below w'.heap.size w' w1) := ⟨fun w' => by
    refine (numnahref08_starts.calls ks s 0 _ w' hks).mono ?_
    rintro e w1 ⟨v, rfl, hv, hb⟩
    have hbase := Kd.R_base hv
    obtain ⟨A2, c2, rfl, _, hC2⟩ := Kd.R_reads hv
    refine ⟨A2, c2, rfl, ?_, hC2, hb⟩
    intro a ha
    subst ha
    exact hbase a.block rfl⟩
  have hpl := posn_len ts 1
  have HW := Aside0.mk (And.intro ih (And.intro hC (And.intro hg (And.intro hR (And.intro hrl (And.intro hCr (And.intro hl2 hl6)))))))
  have HT := Aside0.mk (And.intro hss (And.intro hsl (And.intro hdr hpl)))
  clear ih hC hg hR hrl hCr hl2 hl6 hof hrow hra hrF hrd hrd1 hc0 hRC hr0e hss hsl hdr hpl hcv hiv hbt hs0 hks
  go_enter Tryz.func27, Tryz.ntmps27
  go_wp2_with (first | (go_at_call 74; refine (HCV.out _).mono ?_; rintro e w1 ⟨rfl, h1⟩; subst w1) | (go_at_call 75; refine (HST.out _).mono ?_; rintro e w3 ⟨A2, c2, rfl, hA2, hC2, hb3⟩; have H3 := Aside0.mk (And.intro hA2 (And.intro hC2 hb3)); clear hA2 hC2 hb3))
  have HB3 : Aside0 (Below w.heap.size w w3) := ⟨below_on (below_alloc (below_alloc (Below.refl _ _) _) _) H3.out.2.2⟩
  have HO3 : Aside0 (w3.heap[w.heap.size + 1]? = some (.cells (vals (fun k => if k = 0 then r0 else 0)) 25 (0, 0))) := ⟨blk_below (blk_new1 w _ _) H3.out.2.2⟩
  have HZ3 : Aside0 (w3.heap[w.heap.size]? = some (.cells (vals (fun _ => 0)) 25 (0, 0))) := ⟨blk_below (blk_alloc (blk_new w _) _) H3.out.2.2⟩
  have HA3 : Aside0 (∀ a, A2 = some a → w.heap.size + 2 ≤ a.block) := ⟨fun a ha => by have := H3.out.1 a ha; simpa using this⟩
  have HC3 := Aside0.mk H3.out.2.1
  have HS3 : Aside0 (w.heap.size + 2 ≤ w3.heap.size) := ⟨by have := H3.out.2.2.size; simpa using this⟩
  clear H3 hcellA hcellB hcell hc00 hws hs00 hsi hx hs0t HST HCV
  go_loopw [9] (fun v9 wr => ∃ (i : Nat) (f : Nat → Int), v9 = .int .i64 (i : Int) ∧ Aside0 (i ≤ ts.length) ∧ Aside0 (wr.heap[w.heap.size + 1]? = some (.cells (vals f) 25 (0, 0))) ∧ Aside0 (∀ k, k < 4 → R k = ofL l row i (ts.drop i) f k) ∧ Aside0 (But (w.heap.size + 1) w3 wr)) (fun v9 _ => ts.length - (intOf v9).toNat)
  case atStart =>
    refine ⟨0, fun k => if k = 0 then r0 else 0, rfl, ⟨Nat.zero_le _⟩, HO3, ⟨?_⟩, ⟨But.refl _ _⟩⟩
    intro k _
    rw [HW.out.2.2.2.1, List.drop_zero]
  case round =>
    obtain ⟨i, f, rfl, HI, HO, HR, HB⟩ := hrel
    obtain ⟨ih, hC, hg, hR, hrl, hCr, hl2, hl6⟩ := HW.out
    obtain ⟨hss, hsl, hdr, hpl⟩ := HT.out
    have HBel : ∀ w1 w2 : World, But (w.heap.size + 1) w3 w1 → Below w1.heap.size w1 w2 → Below w.heap.size w w2 := fun w1 w2 h1 h2 => HB3.out.trans (((h1.trans (But.of_below h2)).below (Nat.le_succ _) (by have := HS3.out; omega)))
    by_cases hlt : i < ts.length
    · have hlb : decide ((i : Int) < ((posn 1 ts).length : Int)) = true := decide_eq_true (by omega)
      obtain ⟨q, r', hq, hqd⟩ := posn_at s ts 0 1 i [41] hlt (hdr.resolve_left (fun h => by rw [h] at hlt; exact absurd hlt (Nat.not_lt_zero _)))
      obtain ⟨adp, rfl, hcp⟩ := Kd.at_int HC3.out (i : Int) (by omega) (by omega)
      rw [hq, Int.toNat_natCast] at hcp
      have hpb := HA3.out adp rfl
      have hqs : q ≤ s.size := by
        rcases Nat.lt_or_ge s.size q with h | h
        · exfalso
          have h4 := congrArg List.length hqd
          rw [List.length_drop, List.length_append] at h4
          have h5 : s.data.toList.length = s.size := by simp
          have h6 := (goods_mem hg.2.2 (List.getElem_mem hlt))
          have h7 : 0 < ts[i].tx.length := tx_pos ts[i]
          omega
        · exact h
      have hsl2 := sliceT s q ts[i] r' hqd hqs
      obtain ⟨ke, hke⟩ := (rEndE s (by omega) ts[i] (goods_mem hg.2.2 (List.getElem_mem hlt)) q r' hqd).ex
      have hEC : ∀ w', Calls Tryz.prog 72 #[.string s, .int .i64 (q : Int)] w' fun e w1 => e = .returned (.int .i64 ((q : Int) + ts[i].tx.length)) ∧ Below w'.heap.size w' w1 := fun w' => by
        refine (numnahref08_End.calls ke s (q : Int) _ w' hke).mono ?_
        rintro e w1 ⟨rfl, nd, rfl⟩
        exact ⟨rfl, pw_below_drewN (Below.refl _ _) nd⟩
      have hxl : ts[i].tx.length ≤ 1000000 := by
        have h4 := congrArg List.length hqd
        rw [List.length_drop, List.length_append] at h4
        have h5 : s.data.toList.length = s.size := by simp
        omega
      have hIH : ∀ w', Below w.heap.size w w' → Calls Tryz.prog 27 #[.slice (some ad) l.length cap, .string ts[i].text] w' fun e w1 => e = .returned (.agg #[.int .i64 (ofT l ts[i] 0), .int .i64 (ofT l ts[i] 1), .int .i64 (ofT l ts[i] 2), .int .i64 (ofT l ts[i] 3)]) ∧ Below w'.heap.size w' w1 := fun w' hb => ih ts[i] (List.getElem_mem hlt) (some ad) cap w' (Kd.C_below hC hb) (goods_mem hg.2.2 (List.getElem_mem hlt)) hxl
      have hd : ts.drop i = ts[i] :: ts.drop (i + 1) := List.drop_eq_getElem_cons hlt
      have hRn := HR.out
      rw [hd] at hRn
      simp only [ofL] at hRn
      have HRN := Aside0.mk hRn
      have HRC2 : Aside0 (∀ w', But (w.heap.size + 1) wr w' → w'.cell? ⟨ad0.block, ad0.off + (i + 1), none⟩ = some (.int .i64 (row.getD (1 + i) 0))) := by
        refine ⟨fun w' hb => ?_⟩
        rw [← add_succ']
        exact HRC.out i (by omega) w' (HB3.out.trans ((HB.out.trans hb).below (Nat.le_succ _) (by have := HS3.out; omega)))
      have hir : (i : Int) + 1 < (row.length : Int) := by omega
      have hil : (i : Int) < ((posn 1 ts).length : Int) := by omega
      have hAt : ∀ w', But (w.heap.size + 1) wr w' → w'.cell? (adp.add i) = some (.int .i64 (q : Int)) := fun w' hb => by
        rw [← hcp]
        exact (HB.out.trans hb).cell (World.block_lt_of_cell? w3 _ hcp) (by rw [add_blk]; omega)
      have hBel : ∀ w', But (w.heap.size + 1) wr w' → Below w.heap.size w w' := fun w' hb => HB3.out.trans ((HB.out.trans hb).below (Nat.le_succ _) (by have := HS3.out; omega))
      have w1 := wrO4 i (by omega)
      have HEC := Aside0.mk hEC
      have HIH := Aside0.mk hIH
      have HN := Aside0.mk (And.intro hrl (And.intro hl2 (And.intro hpl hlt)))
      generalize ts[i] = x at *
      obtain ⟨eq_, heq_⟩ : ∃ e, e = (q : Int) + x.tx.length := ⟨_, rfl⟩
      rw [← heq_] at hsl2
      simp only [← heq_] at HEC
      have HQ : Aside0 (0 ≤ (q : Int)) := ⟨Int.natCast_nonneg q⟩
      generalize (q : Int) = q at *
      generalize ofT l x = vt at *
      clear ih hC hg hR hrl hCr hl2 hl6 hd hRn HR hEC hIH hss hsl hdr hpl hqd hcp hpb hqs hke hxl hq heq_ HRC
      go_wp2
      refine start_ (n := 16) (S := fun w' => w'.cell? (adp.add i) = some (.int .i64 q)) (ds := [15]) #[false, false, false, false, false, false, false, false, false, false, false, false, false, false, false, false] (by kernel_rfl) rfl rfl ((hAt _ (But.of_below (below_draw _)))) (fun hHeld => ?_)
      refine pure_ (i := 0) (N := some 39) (v := ?_) (a' := ?_) #[true, false, false, false, false, false, false, false, false, false, false, false, false, false, false, false] rfl rfl (by kernel_rfl) (fun _ _ _ h => h) (Or.inl ⟨by rfl, ?_⟩) ?_ ?_
      rotate_left
      · intro w'
        go_simp
        with_reducible rfl
      rotate_left
      · simp only [Act.put, List.setIfInBounds_toArray, List.set_cons_zero, List.set_cons_succ, i64_w, i32_w]
        rfl
      refine pure_ (i := 1) (N := some 40) (v := ?_) (a' := ?_) #[true, true, false, false, false, false, false, false, false, false, false, false, false, false, false, false] rfl rfl (by kernel_rfl) (fun _ _ _ h => h) (Or.inl ⟨by rfl, ?_⟩) ?_ ?_
      rotate_left
      · intro w'
        go_simp
        with_reducible rfl
      rotate_left
      · simp only [Act.put, List.setIfInBounds_toArray, List.set_cons_zero, List.set_cons_succ, i64_w, i32_w]
        rfl
      refine pure_ (i := 2) (N := some 41) (v := ?_) (a' := ?_) #[true, true, true, false, false, false, false, false, false, false, false, false, false, false, false, false] rfl rfl (by kernel_rfl) (fun _ _ _ h => h) (Or.inl ⟨by rfl, ?_⟩) ?_ ?_
      rotate_left
      · intro w'
        go_simp
        with_reducible rfl
      rotate_left
      · simp only [Act.put, List.setIfInBounds_toArray, List.set_cons_zero, List.set_cons_succ, i64_w, i32_w]
        rfl
      refine pure_ (i := 3) (N := some 42) (v := ?_) (a' := ?_) #[true, true, true, true, false, false, false, false, false, false, false, false, false, false, false, false] rfl rfl (by kernel_rfl) (fun _ _ _ h => h) (Or.inl ⟨by rfl, ?_⟩) ?_ ?_
      rotate_left
      · intro w'
        go_simp
        with_reducible rfl
      rotate_left
      · simp only [Act.put, List.setIfInBounds_toArray, List.set_cons_zero, List.set_cons_succ, i64_w, i32_w]
        rfl
      refine pure_ (i := 4) (N := some 43) (v := ?_) (a' := ?_) #[true, true, true, true, true, false, false, false, false, false, false, false, false, false, false, false] rfl rfl (by kernel_rfl) (fun _ _ _ h => h) (Or.inl ⟨by rfl, ?_⟩) ?_ ?_
      rotate_left
      · intro w'
        go_simp
        with_reducible rfl
      rotate_left
      · simp only [Act.put, List.setIfInBounds_toArray, List.set_cons_zero, List.set_cons_succ, i64_w, i32_w]
        rfl
      refine pure_ (i := 6) (N := some 45) (v := ?_) (a' := ?_) #[true, true, true, true, true, false, true, false, false, false, false, false, false, false, false, false] rfl rfl (by kernel_rfl) (fun _ _ _ h => h) (Or.inl ⟨by rfl, ?_⟩) ?_ ?_
      rotate_left
      · intro w'
        go_simp
        with_reducible rfl
      rotate_left
      · simp only [Act.put, List.setIfInBounds_toArray, List.set_cons_zero, List.set_cons_succ, i64_w, i32_w]
        rfl
      refine pure_ (i := 7) (N := some 46) (v := ?_) (a' := ?_) #[true, true, true, true, true, false, true, true, false, false, false, false, false, false, false, false] rfl rfl (by kernel_rfl) (fun _ _ _ h => h) (Or.inl ⟨by rfl, ?_⟩) ?_ ?_
      rotate_left
      · intro w'
        go_simp
        with_reducible rfl
      rotate_left
      · simp only [Act.put, List.setIfInBounds_toArray, List.set_cons_zero, List.set_cons_succ, i64_w, i32_w]
        rfl
      refine pure_ (i := 8) (N := some 47) (v := ?_) (a' := ?_) #[true, true, true, true, true, false, true, true, true, false, false, false, false, false, false, false] rfl rfl (by kernel_rfl) (fun _ _ _ h => h) (Or.inl ⟨by rfl, ?_⟩) ?_ ?_
      rotate_left
      · intro w'
        go_simp
        with_reducible rfl
      rotate_left
      · simp only [Act.put, List.setIfInBounds_toArray, List.set_cons_zero, List.set_cons_succ, i64_w, i32_w]
        rfl
      refine pure_ (i := 9) (N := some 48) (v := ?_) (a' := ?_) #[true, true, true, true, true, false, true, true, true, true, false, false, false, false, false, false] rfl rfl (by kernel_rfl) (fun _ _ _ h => h) (Or.inl ⟨by rfl, ?_⟩) ?_ ?_
      rotate_left
      · intro w'
        go_simp
        with_reducible rfl
      rotate_left
      · simp only [Act.put, List.setIfInBounds_toArray, List.set_cons_zero, List.set_cons_succ, i64_w, i32_w]
        rfl
      refine take_ (i := 5) (N := some 44) (v := ?_) (a' := ?_) #[true, true, true, true, true, true, true, true, true, true, false, false, false, false, false, false] rfl rfl (by kernel_rfl) (fun _ _ _ h => h) (Or.inl ⟨by rfl, ?_⟩) hHeld ?_ ?_
      rotate_left
      · intro w' s0
        go_simp
        with_reducible rfl
      rotate_left
      · simp only [Act.put, List.setIfInBounds_toArray, List.set_cons_zero, List.set_cons_succ, i64_w, i32_w]
        rfl
      refine take_ (i := 10) (N := some 49) (v := ?_) (a' := ?_) #[true, true, true, true, true, true, true, true, true, true, true, false, false, false, false, false] rfl rfl (by kernel_rfl) (fun _ _ _ h => h) (Or.inl ⟨by rfl, ?_⟩) hHeld ?_ ?_
      rotate_left
      · intro w' s0
        go_simp
        with_reducible rfl
      rotate_left
      · simp only [Act.put, List.setIfInBounds_toArray, List.set_cons_zero, List.set_cons_succ, i64_w, i32_w]
        rfl
      refine join_ (σ := Nat) 1 #[true, true, true, true, true, true, true, true, true, true, true, true, true, true, true, false] (fun pb => [(50, .int .i64 eq_), (51, .string x.text), (52, .agg #[.int .i64 (vt 0), .int .i64 (vt 1), .int .i64 (vt 2), .int .i64 (vt 3)]), (10, .pointer (some ⟨pb, 0, none⟩))]) (fun pb w' => w'.heap[pb]? = some (.cells #[.int .i64 0, .int .i64 0, .int .i64 0, .int .i64 0] 25 (0, 0)) ∧ Below wr.heap.size wr w' ∧ wr.heap.size ≤ pb) ?_ ?_
      rotate_left
      · intro hCont
        refine two_ (i := 11) (j := 14) (Ni := some 50) (Nj := some 10) #[true, true, true, true, true, true, true, true, true, true, true, true, false, false, false, false] #[true, true, true, true, true, true, true, true, true, true, true, false, false, false, true, false] rfl rfl rfl rfl (by kernel_rfl) (by decide) (by decide) (fun K hK => ?_) (fun K hK => ?_)
        · skip
          refine goes_ Tryz.func72 (by kernel_rfl) rfl #[.string s, .int .i64 q] (by rfl) rfl rfl (by simp only [List.map_toArray, List.map_cons, List.map_nil]; rfl) ?_
          with_reducible refine (HEC.out _).mono ?_
          rintro e w4 ⟨rfl, hb4⟩
          refine ⟨_, rfl, ?_⟩
          refine hK.out _ _ ((hAt _ (But.of_below (below_on (below_draw _) hb4)))) (fun hHeld => ?_)
          clear hK K
          refine norm_ (a' := ?_) ?_ ?_
          rotate_left
          · show Act.put _ (some 50) _ = _
            simp only [Act.put, List.setIfInBounds_toArray, List.set_cons_zero, List.set_cons_succ, i64_w, i32_w]
            rfl
          refine pure_ (i := 12) (N := some 51) (v := ?_) (a' := ?_) #[true, true, true, true, true, true, true, true, true, true, true, true, true, false, false, false] rfl rfl (by kernel_rfl) (fun _ _ _ h => h) (Or.inl ⟨by rfl, ?_⟩) ?_ ?_
          rotate_left
          · intro w'
            go_simp
            with_reducible rfl
          rotate_left
          · simp only [Act.put, List.setIfInBounds_toArray, List.set_cons_zero, List.set_cons_succ, i64_w, i32_w]
            rfl
          refine two_ (i := 13) (j := 14) (Ni := some 52) (Nj := some 10) #[true, true, true, true, true, true, true, true, true, true, true, true, true, true, false, false] #[true, true, true, true, true, true, true, true, true, true, true, true, true, false, true, false] rfl rfl rfl rfl (by kernel_rfl) (by decide) (by decide) (fun K hK => ?_) (fun K hK => ?_)
          · skip
            refine goes_ Tryz.func27 (by kernel_rfl) rfl #[.slice (some ad) l.length cap, .string x.text] (by rfl) rfl rfl (by simp only [List.map_toArray, List.map_cons, List.map_nil]; rfl) ?_
            with_reducible refine (HIH.out _ (hBel _ (But.of_below (below_on (below_draw _) hb4)))).mono ?_
            rintro e w5 ⟨rfl, hb5⟩
            refine ⟨_, rfl, ?_⟩
            refine hK.out _ _ ((hAt _ (But.of_below (below_on (below_on (below_draw _) hb4) hb5)))) (fun hHeld => ?_)
            clear hK K
            refine norm_ (a' := ?_) ?_ ?_
            rotate_left
            · show Act.put _ (some 52) _ = _
              simp only [Act.put, List.setIfInBounds_toArray, List.set_cons_zero, List.set_cons_succ, i64_w, i32_w]
              rfl
            refine one_ (i := 14) (N := some 10) #[true, true, true, true, true, true, true, true, true, true, true, true, true, true, true, false] rfl rfl (by kernel_rfl) (by decide) (fun K hK => ?_)
            refine value_ (w1 := ?_) (v := ?_) (by rfl) rfl ?_ ?_
            rotate_left 2
            · go_simp
              constructor
              · rfl
              · rfl
            refine hK.out _ _ ((hAt _ (But.of_below (below_on (below_on (below_on (below_draw _) hb4) hb5) (below_alloc (Below.refl _ _) (.cells #[.int .i64 0, .int .i64 0, .int .i64 0, .int .i64 0] 25)))))) (fun hHeld => ?_)
            clear hK K
            refine norm_ (a' := ?_) ?_ ?_
            rotate_left
            · show Act.put _ (some 10) _ = _
              simp only [Act.put, List.setIfInBounds_toArray, List.set_cons_zero, List.set_cons_succ, i64_w, i32_w]
              rfl
            exact norm_ (by simp only [putAll, Act.put, List.setIfInBounds_toArray, List.set_cons_zero, List.set_cons_succ]) (hCont (w5.heap.size) _ ⟨(blk_new _ _), (below_on (below_on (below_on (below_draw _) hb4) hb5) (below_alloc (Below.refl _ _) (.cells #[.int .i64 0, .int .i64 0, .int .i64 0, .int .i64 0] 25))), (below_on (below_on (below_draw _) hb4) hb5).size⟩)
          · skip
            refine value_ (w1 := ?_) (v := ?_) (by rfl) rfl ?_ ?_
            rotate_left 2
            · go_simp
              constructor
              · rfl
              · rfl
            refine hK.out _ _ ((hAt _ (But.of_below (below_on (below_on (below_draw _) hb4) (below_alloc (Below.refl _ _) (.cells #[.int .i64 0, .int .i64 0, .int .i64 0, .int .i64 0] 25)))))) (fun hHeld => ?_)
            clear hK K
            refine norm_ (a' := ?_) ?_ ?_
            rotate_left
            · show Act.put _ (some 10) _ = _
              simp only [Act.put, List.setIfInBounds_toArray, List.set_cons_zero, List.set_cons_succ, i64_w, i32_w]
              rfl
            refine one_ (i := 13) (N := some 52) #[true, true, true, true, true, true, true, true, true, true, true, true, true, true, true, false] rfl rfl (by kernel_rfl) (by decide) (fun K hK => ?_)
            refine goes_ Tryz.func27 (by kernel_rfl) rfl #[.slice (some ad) l.length cap, .string x.text] (by rfl) rfl rfl (by simp only [List.map_toArray, List.map_cons, List.map_nil]; rfl) ?_
            with_reducible refine (HIH.out _ (hBel _ (But.of_below (below_on (below_on (below_draw _) hb4) (below_alloc (Below.refl _ _) (.cells #[.int .i64 0, .int .i64 0, .int .i64 0, .int .i64 0] 25)))))).mono ?_
            rintro e w5 ⟨rfl, hb5⟩
            refine ⟨_, rfl, ?_⟩
            refine hK.out _ _ ((hAt _ (But.of_below (below_on (below_on (below_on (below_draw _) hb4) (below_alloc (Below.refl _ _) (.cells #[.int .i64 0, .int .i64 0, .int .i64 0, .int .i64 0] 25))) hb5)))) (fun hHeld => ?_)
            clear hK K
            refine norm_ (a' := ?_) ?_ ?_
            rotate_left
            · show Act.put _ (some 52) _ = _
              simp only [Act.put, List.setIfInBounds_toArray, List.set_cons_zero, List.set_cons_succ, i64_w, i32_w]
              rfl
            exact norm_ (by simp only [putAll, Act.put, List.setIfInBounds_toArray, List.set_cons_zero, List.set_cons_succ]) (hCont (w4.heap.size) _ ⟨(blk_below (blk_new _ _) hb5), (below_on (below_on (below_on (below_draw _) hb4) (below_alloc (Below.refl _ _) (.cells #[.int .i64 0, .int .i64 0, .int .i64 0, .int .i64 0] 25))) hb5), (below_on (below_draw _) hb4).size⟩)
        · skip
          refine value_ (w1 := ?_) (v := ?_) (by rfl) rfl ?_ ?_
          rotate_left 2
          · go_simp
            constructor
            · rfl
            · rfl
          refine hK.out _ _ ((hAt _ (But.of_below (below_on (below_alloc (Below.refl _ _) (.cells #[.int .i64 0, .int .i64 0, .int .i64 0, .int .i64 0] 25)) (below_draw _))))) (fun hHeld => ?_)
          clear hK K
          refine norm_ (a' := ?_) ?_ ?_
          rotate_left
          · show Act.put _ (some 10) _ = _
            simp only [Act.put, List.setIfInBounds_toArray, List.set_cons_zero, List.set_cons_succ, i64_w, i32_w]
            rfl
          refine one_ (i := 11) (N := some 50) #[true, true, true, true, true, true, true, true, true, true, true, true, false, false, true, false] rfl rfl (by kernel_rfl) (by decide) (fun K hK => ?_)
          refine goes_ Tryz.func72 (by kernel_rfl) rfl #[.string s, .int .i64 q] (by rfl) rfl rfl (by simp only [List.map_toArray, List.map_cons, List.map_nil]; rfl) ?_
          with_reducible refine (HEC.out _).mono ?_
          rintro e w4 ⟨rfl, hb4⟩
          refine ⟨_, rfl, ?_⟩
          refine hK.out _ _ ((hAt _ (But.of_below (below_on (below_on (below_alloc (Below.refl _ _) (.cells #[.int .i64 0, .int .i64 0, .int .i64 0, .int .i64 0] 25)) (below_draw _)) hb4)))) (fun hHeld => ?_)
          clear hK K
          refine norm_ (a' := ?_) ?_ ?_
          rotate_left
          · show Act.put _ (some 50) _ = _
            simp only [Act.put, List.setIfInBounds_toArray, List.set_cons_zero, List.set_cons_succ, i64_w, i32_w]
            rfl
          refine pure_ (i := 12) (N := some 51) (v := ?_) (a' := ?_) #[true, true, true, true, true, true, true, true, true, true, true, true, true, false, true, false] rfl rfl (by kernel_rfl) (fun _ _ _ h => h) (Or.inl ⟨by rfl, ?_⟩) ?_ ?_
          rotate_left
          · intro w'
            go_simp
            with_reducible rfl
          rotate_left
          · simp only [Act.put, List.setIfInBounds_toArray, List.set_cons_zero, List.set_cons_succ, i64_w, i32_w]
            rfl
          refine one_ (i := 13) (N := some 52) #[true, true, true, true, true, true, true, true, true, true, true, true, true, true, true, false] rfl rfl (by kernel_rfl) (by decide) (fun K hK => ?_)
          refine goes_ Tryz.func27 (by kernel_rfl) rfl #[.slice (some ad) l.length cap, .string x.text] (by rfl) rfl rfl (by simp only [List.map_toArray, List.map_cons, List.map_nil]; rfl) ?_
          with_reducible refine (HIH.out _ (hBel _ (But.of_below (below_on (below_on (below_alloc (Below.refl _ _) (.cells #[.int .i64 0, .int .i64 0, .int .i64 0, .int .i64 0] 25)) (below_draw _)) hb4)))).mono ?_
          rintro e w5 ⟨rfl, hb5⟩
          refine ⟨_, rfl, ?_⟩
          refine hK.out _ _ ((hAt _ (But.of_below (below_on (below_on (below_on (below_alloc (Below.refl _ _) (.cells #[.int .i64 0, .int .i64 0, .int .i64 0, .int .i64 0] 25)) (below_draw _)) hb4) hb5)))) (fun hHeld => ?_)
          clear hK K
          refine norm_ (a' := ?_) ?_ ?_
          rotate_left
          · show Act.put _ (some 52) _ = _
            simp only [Act.put, List.setIfInBounds_toArray, List.set_cons_zero, List.set_cons_succ, i64_w, i32_w]
            rfl
          exact norm_ (by simp only [putAll, Act.put, List.setIfInBounds_toArray, List.set_cons_zero, List.set_cons_succ]) (hCont (wr.heap.size) _ ⟨(blk_below (blk_below (blk_drew (blk_new wr (.cells #[.int .i64 0, .int .i64 0, .int .i64 0, .int .i64 0] 25))) hb4) hb5), (below_on (below_on (below_on (below_alloc (Below.refl _ _) (.cells #[.int .i64 0, .int .i64 0, .int .i64 0, .int .i64 0] 25)) (below_draw _)) hb4) hb5), Nat.le_refl _⟩)
      rintro pb w5 ⟨hpz, hb5, hge⟩
      have hHeld : w5.cell? (adp.add i) = some (.int .i64 q) := hAt _ (But.of_below hb5)
      have hcy0 : w5.cell? ⟨pb, 0, none⟩ = some (.int .i64 0) := blk_cell hpz 0
      have hcy1 : w5.cell? ⟨pb, 1, none⟩ = some (.int .i64 0) := blk_cell hpz 1
      have hcy2 : w5.cell? ⟨pb, 2, none⟩ = some (.int .i64 0) := blk_cell hpz 2
      have hcy3 : w5.cell? ⟨pb, 3, none⟩ = some (.int .i64 0) := blk_cell hpz 3
      have hzy0 : w5.frozen? ⟨pb, 0, none⟩ = false := blk_frozen hpz 0
      have hzy1 : w5.frozen? ⟨pb, 1, none⟩ = false := blk_frozen hpz 1
      have hzy2 : w5.frozen? ⟨pb, 2, none⟩ = false := blk_frozen hpz 2
      have hzy3 : w5.frozen? ⟨pb, 3, none⟩ = false := blk_frozen hpz 3
      refine norm_ (a' := ?_) ?_ ?_
      rotate_left
      · simp only [putAll, Act.put, List.setIfInBounds_toArray, List.set_cons_zero, List.set_cons_succ]
        rfl
      refine last_ (i := 15) (N := none) #[true, true, true, true, true, true, true, true, true, true, true, true, true, true, true, true] rfl rfl (by kernel_rfl) (by decide) (fun K hK => ?_)
      refine skip_ (w1 := ?_) (by rfl) rfl ?_ ?_
      rotate_left
      · go_simp
        rfl
      refine hK.out _ _ ?_
      clear hK K
      refine done_ (by kernel_rfl) ?_
      obtain ⟨hrl, hl2, hpl, hlt⟩ := HN.out
      have HP6 : Aside0 (((((w5.setCell ⟨pb, 0, none⟩ (.int .i64 (vt 0))).setCell ⟨pb, 1, none⟩ (.int .i64 (vt 1))).setCell ⟨pb, 2, none⟩ (.int .i64 (vt 2))).setCell ⟨pb, 3, none⟩ (.int .i64 (vt 3))).heap[pb]? = some (.cells (vals vt) 25 (0, 0))) := ⟨vals_set425 (f0 := fun _ => 0) vt hpz⟩
      have HB6 : Aside0 (Below wr.heap.size wr ((((w5.setCell ⟨pb, 0, none⟩ (.int .i64 (vt 0))).setCell ⟨pb, 1, none⟩ (.int .i64 (vt 1))).setCell ⟨pb, 2, none⟩ (.int .i64 (vt 2))).setCell ⟨pb, 3, none⟩ (.int .i64 (vt 3)))) := ⟨below_set (below_set (below_set (below_set hb5 hge) hge) hge) hge⟩
      have hpn : pb ≠ w.heap.size + 1 := by have := HS3.out; have := HB.out.size; omega
      have HPN := Aside0.mk (And.intro hrl (And.intro hl2 (And.intro hpl (And.intro hlt hpn))))
      generalize (((w5.setCell ⟨pb, 0, none⟩ (.int .i64 (vt 0))).setCell ⟨pb, 1, none⟩ (.int .i64 (vt 1))).setCell ⟨pb, 2, none⟩ (.int .i64 (vt 2))).setCell ⟨pb, 3, none⟩ (.int .i64 (vt 3)) = w6 at *
      clear hcy0 hcy1 hcy2 hcy3 hzy0 hzy1 hzy2 hzy3 hpz hb5 hge hHeld hrl hl2 hpl hlt hpn hlb hil hAt hsl2
      go_wp2
      go_loopw [11] (fun v11 wi => ∃ (k : Nat) (f2 : Nat → Int), v11 = .int .i64 (k : Int) ∧ Aside0 (k ≤ 4) ∧ Aside0 (wi.heap[w.heap.size + 1]? = some (.cells (vals f2) 25 (0, 0))) ∧ Aside0 (∀ j, f2 j = if j < k then wrap64 (f j + wrap64 (row.getD (1 + i) 0 * vt j)) else f j) ∧ Aside0 (wi.heap[pb]? = some (.cells (vals vt) 25 (0, 0))) ∧ Aside0 (But (w.heap.size + 1) wr wi)) (fun v11 _ => 4 - (intOf v11).toNat)
      case atStart =>
        exact ⟨0, f, rfl, ⟨Nat.zero_le _⟩, ⟨blk_below HO.out HB6.out⟩, ⟨fun j => by rw [if_neg (Nat.not_lt_zero j)]⟩, HP6, ⟨But.of_below HB6.out⟩⟩
      case round =>
        obtain ⟨k, f2, rfl, HK, HO4, HF, HPB4, HB4⟩ := hrel
        by_cases hk4 : k < 4
        · have hki : (k : Int) < 4 := Int.ofNat_lt.2 hk4
          have hi0 : (0 : Int) ≤ (i : Int) + 1 := by have := Int.natCast_nonneg i; exact Int.add_nonneg this (by decide)
          have wk := wrO4 k (Nat.lt_trans hk4 (by decide))
          obtain ⟨rv, hrv⟩ : ∃ rv, rv = row.getD (1 + i) 0 := ⟨_, rfl⟩
          rw [← hrv] at HRC2 HF HRN
          have HRV := Aside0.mk hrv
          clear hrv
          have hfz := blk_frozen HO4.out k
          go_wp2
          refine start_ (n := 16) (S := fun w' => w'.cell? ⟨w.heap.size + 1, k, none⟩ = some (.int .i64 (f2 k)) ∧ w'.cell? ⟨ad0.block, ad0.off + (i + 1), none⟩ = some (.int .i64 rv) ∧ w'.cell? ⟨pb, k, none⟩ = some (.int .i64 (vt k))) (ds := [15]) #[false, false, false, false, false, false, false, false, false, false, false, false, false, false, false, false] (by kernel_rfl) rfl rfl ⟨((blk_cell (blk_drew HO4.out) k).trans (vals_at f2 k hk4)), (HRC2.out _ (HB4.out.trans (But.of_below (below_draw _)))), ((blk_cell (blk_drew HPB4.out) k).trans (vals_at vt k hk4))⟩ (fun hHeld => ?_)
          refine pure_ (i := 0) (N := some 57) (v := ?_) (a' := ?_) #[true, false, false, false, false, false, false, false, false, false, false, false, false, false, false, false] rfl rfl (by kernel_rfl) (fun _ _ _ h => h) (Or.inl ⟨by rfl, ?_⟩) ?_ ?_
          rotate_left
          · intro w'
            go_simp
            with_reducible rfl
          rotate_left
          · simp only [Act.put, List.setIfInBounds_toArray, List.set_cons_zero, List.set_cons_succ, i64_w, i32_w]
            rfl
          refine pure_ (i := 1) (N := some 58) (v := ?_) (a' := ?_) #[true, true, false, false, false, false, false, false, false, false, false, false, false, false, false, false] rfl rfl (by kernel_rfl) (fun _ _ _ h => h) (Or.inl ⟨by rfl, ?_⟩) ?_ ?_
          rotate_left
          · intro w'
            go_simp
            with_reducible rfl
          rotate_left
          · simp only [Act.put, List.setIfInBounds_toArray, List.set_cons_zero, List.set_cons_succ, i64_w, i32_w]
            rfl
          refine pure_ (i := 2) (N := some 59) (v := ?_) (a' := ?_) #[true, true, true, false, false, false, false, false, false, false, false, false, false, false, false, false] rfl rfl (by kernel_rfl) (fun _ _ _ h => h) (Or.inl ⟨by rfl, ?_⟩) ?_ ?_
          rotate_left
          · intro w'
            go_simp
            with_reducible rfl
          rotate_left
          · simp only [Act.put, List.setIfInBounds_toArray, List.set_cons_zero, List.set_cons_succ, i64_w, i32_w]
            rfl
          refine pure_ (i := 4) (N := some 61) (v := ?_) (a' := ?_) #[true, true, true, false, true, false, false, false, false, false, false, false, false, false, false, false] rfl rfl (by kernel_rfl) (fun _ _ _ h => h) (Or.inl ⟨by rfl, ?_⟩) ?_ ?_
          rotate_left
          · intro w'
            go_simp
            with_reducible rfl
          rotate_left
          · simp only [Act.put, List.setIfInBounds_toArray, List.set_cons_zero, List.set_cons_succ, i64_w, i32_w]
            rfl
          refine pure_ (i := 5) (N := some 62) (v := ?_) (a' := ?_) #[true, true, true, false, true, true, false, false, false, false, false, false, false, false, false, false] rfl rfl (by kernel_rfl) (fun _ _ _ h => h) (Or.inl ⟨by rfl, ?_⟩) ?_ ?_
          rotate_left
          · intro w'
            go_simp
            with_reducible rfl
          rotate_left
          · simp only [Act.put, List.setIfInBounds_toArray, List.set_cons_zero, List.set_cons_succ, i64_w, i32_w]
            rfl
          refine pure_ (i := 6) (N := some 63) (v := ?_) (a' := ?_) #[true, true, true, false, true, true, true, false, false, false, false, false, false, false, false, false] rfl rfl (by kernel_rfl) (fun _ _ _ h => h) (Or.inl ⟨by rfl, ?_⟩) ?_ ?_
          rotate_left
          · intro w'
            go_simp
            with_reducible rfl
          rotate_left
          · simp only [Act.put, List.setIfInBounds_toArray, List.set_cons_zero, List.set_cons_succ, i64_w, i32_w]
            rfl
          refine pure_ (i := 7) (N := some 64) (v := ?_) (a' := ?_) #[true, true, true, false, true, true, true, true, false, false, false, false, false, false, false, false] rfl rfl (by kernel_rfl) (fun _ _ _ h => h) (Or.inl ⟨by rfl, ?_⟩) ?_ ?_
          rotate_left
          · intro w'
            go_simp
            with_reducible rfl
          rotate_left
          · simp only [Act.put, List.setIfInBounds_toArray, List.set_cons_zero, List.set_cons_succ, i64_w, i32_w]
            rfl
          refine pure_ (i := 9) (N := some 66) (v := ?_) (a' := ?_) #[true, true, true, false, true, true, true, true, false, true, false, false, false, false, false, false] rfl rfl (by kernel_rfl) (fun _ _ _ h => h) (Or.inl ⟨by rfl, ?_⟩) ?_ ?_
          rotate_left
          · intro w'
            go_simp
            with_reducible rfl
          rotate_left
          · simp only [Act.put, List.setIfInBounds_toArray, List.set_cons_zero, List.set_cons_succ, i64_w, i32_w]
            rfl
          refine pure_ (i := 10) (N := some 67) (v := ?_) (a' := ?_) #[true, true, true, false, true, true, true, true, false, true, true, false, false, false, false, false] rfl rfl (by kernel_rfl) (fun _ _ _ h => h) (Or.inl ⟨by rfl, ?_⟩) ?_ ?_
          rotate_left
          · intro w'
            go_simp
            with_reducible rfl
          rotate_left
          · simp only [Act.put, List.setIfInBounds_toArray, List.set_cons_zero, List.set_cons_succ, i64_w, i32_w]
            rfl
          refine take_ (i := 3) (N := some 60) (v := ?_) (a' := ?_) #[true, true, true, true, true, true, true, true, false, true, true, false, false, false, false, false] rfl rfl (by kernel_rfl) (fun _ _ _ h => h) (Or.inl ⟨by rfl, ?_⟩) hHeld ?_ ?_
          rotate_left
          · rintro w' ⟨s0, s1, s2⟩
            go_simp
            with_reducible rfl
          rotate_left
          · simp only [Act.put, List.setIfInBounds_toArray, List.set_cons_zero, List.set_cons_succ, i64_w, i32_w]
            rfl
          refine take_ (i := 8) (N := some 65) (v := ?_) (a' := ?_) #[true, true, true, true, true, true, true, true, true, true, true, false, false, false, false, false] rfl rfl (by kernel_rfl) (fun _ _ _ h => h) (Or.inl ⟨by rfl, ?_⟩) hHeld ?_ ?_
          rotate_left
          · rintro w' ⟨s0, s1, s2⟩
            go_simp
            with_reducible rfl
          rotate_left
          · simp only [Act.put, List.setIfInBounds_toArray, List.set_cons_zero, List.set_cons_succ, i64_w, i32_w]
            rfl
          refine take_ (i := 11) (N := some 68) (v := ?_) (a' := ?_) #[true, true, true, true, true, true, true, true, true, true, true, true, false, false, false, false] rfl rfl (by kernel_rfl) (fun _ _ _ h => h) (Or.inl ⟨by rfl, ?_⟩) hHeld ?_ ?_
          rotate_left
          · rintro w' ⟨s0, s1, s2⟩
            go_simp
            with_reducible rfl
          rotate_left
          · simp only [Act.put, List.setIfInBounds_toArray, List.set_cons_zero, List.set_cons_succ, i64_w, i32_w]
            rfl
          refine pure_ (i := 12) (N := some 69) (v := ?_) (a' := ?_) #[true, true, true, true, true, true, true, true, true, true, true, true, true, false, false, false] rfl rfl (by kernel_rfl) (fun _ _ _ h => h) (Or.inl ⟨by rfl, ?_⟩) ?_ ?_
          rotate_left
          · intro w'
            go_simp
            with_reducible rfl
          rotate_left
          · simp only [Act.put, List.setIfInBounds_toArray, List.set_cons_zero, List.set_cons_succ, i64_w, i32_w]
            rfl
          refine pure_ (i := 13) (N := some 70) (v := ?_) (a' := ?_) #[true, true, true, true, true, true, true, true, true, true, true, true, true, true, false, false] rfl rfl (by kernel_rfl) (fun _ _ _ h => h) (Or.inl ⟨by rfl, ?_⟩) ?_ ?_
          rotate_left
          · intro w'
            go_simp
            with_reducible rfl
          rotate_left
          · simp only [Act.put, List.setIfInBounds_toArray, List.set_cons_zero, List.set_cons_succ, i64_w, i32_w]
            rfl
          refine pure_ (i := 14) (N := some 71) (v := ?_) (a' := ?_) #[true, true, true, true, true, true, true, true, true, true, true, true, true, true, true, false] rfl rfl (by kernel_rfl) (fun _ _ _ h => h) (Or.inl ⟨by rfl, ?_⟩) ?_ ?_
          rotate_left
          · intro w'
            go_simp
            with_reducible rfl
          rotate_left
          · simp only [Act.put, List.setIfInBounds_toArray, List.set_cons_zero, List.set_cons_succ, i64_w, i32_w]
            rfl
          refine last_ (i := 15) (N := none) #[true, true, true, true, true, true, true, true, true, true, true, true, true, true, true, true] rfl rfl (by kernel_rfl) (by decide) (fun K hK => ?_)
          refine skip_ (w1 := ?_) (by rfl) rfl ?_ ?_
          rotate_left
          · go_simp
            rfl
          refine hK.out _ _ ?_
          clear hK K
          refine done_ (by kernel_rfl) ?_
          go_wp2
          refine ⟨⟨k + 1, updN f2 k (wrap64 (f2 k + wrap64 (rv * vt k))), rfl, ⟨hk4⟩, ⟨vals_set25 HO4.out k hk4 _⟩, ⟨fun j => ?_⟩, ⟨(Below.heap_setCell _ _ _ _ (by show pb ≠ w.heap.size + 1; exact HPN.out.2.2.2.2)).trans HPB4.out⟩, ⟨HB4.out.trans ((But.of_below (below_draw _)).trans (But.set _ k _))⟩⟩, ?_⟩
          · rw [← HRV.out]
            have hf := HF.out j
            have hfk := HF.out k
            rw [if_neg (Nat.lt_irrefl k)] at hfk
            unfold updN
            by_cases hjk : j = k
            · subst hjk
              rw [if_pos rfl, if_pos (Nat.lt_succ_self j), hfk]
            · rw [if_neg hjk, hf]
              by_cases hj2 : j < k
              · rw [if_pos hj2, if_pos (Nat.lt_succ_of_lt hj2)]
              · rw [if_neg hj2, if_neg (fun h => hjk (Nat.le_antisymm (Nat.le_of_lt_succ h) (Nat.le_of_not_lt hj2)))]
          · clear wk w1
            simp only [intOf]
            omega
        · have hkb : decide ((k : Int) < 4) = false := decide_eq_false (by omega)
          go_wp2
          refine ⟨⟨i + 1, f2, by rw [w1]; rfl, ⟨HPN.out.2.2.2.1⟩, HO4, ⟨fun j hj => ?_⟩, ⟨HB.out.trans HB4.out⟩⟩, ?_⟩
          · rw [HRN.out j hj]
            refine ofL_congr l row _ _ _ _ (fun m hm => ?_) j hj
            rw [HF.out m, if_pos (by omega)]
          · rw [w1]
            have := HPN.out.2.2.2.1
            simp only [intOf]
            clear w1
            omega
    · have hlb : decide ((i : Int) < ((posn 1 ts).length : Int)) = false := decide_eq_false (by omega)
      have hlb2 : decide (i < (posn 1 ts).length) = false := decide_eq_false (by omega)
      have hc0 : wr.cell? ⟨w.heap.size + 1, 0, none⟩ = some (.int .i64 (f 0)) := blk_cell HO.out 0
      have hc1 : wr.cell? ⟨w.heap.size + 1, 1, none⟩ = some (.int .i64 (f 1)) := blk_cell HO.out 1
      have hc2 : wr.cell? ⟨w.heap.size + 1, 2, none⟩ = some (.int .i64 (f 2)) := blk_cell HO.out 2
      have hc3 : wr.cell? ⟨w.heap.size + 1, 3, none⟩ = some (.int .i64 (f 3)) := blk_cell HO.out 3
      have hZr : wr.heap[w.heap.size]? = some (.cells (vals (fun _ => 0)) 25 (0, 0)) := (HB.out.block _ (by have := HS3.out; omega) (by omega)).trans HZ3.out
      have hd0 : wr.cell? ⟨w.heap.size, 0, none⟩ = some (.int .i64 0) := blk_cell hZr 0
      have hd1 : wr.cell? ⟨w.heap.size, 1, none⟩ = some (.int .i64 0) := blk_cell hZr 1
      have hd2 : wr.cell? ⟨w.heap.size, 2, none⟩ = some (.int .i64 0) := blk_cell hZr 2
      have hd3 : wr.cell? ⟨w.heap.size, 3, none⟩ = some (.int .i64 0) := blk_cell hZr 3
      have hz0 := blk_frozen hZr 0
      have hz1 := blk_frozen hZr 1
      have hz2 := blk_frozen hZr 2
      have hz3 := blk_frozen hZr 3
      have hBw := HBel wr wr HB.out (Below.refl _ _)
      have HE := Aside0.mk (And.intro hZr (And.intro hBw hlt))
      clear ih hC hg hR hrl hCr hl2 hl6 hss hsl hdr hpl hZr hBw HBel
      go_wp2
      refine bodyPost_ret (results_cell_row (P := Tryz.prog) rfl _ _ w.heap.size 25 _ (0, 0) _ rfl (vals_set425 f HE.out.1) Tryz.underlying25 rfl (by kernel_rfl)) rfl ?_
      refine ⟨?_, ?_⟩
      · have hd : ts.drop i = [] := List.drop_of_length_le (by have := HE.out.2.2; omega)
        rw [vals_ext (fun k hk => (HR.out k hk).trans (by rw [hd, ofL]))]
      · exact below_set (below_set (below_set (below_set HE.out.2.1 (Nat.le_refl _)) (Nat.le_refl _)) (Nat.le_refl _)) (Nat.le_refl _)
theorem refValue_calls (l : List (List Int)) (hrd : isRd l = true) : ∀ t, RvOk l t := by
  refine Tm.ind (fun c A cap w hC hg hl => ?_) (fun s ts ih A cap w hC hg hl => ?_)
  · have h1 : (Tm.var c).text.data.toList.drop 0 = ch c :: [] := by unfold Tm.text; rw [Tm.tx]; rfl
    rw [Tm.good] at hg
    obtain ⟨a, b, _⟩ := at_cons h1
    rw [ch_toNat (by omega)] at b
    exact rv_var l c hg A cap w _ a b
  · exact rv_app l hrd s ts ih A cap w hC hg _ (by unfold Tm.text; simp) (by have : (Tm.app s ts).text.size = (Tm.app s ts).tx.length := by unfold Tm.text; simp [ByteArray.size]
                                                                             omega)
def numnahref08_Value.f (l0 : List (List Int)) (a1 : ByteArray) : Option (Int × Int × Int × Int) :=
  if isRd l0 = true then (readT a1).bind fun t => some (ofT l0 t 0, ofT l0 t 1, ofT l0 t 2, ofT l0 t 3) else none
theorem numnahref08_Value.calls (A0 : Option Addr) (c0 : Nat) (l0 : List (List Int)) (a1 : ByteArray) (r0 r1 r2 r3 : Int) (w : World) (hr0 : Kd.C (Kd.slice 3 (Kd.int .i64)) w A0 l0.length l0) (hc0 : l0.length ≤ c0) (h : numnahref08_Value.f l0 a1 = some (r0, r1, r2, r3)) :
    Calls Tryz.prog 27 #[.slice A0 l0.length c0, .string a1] w fun e w' => e = .returned (.agg #[.int .i64 r0, .int .i64 r1, .int .i64 r2, .int .i64 r3]) ∧ Below w.heap.size w w' := by
  unfold numnahref08_Value.f at h
  split at h
  · rename_i hrd
    obtain ⟨t, ht, h⟩ := Option.bind_eq_some_iff.mp h
    injection h with h
    injection h with h1 h
    injection h with h2 h
    injection h with h3 h4
    subst h1 h2 h3 h4
    obtain ⟨hg, hs, rfl⟩ := readT_iff.1 ht
    exact refValue_calls l0 hrd t A0 c0 w hr0 hg (by have := tx_le t; omega)
  · cases h
end Go.Proofs.YtaafeallcaiooaaGreat.Pr
