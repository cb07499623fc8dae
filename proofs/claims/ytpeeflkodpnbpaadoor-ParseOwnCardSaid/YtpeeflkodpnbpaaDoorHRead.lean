/- Read's contract: the word of a plan, as spk says. -/
import Derived.Test.YtpeeflkodpnbpaaDoorHSing
import Derived.Test.YtpeeflkodpnbpaaDoorHAre
import Derived.Test.YtpeeflkodpnbpaaDoorHWord
import Derived.RegionTactic
import Derived.IntWalk
import Derived.Deep.RegionHeld3
namespace Go.Proofs.YtpeeflkodpnbpaaDoor.Pr
open Go.RowKit Go.Proofs.YtpeeflkodpnbpaaDoorW.PrintWords Go.Proofs.YtpeeflkodpnbpaaDoorW.PrintLast Go.Proofs.YtpeeflkodpnbpaaDoorW.PrintMore
set_option linter.unusedVariables false
set_option linter.unusedSimpArgs false

/-- the closure: the next letter -/
theorem letter_calls (lt : ByteArray) (hl : lt.size ≤ 160) (F Bs u : Nat) (U : Int) (hU : U = (u : Int)) (hu : u < lt.size) (w : World) (hf : w.heap[F]? = some (.cells #[.int .i64 U] 3 (0, 0))) (hb : w.heap[Bs]? = some (.cells #[.string lt] 9 (0, 0))) (hne : Bs ≠ F) :
    Calls Tryd.prog 87 #[.pointer (some ⟨F, 0, none⟩), .pointer (some ⟨Bs, 0, none⟩)] w fun e w' => e = .returned (.int .u8 (bt lt U)) ∧ w' = w.setCell ⟨F, 0, none⟩ (.int .i64 (wrap64 (U + 1))) := by
  have a0 := blk_cell hf 0
  have f0 := blk_frozen hf 0
  have a1 := blk_cell hb 0
  have hf2 := blk_put hf 0 (.int .i64 (wrap64 (U + 1))) rfl
  have a2 := blk_cell hf2 0
  have a3 := blk_cell (blk_far hb (p := ⟨F, 0, none⟩) hne (.int .i64 (wrap64 (U + 1)))) 0
  obtain ⟨V, hV⟩ : ∃ V : Int, wrap64 (U + 1) = V := ⟨_, rfl⟩
  have hVU : V = U + 1 := hV ▸ Go.IntWalk.wrap64_in _ (by omega)
  have v1 : (IntKind.i64.wrap (U + 1)) = V := (i64_w _).trans hV
  have v2 : wrap64 (V - 1) = U := (Go.IntWalk.wrap64_in _ (by omega)).trans (by omega)
  have v3 : (IntKind.i64.wrap (V - 1)) = U := (i64_w _).trans v2
  have p6 : 0 ≤ U := by omega
  have q6 : U < (lt.size : Int) := by omega
  have hx6 := bt_at lt U
  rw [hV] at a2 a3
  replace p6 := eq_true p6
  replace q6 := eq_true q6
  rw [hV]
  clear hVU hU hu hf hf2 hb
  go_enter Tryd.func87, Tryd.ntmps87
  go_wp2
  go_ret
  exact ⟨by first | rfl | (simp [*]; done), by first | rfl | (simp [*]; done)⟩

/-- a copied factor -/
def spkC : Nat → List Int → Int → Nat → List Int
  | 0, out, _, _ => out
  | q + 1, out, f, k => spkC q (out ++ [rd out (f + k)]) f (k + 1)
/-- the word of a plan, and how many letters were taken -/
def spk (lt : ByteArray) : List S63 → List Int → Nat → List Int × Nat
  | [], out, u => (out, u)
  | x :: l, out, u => if x.f0 < 0 then spk lt l (out ++ [bt lt (u : Int)]) (u + 1) else spk lt l (spkC x.f1.toNat out x.f0 0) u
theorem spkC_len : ∀ q out f k, (spkC q out f k).length = out.length + q
  | 0, out, f, k => rfl
  | q + 1, out, f, k => by rw [spkC, spkC_len q]; simp; omega

set_option maxHeartbeats 8000000 in
set_option maxRecDepth 1000000 in
theorem spoken_calls (lt : ByteArray) (hlt : lt.size ≤ 160) (A : Option Addr) (c : Nat) (l : List S63) (F Bs : Nat) (w0 w : World) (hF : w0.heap.size ≤ F) (hBs : w0.heap.size ≤ Bs) (hne : Bs ≠ F) (hB : Below w0.heap.size w0 w)
    (hf : w.heap[F]? = some (.cells #[.int .i64 0] 3 (0, 0))) (hbs : w.heap[Bs]? = some (.cells #[.string lt] 9 (0, 0))) (hr : Kd.C k63 w0 A l.length l) (hc : l.length ≤ c) (hok : okP l 0) (hs : sgl l = lt.size) (hll : l.length ≤ 1000) :
    Calls Tryd.prog 86 #[.slice A l.length c, .func (.func 87) #[] #[.pointer (some ⟨F, 0, none⟩), .pointer (some ⟨Bs, 0, none⟩)]] w fun e w' => e = .returned (.string (strOfNums (spk lt l [] 0).1)) ∧ Below w0.heap.size w0 w' := by
  obtain ⟨R, hR⟩ : ∃ R, (spk lt l [] 0).1 = R := ⟨_, rfl⟩
  rw [hR]
  have hu63 := Tryd.underlying63
  have HB := Aside0.mk hB
  have HF := Aside0.mk hf
  have HBs := Aside0.mk hbs
  have HC2 := Aside0.mk hr
  have HRR := Aside0.mk hR
  have HOK := Aside0.mk hok
  have HSG := Aside0.mk hs
  have HNE := Aside0.mk hne
  have HGF := Aside0.mk hF
  have HGB := Aside0.mk hBs
  clear hr hR hB hf hbs hok hs hne hF hBs
  go_enter Tryd.func86, Tryd.ntmps86
  go_wp2
  go_loopg [5, 11] l.length (fun q v5 v11 wx => ∃ (k u : Nat) (K : Int) (out : List Int), v11 = .int .i64 K ∧ Aside0 (K = (k : Int)) ∧ Aside0 (k + q = l.length) ∧ Aside0 (out.length ≤ 160) ∧ Aside0 (okP (l.drop k) out.length) ∧ Aside0 (u + sgl (l.drop k) = lt.size) ∧ Aside0 ((spk lt (l.drop k) out u).1 = R) ∧ Aside0 (wx.heap[F]? = some (.cells #[.int .i64 (u : Int)] 3 (0, 0))) ∧ Aside0 (wx.heap[Bs]? = some (.cells #[.string lt] 9 (0, 0))) ∧ Aside0 (Kd.R (Kd.int .u8) 5 wx w0.heap.size (fun _ => True) v5 out) ∧ Aside0 (Below w0.heap.size w0 wx))
  case atStart => exact ⟨0, 0, 0, [], rfl, ⟨rfl⟩, ⟨by omega⟩, ⟨by simp⟩, HOK, ⟨by rw [List.drop_zero, Nat.zero_add]; exact HSG.out⟩, HRR, HF, HBs, ⟨Kd.R_nil _ _ _ _ _⟩, HB⟩
  case round =>
    clear HB HF HBs HOK HSG HRR
    obtain ⟨k, u, K, out, rfl, HK, HQ, HL, HOK, HSG, HRR, HF, HBs, HO, HB⟩ := hrel
    have hK := HK.out; have hQ := HQ.out
    cases gk with
    | zero =>
      have c1 : decide (K < (l.length : Int)) = false := decide_eq_false (by omega)
      have hS : out = R := by have := HRR.out; rw [List.drop_eq_nil_of_le (by omega)] at this; exact this
      subst hS
      have hcv9 := own_string (P := Tryd.prog) Tryd.underlying89 Tryd.underlying5 Tryd.underlying9 (Kd.own_of_R HO.out)
      clear hK hQ
      go_wp2
      go_ret
      exact ⟨rfl, HB.out⟩
    | succ q =>
      have c1 : decide (K < (l.length : Int)) = true := decide_eq_true (by omega)
      have p1 : 0 ≤ K := by omega
      have q1 : K < (l.length : Int) := by omega
      have hklt : k < l.length := by omega
      have HCl := Aside0.mk (Kd.C_below HC2.out HB.out)
      obtain ⟨ad, e, hx0, hx1⟩ := at_T63 HCl.out K p1 q1
      cases e
      have hrd : rd_T63 l K = l[k] := by rw [hK]; simp [rd_T63, hklt]
      have hdr := List.drop_eq_getElem_cons hklt
      rw [hrd] at hx0 hx1
      rw [hdr] at HOK HSG HRR
      generalize l[k] = x at hx0 hx1 HOK HSG HRR hrd hdr
      obtain ⟨x0, x1⟩ := x
      have hx0 : wr.cell? (ad.add (K.toNat * 2)) = some (.int .i64 x0) := hx0
      have hx1 : wr.cell? ⟨(ad.add (K.toNat * 2)).block, (ad.add (K.toNat * 2)).off + 1, none⟩ = some (.int .i64 x1) := hx1
      have HK2 : Aside0 (wrap64 (K + 1) = ((k + 1 : Nat) : Int)) := ⟨by rw [Go.IntWalk.wrap64_in _ (by omega)]; omega⟩
      have HQ2 : Aside0 (k + 1 + q = l.length) := ⟨by omega⟩
      obtain ⟨o1, o2, o3, o4, o5, o6⟩ := HOK.out
      have o1 : 1 ≤ x1 := o1
      have o2 : x1 ≤ 160 - (out.length : Int) := o2
      have o3 : -1 ≤ x0 := o3
      have o4 : x0 < out.length := o4
      have o5 : x0 < 0 → x1 = 1 := o5
      have o6 : okP (l.drop (k + 1)) (out.length + x1.toNat) := o6
      replace p1 := eq_true p1
      replace q1 := eq_true q1
      by_cases c0 : x0 < 0
      · have c2 : decide (x0 < 0) = true := decide_eq_true c0
        have h1 := o5 c0
        have HOK2 : Aside0 (okP (l.drop (k + 1)) (out ++ [bt lt (u : Int)]).length) := ⟨by rw [h1] at o6; simpa using o6⟩
        have hsg := HSG.out
        rw [sgl, if_pos c0] at hsg
        have HSG2 : Aside0 (u + 1 + sgl (l.drop (k + 1)) = lt.size) := ⟨by omega⟩
        have hul : u < lt.size := by omega
        have HR2 : Aside0 ((spk lt (l.drop (k + 1)) (out ++ [bt lt (u : Int)]) (u + 1)).1 = R) := ⟨by have := HRR.out; rw [spk, if_pos c0] at this; exact this⟩
        have HL2 : Aside0 ((out ++ [bt lt (u : Int)]).length ≤ 160) := ⟨by rw [List.length_append, List.length_singleton]; omega⟩
        have HU := Aside0.mk hul
        have hw : wrap64 ((u : Int) + 1) = ((u + 1 : Nat) : Int) := by rw [Go.IntWalk.wrap64_in _ (by omega)]; omega
        have HW := Aside0.mk hw
        obtain ⟨U, hU⟩ : ∃ U : Int, U = (u : Int) := ⟨_, rfl⟩
        rw [← hU] at HF HR2 HOK2 HL2 HW
        have HUu := Aside0.mk hU
        have HRG := Aside0.mk (bt_range lt U)
        clear hK hQ hrd hdr hsg o1 o2 o3 o4 o5 o6 h1 c0 hul hw hU HOK HSG HRR
        go_wp2_with (first
          | ((with_reducible refine gate_dst (N := 7) rfl ?_); refine box_event ?hg (N := 7) ?hd (cs := #[.int .i64 0, .int .i64 0]) (t := 63) ?hr ?_; (case hd => rfl); (case hg => rfl); (case hr => first | (go_simp; done) | (go_simp; rfl)); intro g5 hg5 wg5 hbox hb; have n0_ := Aside0.mk (blk_below HF.out hb); have n4_ := Aside0.mk (blk_below HBs.out hb); have n5_ := Aside0.mk (Kd.R_below HO.out hb); have n1_ := Aside0.mk (below_step HB.out hb); have n2_ := Aside0.mk hbox; have n3_ : Aside0 (w0.heap.size ≤ g5) := ⟨by rw [hg5]; exact HB.out.size⟩; clear HB HF HBs HO; have HB := n1_; have Bg5 := n2_; have E5 := n3_; have HF := n0_; have HBs := n4_; have HO := n5_; clear n0_ n1_ n2_ n3_ n4_ n5_; clear hb hbox hg5; have zg5_0 : wg5.cell? ⟨g5, 0, none⟩ = some (.int .i64 0) := (blk_cell Bg5.out 0).trans rfl; have zg5_1 : wg5.cell? ⟨g5, 1, none⟩ = some (.int .i64 0) := (blk_cell Bg5.out 1).trans rfl; have fg5_0 := blk_frozen Bg5.out 0; have fg5_1 := blk_frozen Bg5.out 1)
          | (go_at_call 87; have e0_ := blk_ne Bg5.out HF.out (by decide); have e1_ := blk_ne Bg5.out HBs.out (by decide); have f2_ := blk_far (blk_far HF.out (p := ⟨g5, 0, none⟩) e0_.symm (.int .i64 x0)) (p := ⟨g5, 1, none⟩) e0_.symm (.int .i64 x1); have b2_ := blk_far (blk_far HBs.out (p := ⟨g5, 0, none⟩) e1_.symm (.int .i64 x0)) (p := ⟨g5, 1, none⟩) e1_.symm (.int .i64 x1); have F2 := Aside0.mk (blk_put f2_ 0 (.int .i64 (wrap64 (U + 1))) rfl); have B2 := Aside0.mk (blk_far b2_ (p := ⟨F, 0, none⟩) HNE.out (.int .i64 (wrap64 (U + 1)))); have HO2 := Aside0.mk (Kd.R_types HO.out HF.out (by decide)); have HO3 := Aside0.mk (Kd.R_types HO2.out Bg5.out (by decide)); refine (letter_calls lt hlt F Bs u U HUu.out HU.out _ f2_ b2_ HNE.out).mono ?_; clear f2_ b2_ e0_ e1_; rintro e w2 ⟨rfl, rfl⟩)
          | ((with_reducible refine gate_builtin (b := .append) (xs := #[.tmp 18, .tmp 21]) rfl ?_); at_builtin; refine Kd.R_append (Kd.int .u8) (w0 := w0) w0.heap.size rfl (.tmp 18) (.tmp 21) 89 5 (.int .u8 0) 1 rfl Tryd.underlying89 info5 rfl (by decide) (by omega) u5 out (bt lt U) [.int .u8 (bt lt U)] (fun _ => True) (fun _ => False) rfl (by simp [Act.eval]) ?aP (fun _ hk => hk.elim) ?aF ?aO ?aB ?aS ?aL ?_; (case aP => exact rfl); (case aB => exact (by repeat (first | (with_reducible first | exact HB.out | apply below_alloc | refine below_set ?_ E5.out | refine below_set ?_ HGF.out) | exact HB.out))); (case aF => exact (fun _ _ => trivial)); (case aO => exact (by (with_reducible repeat (first | apply Kd.R_alloc)); exact Kd.R_mono (Kd.R_far (p := ⟨F, 0, none⟩) (Kd.R_far (p := ⟨g5, 1, none⟩) (Kd.R_far (p := ⟨g5, 0, none⟩) HO3.out (fun _ hk => hk.2) _) (fun _ hk => hk.2) _) (fun _ hk => hk.1.2) _) (fun _ _ => trivial))); (case aS => exact (below_size (by repeat (first | (with_reducible first | exact HB.out | apply below_alloc | refine below_set ?_ E5.out | refine below_set ?_ HGF.out) | exact HB.out)))); (case aL => have := HL2.out; simp at this; omega); intro v316 w8 ho hb hg hat; have n0_ := Aside0.mk hb; have n1_ := Aside0.mk ho; have n2_ := Aside0.mk (blk_grown (g := F) (F2.out) hg (Kd.R_ne HO.out HF.out (by decide))); have n3_ := Aside0.mk (blk_grown (g := Bs) (B2.out) hg (Kd.R_ne HO.out HBs.out (by decide))); clear HB HO HF HBs F2 B2 HO2 HO3 Bg5 E5; have HB := n0_; have HO := n1_; have HF := n2_; have HBs := n3_; clear n0_ n1_ n2_ n3_; clear ho hb hg hat))
        go_roundg q
        case measure => omega
        case rel => exact ⟨k + 1, u + 1, wrap64 (K + 1), out ++ [bt lt U], (by first | rfl | (simp; done)), HK2, HQ2, HL2, HOK2, HSG2, HR2, ⟨by have := HF.out; rw [HW.out] at this; exact this⟩, HBs, HO, HB⟩
      · have c2 : decide (x0 < 0) = false := decide_eq_false c0
        obtain ⟨n, hn⟩ : ∃ n : Nat, x1 = (n : Int) := ⟨x1.toNat, by omega⟩
        obtain ⟨f, hf⟩ : ∃ f : Nat, x0 = (f : Int) := ⟨x0.toNat, by omega⟩
        have hsg := HSG.out
        rw [sgl, if_neg c0] at hsg
        have HSG2 : Aside0 (u + sgl (l.drop (k + 1)) = lt.size) := ⟨by omega⟩
        have HOK2 : Aside0 (okP (l.drop (k + 1)) (out.length + n)) := ⟨by rw [hn] at o6; simpa using o6⟩
        obtain ⟨Z, hZ⟩ : ∃ Z, spkC n out x0 0 = Z := ⟨_, rfl⟩
        have HR2 : Aside0 ((spk lt (l.drop (k + 1)) Z u).1 = R) := ⟨by have := HRR.out; rw [spk, if_neg c0] at this; rw [← hZ]; rw [show n = x1.toNat by omega]; exact this⟩
        have HZ := Aside0.mk hZ
        have HZl : Aside0 (Z.length = out.length + n) := ⟨by rw [← hZ, spkC_len]⟩
        have HX : Aside0 (x1 = (n : Int) ∧ x0 = (f : Int) ∧ f < out.length ∧ out.length + n ≤ 160) := ⟨by omega⟩
        clear hK hQ hrd hdr hsg o1 o2 o3 o4 o5 o6 hn hf c0 HOK HSG HRR hZ
        go_wp2_with (first
          | ((with_reducible refine gate_dst (N := 7) rfl ?_); refine box_event ?hg (N := 7) ?hd (cs := #[.int .i64 0, .int .i64 0]) (t := 63) ?hr ?_; (case hd => rfl); (case hg => rfl); (case hr => first | (go_simp; done) | (go_simp; rfl)); intro g5 hg5 wg5 hbox hb; have n0_ := Aside0.mk (blk_below HF.out hb); have n4_ := Aside0.mk (blk_below HBs.out hb); have n5_ := Aside0.mk (Kd.R_below HO.out hb); have n1_ := Aside0.mk (below_step HB.out hb); have n2_ := Aside0.mk hbox; have n3_ : Aside0 (w0.heap.size ≤ g5) := ⟨by rw [hg5]; exact HB.out.size⟩; clear HB HF HBs HO; have HB := n1_; have Bg5 := n2_; have E5 := n3_; have HF := n0_; have HBs := n4_; have HO := n5_; clear n0_ n1_ n2_ n3_ n4_ n5_; clear hb hbox hg5; have zg5_0 : wg5.cell? ⟨g5, 0, none⟩ = some (.int .i64 0) := (blk_cell Bg5.out 0).trans rfl; have zg5_1 : wg5.cell? ⟨g5, 1, none⟩ = some (.int .i64 0) := (blk_cell Bg5.out 1).trans rfl; have fg5_0 := blk_frozen Bg5.out 0; have fg5_1 := blk_frozen Bg5.out 1))
        have e0_ := blk_ne Bg5.out HF.out (by decide)
        have e1_ := blk_ne Bg5.out HBs.out (by decide)
        have HF2 := Aside0.mk (blk_far (blk_far HF.out (p := ⟨g5, 0, none⟩) e0_.symm (.int .i64 x0)) (p := ⟨g5, 1, none⟩) e0_.symm (.int .i64 x1))
        have HBs2 := Aside0.mk (blk_far (blk_far HBs.out (p := ⟨g5, 0, none⟩) e1_.symm (.int .i64 x0)) (p := ⟨g5, 1, none⟩) e1_.symm (.int .i64 x1))
        have HO2 : Aside0 (Kd.R (Kd.int .u8) 5 ((wg5.setCell ⟨g5, 0, none⟩ (.int .i64 x0)).setCell ⟨g5, 1, none⟩ (.int .i64 x1)) w0.heap.size (fun _ => True) u5 out) := ⟨Kd.R_mono (Kd.R_far (p := ⟨g5, 1, none⟩) (Kd.R_far (p := ⟨g5, 0, none⟩) (Kd.R_types HO.out Bg5.out (by decide)) (fun _ hk => hk.2) _) (fun _ hk => hk.2) _) (fun _ _ => trivial)⟩
        have HG2 := Aside0.mk (blk_put (cs := #[.int .i64 x0, .int .i64 0]) (blk_put (cs := #[.int .i64 0, .int .i64 0]) Bg5.out 0 (.int .i64 x0) rfl) 1 (.int .i64 x1) rfl)
        have HB2 := Aside0.mk (below_set (below_set HB.out E5.out (j := 0) (v := .int .i64 x0)) E5.out (j := 1) (v := .int .i64 x1))
        clear e0_ e1_ HF HBs HO HB Bg5 zg5_0 zg5_1 fg5_0 fg5_1 hx0 hx1
        go_loopg [5, 25] n (fun q2 v5 v25 wx => ∃ (j : Nat) (J : Int) (o : List Int), v25 = .int .i64 J ∧ Aside0 (J = (j : Int)) ∧ Aside0 (j + q2 = n) ∧ Aside0 (o.length = out.length + j) ∧ Aside0 (spkC q2 o x0 j = Z) ∧ Aside0 (wx.heap[g5]? = some (.cells #[.int .i64 x0, .int .i64 x1] 63 (0, 0))) ∧ Aside0 (wx.heap[F]? = some (.cells #[.int .i64 (u : Int)] 3 (0, 0))) ∧ Aside0 (wx.heap[Bs]? = some (.cells #[.string lt] 9 (0, 0))) ∧ Aside0 (Kd.R (Kd.int .u8) 5 wx w0.heap.size (fun _ => True) v5 o) ∧ Aside0 (Below w0.heap.size w0 wx))
        case atStart => exact ⟨0, 0, out, rfl, ⟨rfl⟩, ⟨by omega⟩, ⟨rfl⟩, HZ, HG2, HF2, HBs2, HO2, HB2⟩
        case round =>
          clear HG2 HF2 HBs2 HO2 HB2 HZ
          obtain ⟨j, J, o, rfl, HJ, HQJ, HLo, HZ, HG, HF, HBs, HO, HB⟩ := hrel
          have hJ := HJ.out; have hQJ := HQJ.out; have hX := HX.out; have hLo := HLo.out
          have z0 : wr.cell? ⟨g5, 0, none⟩ = some (.int .i64 x0) := (blk_cell HG.out 0).trans rfl
          have z1 : wr.cell? ⟨g5, 1, none⟩ = some (.int .i64 x1) := (blk_cell HG.out 1).trans rfl
          cases gk with
          | zero =>
            have c3 : decide (J < x1) = false := decide_eq_false (by omega)
            have hh : o = Z := HZ.out
            subst hh
            have HL2 : Aside0 (o.length ≤ 160) := ⟨by omega⟩
            have HOK3 : Aside0 (okP (l.drop (k + 1)) o.length) := ⟨by rw [HZl.out]; exact HOK2.out⟩
            clear hJ hQJ hX hLo
            go_wp2
            go_roundg q
            case measure => omega
            case rel => exact ⟨k + 1, u, wrap64 (K + 1), o, (by first | rfl | (simp; done)), HK2, HQ2, HL2, HOK3, HSG2, HR2, HF, HBs, HO, HB⟩
          | succ q2 =>
            have c3 : decide (J < x1) = true := decide_eq_true (by omega)
            obtain ⟨Y, hY⟩ : ∃ Y : Int, x0 + J = Y := ⟨_, rfl⟩
            have v1 : wrap64 (x0 + J) = Y := (Go.IntWalk.wrap64_in _ (by omega)).trans hY
            have v2 : (IntKind.i64.wrap (x0 + J)) = Y := (i64_w _).trans v1
            have HZ2 : Aside0 (spkC q2 (o ++ [rd o Y]) x0 (j + 1) = Z) := ⟨by have := HZ.out; rw [spkC, ← hJ, hY] at this; exact this⟩
            have HJ2 : Aside0 (wrap64 (J + 1) = ((j + 1 : Nat) : Int)) := ⟨by rw [Go.IntWalk.wrap64_in _ (by omega)]; omega⟩
            have HQJ2 : Aside0 (j + 1 + q2 = n) := ⟨by omega⟩
            have HLo2 : Aside0 ((o ++ [rd o Y]).length = out.length + (j + 1)) := ⟨by rw [List.length_append, List.length_singleton]; omega⟩
            have HLM : Aside0 (o.length ≤ 160) := ⟨by omega⟩
            obtain ⟨Ao, co, eo⟩ := Kd.R_slice HO.out
            subst eo
            have p8 : 0 ≤ Y := by omega
            have q8 : Y < (o.length : Int) := by omega
            obtain ⟨a8, e8, hx8⟩ := Kd.at_int (Kd.R_reads' HO.out).2.2 Y p8 q8
            cases e8
            replace p8 := eq_true p8
            replace q8 := eq_true q8
            clear hJ hQJ hX hLo hY
            go_wp2_with ((with_reducible refine gate_builtin (b := .append) (xs := #[.tmp 28, .tmp 36]) rfl ?_); at_builtin; refine Kd.R_append (Kd.int .u8) (w0 := w0) w0.heap.size rfl (.tmp 28) (.tmp 36) 89 5 (.int .u8 0) 1 rfl Tryd.underlying89 info5 rfl (by decide) (by omega) (.slice (some a8) o.length co) o (rd o Y) [.int .u8 (rd o Y)] (fun _ => True) (fun _ => False) rfl rfl ?aP (fun _ hk => hk.elim) ?aF ?aO ?aB ?aS ?aL ?_; (case aP => exact rfl); (case aB => exact HB.out); (case aF => exact (fun _ _ => trivial)); (case aO => exact (by (with_reducible repeat (first | apply Kd.R_alloc)); exact HO.out)); (case aS => exact (below_size HB.out)); (case aL => have := HLM.out; omega); intro v316 w8 ho hb hg hat; have n0_ := Aside0.mk hb; have n1_ := Aside0.mk ho; have n2_ := Aside0.mk (blk_grown (g := F) HF.out hg (Kd.R_ne HO.out HF.out (by decide))); have n3_ := Aside0.mk (blk_grown (g := Bs) HBs.out hg (Kd.R_ne HO.out HBs.out (by decide))); have n4_ := Aside0.mk (blk_grown (g := g5) HG.out hg (Kd.R_ne HO.out HG.out (by decide))); clear HB HO HF HBs HG; have HB := n0_; have HO := n1_; have HF := n2_; have HBs := n3_; have HG := n4_; clear n0_ n1_ n2_ n3_ n4_; clear ho hb hg hat)
            go_roundg q2
            case measure => omega
            case rel => exact ⟨j + 1, wrap64 (J + 1), o ++ [rd o Y], (by first | rfl | (simp; done)), HJ2, HQJ2, HLo2, HZ2, HG, HF, HBs, HO, HB⟩

/-! ### Read -/
def readF (l : List S63) (lt : ByteArray) : ByteArray × Int := if isWordC lt = true ∧ okP l 0 ∧ sgl l = lt.size then (strOfNums (spk lt l [] 0).1, 0) else ((⟨#[]⟩ : ByteArray), 2)
set_option maxHeartbeats 8000000 in
set_option maxRecDepth 1000000 in
theorem read_calls (A : Option Addr) (c : Nat) (l : List S63) (lt : ByteArray) (w : World) (hG : GW w) (hr : Kd.C k63 w A l.length l) (hc : l.length ≤ c) (hl : l.length ≤ 1000) :
    Calls Tryd.prog 53 #[.slice A l.length c, .string lt] w fun e w' => e = .returned (.tuple #[.string (readF l lt).1, .int .i64 (readF l lt).2]) ∧ Below w.heap.size w w' := by
  have hW := fun W => isWord_calls lt W
  obtain ⟨k, hk⟩ := (areF_ev l hl).ex
  have hA := fun (W : World) (h : Kd.C k63 W A l.length l) => parse_areFactors.calls k A c l _ W h hc hk
  have hS := fun (W : World) (h : Kd.C k63 W A l.length l) (g : GW W) => singles_calls A c l W g h hc (by omega)
  have HW := Aside0.mk hW
  have HA := Aside0.mk hA
  have HS := Aside0.mk hS
  have HR := Aside0.mk hr
  have HG := Aside0.mk hG
  have a0_ := blk_new w (.cells #[.string lt] 9)
  have hb0 : Below w.heap.size w (w.alloc (.cells #[.string lt] 9)) := below_alloc (Below.refl _ _) _
  obtain ⟨Bs, hBs⟩ : ∃ Bs, Bs = w.heap.size := ⟨_, rfl⟩
  have HBs := Aside0.mk hBs
  have HB0 := Aside0.mk hb0
  have HX := Aside0.mk (hBs ▸ a0_ : (w.alloc (.cells #[.string lt] 9)).heap[Bs]? = _)
  clear hW hA hS hk hr hG a0_ hb0
  have z0 : (w.alloc (.cells #[.string lt] 9)).cell? ⟨Bs, 0, none⟩ = some (.string lt) := blk_cell HX.out 0
  have e2 : ((2 : Nat) : Int) = 2 := rfl
  cases h1 : isWordC lt with
  | false =>
    have hf : readF l lt = ((⟨#[]⟩ : ByteArray), 2) := by unfold readF; rw [if_neg (by rw [h1]; simp)]
    rw [hf]
    have HW2 := HW.out
    rw [h1] at HW2
    clear hf h1 e2
    go_enter Tryd.func53, Tryd.ntmps53
    go_wp2
    rw [← hBs]
    clear hBs
    refine start_ (n := 15) (S := fun w' => w'.cell? ⟨Bs, 0, none⟩ = some (.string lt)) (ds := []) #[false, false, false, false, false, false, false, false, false, false, false, false, false, false, false] (by kernel_rfl) rfl rfl (z0) (fun hHeld => ?_)
    refine take_ (i := 0) (N := some 7) (v := ?_) (a' := ?_) #[true, false, false, false, false, false, false, false, false, false, false, false, false, false, false] rfl rfl (by kernel_rfl) (fun _ _ _ h => h) (Or.inl ⟨by rfl, ?_⟩) hHeld ?_ ?_
    rotate_left
    · intro w' s0
      go_simp
      with_reducible rfl
    rotate_left
    · simp only [Act.put, List.setIfInBounds_toArray, List.set_cons_zero, List.set_cons_succ, i64_w, i32_w]
      rfl
    refine one_ (i := 1) (N := some 8) #[true, true, false, false, false, false, false, false, false, false, false, false, false, false, false] rfl rfl (by kernel_rfl) (by decide) (fun K hK => ?_)
    refine goes_ Tryd.func62 (by kernel_rfl) rfl #[.string lt] (by rfl) rfl rfl (by simp only [List.map_toArray, List.map_cons, List.map_nil]; rfl) ?_
    with_reducible refine (HW2 _).mono ?_
    rintro e w1 ⟨rfl, hb⟩
    refine ⟨_, rfl, ?_⟩
    have HB1 := Aside0.mk (below_step (below_drew1 HB0.out) hb)
    have HX1 := Aside0.mk (blk_below (blk_drew HX.out) hb)
    have z1 := blk_cell HX1.out 0
    clear hb
    refine hK.out _ _ (z1) (fun hHeld => ?_)
    clear hK K
    refine norm_ (a' := ?_) ?_ ?_
    rotate_left
    · show Act.put _ (some 8) _ = _
      simp only [Act.put, List.setIfInBounds_toArray, List.set_cons_zero, List.set_cons_succ, i64_w, i32_w]
      rfl
    refine pure_ (i := 2) (N := some 9) (v := ?_) (a' := ?_) #[true, true, true, false, false, false, false, false, false, false, false, false, false, false, false] rfl rfl (by kernel_rfl) (fun _ _ _ h => h) (Or.inl ⟨by rfl, ?_⟩) ?_ ?_
    rotate_left
    · intro w'
      go_simp
      with_reducible rfl
    rotate_left
    · simp only [Act.put, List.setIfInBounds_toArray, List.set_cons_zero, List.set_cons_succ, i64_w, i32_w]
      rfl
    refine pure_ (i := 3) (N := some 10) (v := ?_) (a' := ?_) #[true, true, true, true, false, false, false, false, false, false, false, false, false, false, false] rfl rfl (by kernel_rfl) (fun _ _ _ h => h) (Or.inl ⟨by rfl, ?_⟩) ?_ ?_
    rotate_left
    · intro w'
      go_simp
      with_reducible rfl
    rotate_left
    · simp only [Act.put, List.setIfInBounds_toArray, List.set_cons_zero, List.set_cons_succ, i64_w, i32_w]
      rfl
    refine pure_ (i := 4) (N := some 11) (v := undef) (a' := ?_) #[true, true, true, true, true, false, false, false, false, false, false, false, false, false, false] rfl rfl (by kernel_rfl) (fun _ _ _ h => h) (Or.inr ⟨by rfl, rfl⟩) ?_ ?_
    rotate_left
    · simp only [Act.put, List.setIfInBounds_toArray, List.set_cons_zero, List.set_cons_succ, i64_w, i32_w]
      rfl
    refine pure_ (i := 5) (N := some 12) (v := undef) (a' := ?_) #[true, true, true, true, true, true, false, false, false, false, false, false, false, false, false] rfl rfl (by kernel_rfl) (fun _ _ _ h => h) (Or.inr ⟨by rfl, rfl⟩) ?_ ?_
    rotate_left
    · simp only [Act.put, List.setIfInBounds_toArray, List.set_cons_zero, List.set_cons_succ, i64_w, i32_w]
      rfl
    refine pure_ (i := 6) (N := some 13) (v := undef) (a' := ?_) #[true, true, true, true, true, true, true, false, false, false, false, false, false, false, false] rfl rfl (by kernel_rfl) (fun _ _ _ h => h) (Or.inr ⟨by rfl, rfl⟩) ?_ ?_
    rotate_left
    · simp only [Act.put, List.setIfInBounds_toArray, List.set_cons_zero, List.set_cons_succ, i64_w, i32_w]
      rfl
    refine pure_ (i := 7) (N := some 14) (v := ?_) (a' := ?_) #[true, true, true, true, true, true, true, true, false, false, false, false, false, false, false] rfl rfl (by kernel_rfl) (fun _ _ _ h => h) (Or.inl ⟨by rfl, ?_⟩) ?_ ?_
    rotate_left
    · intro w'
      go_simp
      with_reducible rfl
    rotate_left
    · simp only [Act.put, List.setIfInBounds_toArray, List.set_cons_zero, List.set_cons_succ, i64_w, i32_w]
      rfl
    refine pure_ (i := 8) (N := some 15) (v := ?_) (a' := ?_) #[true, true, true, true, true, true, true, true, true, false, false, false, false, false, false] rfl rfl (by kernel_rfl) (fun _ _ _ h => h) (Or.inl ⟨by rfl, ?_⟩) ?_ ?_
    rotate_left
    · intro w'
      go_simp
      with_reducible rfl
    rotate_left
    · simp only [Act.put, List.setIfInBounds_toArray, List.set_cons_zero, List.set_cons_succ, i64_w, i32_w]
      rfl
    refine pure_ (i := 9) (N := some 16) (v := undef) (a' := ?_) #[true, true, true, true, true, true, true, true, true, true, false, false, false, false, false] rfl rfl (by kernel_rfl) (fun _ _ _ h => h) (Or.inr ⟨by rfl, rfl⟩) ?_ ?_
    rotate_left
    · simp only [Act.put, List.setIfInBounds_toArray, List.set_cons_zero, List.set_cons_succ, i64_w, i32_w]
      rfl
    refine pure_ (i := 10) (N := some 17) (v := undef) (a' := ?_) #[true, true, true, true, true, true, true, true, true, true, true, false, false, false, false] rfl rfl (by kernel_rfl) (fun _ _ _ h => h) (Or.inr ⟨by rfl, rfl⟩) ?_ ?_
    rotate_left
    · simp only [Act.put, List.setIfInBounds_toArray, List.set_cons_zero, List.set_cons_succ, i64_w, i32_w]
      rfl
    refine pure_ (i := 11) (N := some 18) (v := undef) (a' := ?_) #[true, true, true, true, true, true, true, true, true, true, true, true, false, false, false] rfl rfl (by kernel_rfl) (fun _ _ _ h => h) (Or.inr ⟨by rfl, rfl⟩) ?_ ?_
    rotate_left
    · simp only [Act.put, List.setIfInBounds_toArray, List.set_cons_zero, List.set_cons_succ, i64_w, i32_w]
      rfl
    refine pure_ (i := 12) (N := some 19) (v := undef) (a' := ?_) #[true, true, true, true, true, true, true, true, true, true, true, true, true, false, false] rfl rfl (by kernel_rfl) (fun _ _ _ h => h) (Or.inr ⟨by rfl, rfl⟩) ?_ ?_
    rotate_left
    · simp only [Act.put, List.setIfInBounds_toArray, List.set_cons_zero, List.set_cons_succ, i64_w, i32_w]
      rfl
    refine pure_ (i := 13) (N := some 20) (v := undef) (a' := ?_) #[true, true, true, true, true, true, true, true, true, true, true, true, true, true, false] rfl rfl (by kernel_rfl) (fun _ _ _ h => h) (Or.inr ⟨by rfl, rfl⟩) ?_ ?_
    rotate_left
    · simp only [Act.put, List.setIfInBounds_toArray, List.set_cons_zero, List.set_cons_succ, i64_w, i32_w]
      rfl
    refine pure_ (i := 14) (N := some 21) (v := ?_) (a' := ?_) #[true, true, true, true, true, true, true, true, true, true, true, true, true, true, true] rfl rfl (by kernel_rfl) (fun _ _ _ h => h) (Or.inl ⟨by rfl, ?_⟩) ?_ ?_
    rotate_left
    · intro w'
      go_simp
      with_reducible rfl
    rotate_left
    · simp only [Act.put, List.setIfInBounds_toArray, List.set_cons_zero, List.set_cons_succ, i64_w, i32_w]
      rfl
    refine done_ (by kernel_rfl) ?_
    go_wp2
    go_ret2
    exact ⟨rfl, HB1.out⟩
  | true =>
    have HW2 := HW.out
    rw [h1] at HW2
    cases h2 : decide (okP l 0) with
    | false =>
      have hf : readF l lt = ((⟨#[]⟩ : ByteArray), 2) := by unfold readF; rw [if_neg (fun h => by rw [decide_eq_true h.2.1] at h2; cases h2)]
      rw [hf]
      have HA2 := HA.out
      rw [h2] at HA2
      clear hf h1 h2 e2
      go_enter Tryd.func53, Tryd.ntmps53
      go_wp2
      rw [← hBs]
      clear hBs
      refine start_ (n := 15) (S := fun w' => w'.cell? ⟨Bs, 0, none⟩ = some (.string lt)) (ds := []) #[false, false, false, false, false, false, false, false, false, false, false, false, false, false, false] (by kernel_rfl) rfl rfl (z0) (fun hHeld => ?_)
      refine take_ (i := 0) (N := some 7) (v := ?_) (a' := ?_) #[true, false, false, false, false, false, false, false, false, false, false, false, false, false, false] rfl rfl (by kernel_rfl) (fun _ _ _ h => h) (Or.inl ⟨by rfl, ?_⟩) hHeld ?_ ?_
      rotate_left
      · intro w' s0
        go_simp
        with_reducible rfl
      rotate_left
      · simp only [Act.put, List.setIfInBounds_toArray, List.set_cons_zero, List.set_cons_succ, i64_w, i32_w]
        rfl
      refine one_ (i := 1) (N := some 8) #[true, true, false, false, false, false, false, false, false, false, false, false, false, false, false] rfl rfl (by kernel_rfl) (by decide) (fun K hK => ?_)
      refine goes_ Tryd.func62 (by kernel_rfl) rfl #[.string lt] (by rfl) rfl rfl (by simp only [List.map_toArray, List.map_cons, List.map_nil]; rfl) ?_
      with_reducible refine (HW2 _).mono ?_
      rintro e w1 ⟨rfl, hb⟩
      refine ⟨_, rfl, ?_⟩
      have HB1 := Aside0.mk (below_step (below_drew1 HB0.out) hb)
      have HX1 := Aside0.mk (blk_below (blk_drew HX.out) hb)
      have z1 := blk_cell HX1.out 0
      clear hb
      refine hK.out _ _ (z1) (fun hHeld => ?_)
      clear hK K
      refine norm_ (a' := ?_) ?_ ?_
      rotate_left
      · show Act.put _ (some 8) _ = _
        simp only [Act.put, List.setIfInBounds_toArray, List.set_cons_zero, List.set_cons_succ, i64_w, i32_w]
        rfl
      refine pure_ (i := 2) (N := some 9) (v := ?_) (a' := ?_) #[true, true, true, false, false, false, false, false, false, false, false, false, false, false, false] rfl rfl (by kernel_rfl) (fun _ _ _ h => h) (Or.inl ⟨by rfl, ?_⟩) ?_ ?_
      rotate_left
      · intro w'
        go_simp
        with_reducible rfl
      rotate_left
      · simp only [Act.put, List.setIfInBounds_toArray, List.set_cons_zero, List.set_cons_succ, i64_w, i32_w]
        rfl
      refine pure_ (i := 3) (N := some 10) (v := ?_) (a' := ?_) #[true, true, true, true, false, false, false, false, false, false, false, false, false, false, false] rfl rfl (by kernel_rfl) (fun _ _ _ h => h) (Or.inl ⟨by rfl, ?_⟩) ?_ ?_
      rotate_left
      · intro w'
        go_simp
        with_reducible rfl
      rotate_left
      · simp only [Act.put, List.setIfInBounds_toArray, List.set_cons_zero, List.set_cons_succ, i64_w, i32_w]
        rfl
      refine pure_ (i := 4) (N := some 11) (v := ?_) (a' := ?_) #[true, true, true, true, true, false, false, false, false, false, false, false, false, false, false] rfl rfl (by kernel_rfl) (fun _ _ _ h => h) (Or.inl ⟨by rfl, ?_⟩) ?_ ?_
      rotate_left
      · intro w'
        go_simp
        with_reducible rfl
      rotate_left
      · simp only [Act.put, List.setIfInBounds_toArray, List.set_cons_zero, List.set_cons_succ, i64_w, i32_w]
        rfl
      refine one_ (i := 5) (N := some 12) #[true, true, true, true, true, true, false, false, false, false, false, false, false, false, false] rfl rfl (by kernel_rfl) (by decide) (fun K hK => ?_)
      refine goes_ Tryd.func84 (by kernel_rfl) rfl #[.slice A l.length c] (by rfl) rfl rfl (by simp only [List.map_toArray, List.map_cons, List.map_nil]; rfl) ?_
      with_reducible refine (HA2 _ (Kd.C_below HR.out HB1.out)).mono ?_
      rintro e w2 ⟨rfl, hb⟩
      refine ⟨_, rfl, ?_⟩
      have HB2 := Aside0.mk (below_step HB1.out hb)
      have HX2 := Aside0.mk (blk_below HX1.out hb)
      have z2 := blk_cell HX2.out 0
      clear hb
      refine hK.out _ _ (z2) (fun hHeld => ?_)
      clear hK K
      refine norm_ (a' := ?_) ?_ ?_
      rotate_left
      · show Act.put _ (some 12) _ = _
        simp only [Act.put, List.setIfInBounds_toArray, List.set_cons_zero, List.set_cons_succ, i64_w, i32_w]
        rfl
      refine pure_ (i := 6) (N := some 13) (v := ?_) (a' := ?_) #[true, true, true, true, true, true, true, false, false, false, false, false, false, false, false] rfl rfl (by kernel_rfl) (fun _ _ _ h => h) (Or.inl ⟨by rfl, ?_⟩) ?_ ?_
      rotate_left
      · intro w'
        go_simp
        with_reducible rfl
      rotate_left
      · simp only [Act.put, List.setIfInBounds_toArray, List.set_cons_zero, List.set_cons_succ, i64_w, i32_w]
        rfl
      refine pure_ (i := 7) (N := some 14) (v := ?_) (a' := ?_) #[true, true, true, true, true, true, true, true, false, false, false, false, false, false, false] rfl rfl (by kernel_rfl) (fun _ _ _ h => h) (Or.inl ⟨by rfl, ?_⟩) ?_ ?_
      rotate_left
      · intro w'
        go_simp
        with_reducible rfl
      rotate_left
      · simp only [Act.put, List.setIfInBounds_toArray, List.set_cons_zero, List.set_cons_succ, i64_w, i32_w]
        rfl
      refine pure_ (i := 8) (N := some 15) (v := ?_) (a' := ?_) #[true, true, true, true, true, true, true, true, true, false, false, false, false, false, false] rfl rfl (by kernel_rfl) (fun _ _ _ h => h) (Or.inl ⟨by rfl, ?_⟩) ?_ ?_
      rotate_left
      · intro w'
        go_simp
        with_reducible rfl
      rotate_left
      · simp only [Act.put, List.setIfInBounds_toArray, List.set_cons_zero, List.set_cons_succ, i64_w, i32_w]
        rfl
      refine pure_ (i := 9) (N := some 16) (v := undef) (a' := ?_) #[true, true, true, true, true, true, true, true, true, true, false, false, false, false, false] rfl rfl (by kernel_rfl) (fun _ _ _ h => h) (Or.inr ⟨by rfl, rfl⟩) ?_ ?_
      rotate_left
      · simp only [Act.put, List.setIfInBounds_toArray, List.set_cons_zero, List.set_cons_succ, i64_w, i32_w]
        rfl
      refine pure_ (i := 10) (N := some 17) (v := undef) (a' := ?_) #[true, true, true, true, true, true, true, true, true, true, true, false, false, false, false] rfl rfl (by kernel_rfl) (fun _ _ _ h => h) (Or.inr ⟨by rfl, rfl⟩) ?_ ?_
      rotate_left
      · simp only [Act.put, List.setIfInBounds_toArray, List.set_cons_zero, List.set_cons_succ, i64_w, i32_w]
        rfl
      refine pure_ (i := 11) (N := some 18) (v := undef) (a' := ?_) #[true, true, true, true, true, true, true, true, true, true, true, true, false, false, false] rfl rfl (by kernel_rfl) (fun _ _ _ h => h) (Or.inr ⟨by rfl, rfl⟩) ?_ ?_
      rotate_left
      · simp only [Act.put, List.setIfInBounds_toArray, List.set_cons_zero, List.set_cons_succ, i64_w, i32_w]
        rfl
      refine pure_ (i := 12) (N := some 19) (v := undef) (a' := ?_) #[true, true, true, true, true, true, true, true, true, true, true, true, true, false, false] rfl rfl (by kernel_rfl) (fun _ _ _ h => h) (Or.inr ⟨by rfl, rfl⟩) ?_ ?_
      rotate_left
      · simp only [Act.put, List.setIfInBounds_toArray, List.set_cons_zero, List.set_cons_succ, i64_w, i32_w]
        rfl
      refine pure_ (i := 13) (N := some 20) (v := undef) (a' := ?_) #[true, true, true, true, true, true, true, true, true, true, true, true, true, true, false] rfl rfl (by kernel_rfl) (fun _ _ _ h => h) (Or.inr ⟨by rfl, rfl⟩) ?_ ?_
      rotate_left
      · simp only [Act.put, List.setIfInBounds_toArray, List.set_cons_zero, List.set_cons_succ, i64_w, i32_w]
        rfl
      refine pure_ (i := 14) (N := some 21) (v := ?_) (a' := ?_) #[true, true, true, true, true, true, true, true, true, true, true, true, true, true, true] rfl rfl (by kernel_rfl) (fun _ _ _ h => h) (Or.inl ⟨by rfl, ?_⟩) ?_ ?_
      rotate_left
      · intro w'
        go_simp
        with_reducible rfl
      rotate_left
      · simp only [Act.put, List.setIfInBounds_toArray, List.set_cons_zero, List.set_cons_succ, i64_w, i32_w]
        rfl
      refine done_ (by kernel_rfl) ?_
      go_wp2
      go_ret2
      exact ⟨rfl, HB2.out⟩
    | true =>
      have HA2 := HA.out
      rw [h2] at HA2
      have HS2 := HS.out
      have hok := of_decide_eq_true h2
      have hsg : singN l l.length = (sgl l : Int) := by
        have := singN_sgl l (okP_mem hok) l.length (Nat.le_refl _)
        rwa [List.take_length] at this
      obtain ⟨n, hn⟩ : ∃ n, singN l l.length = n := ⟨_, rfl⟩
      rw [hn] at HS2 hsg
      have hlt : lt.size ≤ 160 := ((isWordC_iff lt).1 h1).1
      by_cases h3 : sgl l = lt.size
      · have hf : readF l lt = (strOfNums (spk lt l [] 0).1, 0) := by unfold readF; rw [if_pos ⟨h1, hok, h3⟩]
        rw [hf]
        have c1 : ((n : Int) != (lt.size : Int)) = false := bne_eq_false_iff_eq.2 (by omega)
        have c2 : ((n : Int) == (lt.size : Int)) = true := beq_iff_eq.2 (by omega)
        obtain ⟨R, hR⟩ : ∃ R, strOfNums (spk lt l [] 0).1 = R := ⟨_, rfl⟩
        have HRR := Aside0.mk hR
        rw [hR]
        have H3 := Aside0.mk h3
        have HOK := Aside0.mk hok
        have HLT := Aside0.mk hlt
        clear hf h1 h2 h3 hn hsg hok hlt e2 hR
        go_enter Tryd.func53, Tryd.ntmps53
        go_wp2
        rw [← hBs]
        clear hBs
        refine start_ (n := 15) (S := fun w' => w'.cell? ⟨Bs, 0, none⟩ = some (.string lt)) (ds := []) #[false, false, false, false, false, false, false, false, false, false, false, false, false, false, false] (by kernel_rfl) rfl rfl (z0) (fun hHeld => ?_)
        refine take_ (i := 0) (N := some 7) (v := ?_) (a' := ?_) #[true, false, false, false, false, false, false, false, false, false, false, false, false, false, false] rfl rfl (by kernel_rfl) (fun _ _ _ h => h) (Or.inl ⟨by rfl, ?_⟩) hHeld ?_ ?_
        rotate_left
        · intro w' s0
          go_simp
          with_reducible rfl
        rotate_left
        · simp only [Act.put, List.setIfInBounds_toArray, List.set_cons_zero, List.set_cons_succ, i64_w, i32_w]
          rfl
        refine one_ (i := 1) (N := some 8) #[true, true, false, false, false, false, false, false, false, false, false, false, false, false, false] rfl rfl (by kernel_rfl) (by decide) (fun K hK => ?_)
        refine goes_ Tryd.func62 (by kernel_rfl) rfl #[.string lt] (by rfl) rfl rfl (by simp only [List.map_toArray, List.map_cons, List.map_nil]; rfl) ?_
        with_reducible refine (HW2 _).mono ?_
        rintro e w1 ⟨rfl, hb⟩
        refine ⟨_, rfl, ?_⟩
        have HB1 := Aside0.mk (below_step (below_drew1 HB0.out) hb)
        have HX1 := Aside0.mk (blk_below (blk_drew HX.out) hb)
        have z1 := blk_cell HX1.out 0
        clear hb
        refine hK.out _ _ (z1) (fun hHeld => ?_)
        clear hK K
        refine norm_ (a' := ?_) ?_ ?_
        rotate_left
        · show Act.put _ (some 8) _ = _
          simp only [Act.put, List.setIfInBounds_toArray, List.set_cons_zero, List.set_cons_succ, i64_w, i32_w]
          rfl
        refine pure_ (i := 2) (N := some 9) (v := ?_) (a' := ?_) #[true, true, true, false, false, false, false, false, false, false, false, false, false, false, false] rfl rfl (by kernel_rfl) (fun _ _ _ h => h) (Or.inl ⟨by rfl, ?_⟩) ?_ ?_
        rotate_left
        · intro w'
          go_simp
          with_reducible rfl
        rotate_left
        · simp only [Act.put, List.setIfInBounds_toArray, List.set_cons_zero, List.set_cons_succ, i64_w, i32_w]
          rfl
        refine pure_ (i := 3) (N := some 10) (v := ?_) (a' := ?_) #[true, true, true, true, false, false, false, false, false, false, false, false, false, false, false] rfl rfl (by kernel_rfl) (fun _ _ _ h => h) (Or.inl ⟨by rfl, ?_⟩) ?_ ?_
        rotate_left
        · intro w'
          go_simp
          with_reducible rfl
        rotate_left
        · simp only [Act.put, List.setIfInBounds_toArray, List.set_cons_zero, List.set_cons_succ, i64_w, i32_w]
          rfl
        refine pure_ (i := 4) (N := some 11) (v := ?_) (a' := ?_) #[true, true, true, true, true, false, false, false, false, false, false, false, false, false, false] rfl rfl (by kernel_rfl) (fun _ _ _ h => h) (Or.inl ⟨by rfl, ?_⟩) ?_ ?_
        rotate_left
        · intro w'
          go_simp
          with_reducible rfl
        rotate_left
        · simp only [Act.put, List.setIfInBounds_toArray, List.set_cons_zero, List.set_cons_succ, i64_w, i32_w]
          rfl
        refine one_ (i := 5) (N := some 12) #[true, true, true, true, true, true, false, false, false, false, false, false, false, false, false] rfl rfl (by kernel_rfl) (by decide) (fun K hK => ?_)
        refine goes_ Tryd.func84 (by kernel_rfl) rfl #[.slice A l.length c] (by rfl) rfl rfl (by simp only [List.map_toArray, List.map_cons, List.map_nil]; rfl) ?_
        with_reducible refine (HA2 _ (Kd.C_below HR.out HB1.out)).mono ?_
        rintro e w2 ⟨rfl, hb⟩
        refine ⟨_, rfl, ?_⟩
        have HB2 := Aside0.mk (below_step HB1.out hb)
        have HX2 := Aside0.mk (blk_below HX1.out hb)
        have z2 := blk_cell HX2.out 0
        clear hb
        refine hK.out _ _ (z2) (fun hHeld => ?_)
        clear hK K
        refine norm_ (a' := ?_) ?_ ?_
        rotate_left
        · show Act.put _ (some 12) _ = _
          simp only [Act.put, List.setIfInBounds_toArray, List.set_cons_zero, List.set_cons_succ, i64_w, i32_w]
          rfl
        refine pure_ (i := 6) (N := some 13) (v := ?_) (a' := ?_) #[true, true, true, true, true, true, true, false, false, false, false, false, false, false, false] rfl rfl (by kernel_rfl) (fun _ _ _ h => h) (Or.inl ⟨by rfl, ?_⟩) ?_ ?_
        rotate_left
        · intro w'
          go_simp
          with_reducible rfl
        rotate_left
        · simp only [Act.put, List.setIfInBounds_toArray, List.set_cons_zero, List.set_cons_succ, i64_w, i32_w]
          rfl
        refine pure_ (i := 7) (N := some 14) (v := ?_) (a' := ?_) #[true, true, true, true, true, true, true, true, false, false, false, false, false, false, false] rfl rfl (by kernel_rfl) (fun _ _ _ h => h) (Or.inl ⟨by rfl, ?_⟩) ?_ ?_
        rotate_left
        · intro w'
          go_simp
          with_reducible rfl
        rotate_left
        · simp only [Act.put, List.setIfInBounds_toArray, List.set_cons_zero, List.set_cons_succ, i64_w, i32_w]
          rfl
        refine pure_ (i := 8) (N := some 15) (v := ?_) (a' := ?_) #[true, true, true, true, true, true, true, true, true, false, false, false, false, false, false] rfl rfl (by kernel_rfl) (fun _ _ _ h => h) (Or.inl ⟨by rfl, ?_⟩) ?_ ?_
        rotate_left
        · intro w'
          go_simp
          with_reducible rfl
        rotate_left
        · simp only [Act.put, List.setIfInBounds_toArray, List.set_cons_zero, List.set_cons_succ, i64_w, i32_w]
          rfl
        refine pure_ (i := 9) (N := some 16) (v := ?_) (a' := ?_) #[true, true, true, true, true, true, true, true, true, true, false, false, false, false, false] rfl rfl (by kernel_rfl) (fun _ _ _ h => h) (Or.inl ⟨by rfl, ?_⟩) ?_ ?_
        rotate_left
        · intro w'
          go_simp
          with_reducible rfl
        rotate_left
        · simp only [Act.put, List.setIfInBounds_toArray, List.set_cons_zero, List.set_cons_succ, i64_w, i32_w]
          rfl
        refine take_ (i := 11) (N := some 18) (v := ?_) (a' := ?_) #[true, true, true, true, true, true, true, true, true, true, false, true, false, false, false] rfl rfl (by kernel_rfl) (fun _ _ _ h => h) (Or.inl ⟨by rfl, ?_⟩) hHeld ?_ ?_
        rotate_left
        · intro w' s0
          go_simp
          with_reducible rfl
        rotate_left
        · simp only [Act.put, List.setIfInBounds_toArray, List.set_cons_zero, List.set_cons_succ, i64_w, i32_w]
          rfl
        refine pure_ (i := 12) (N := some 19) (v := ?_) (a' := ?_) #[true, true, true, true, true, true, true, true, true, true, false, true, true, false, false] rfl rfl (by kernel_rfl) (fun _ _ _ h => h) (Or.inl ⟨by rfl, ?_⟩) ?_ ?_
        rotate_left
        · intro w'
          go_simp
          with_reducible rfl
        rotate_left
        · simp only [Act.put, List.setIfInBounds_toArray, List.set_cons_zero, List.set_cons_succ, i64_w, i32_w]
          rfl
        refine one_ (i := 10) (N := some 17) #[true, true, true, true, true, true, true, true, true, true, true, true, true, false, false] rfl rfl (by kernel_rfl) (by decide) (fun K hK => ?_)
        refine goes_ Tryd.func85 (by kernel_rfl) rfl #[.slice A l.length c] (by rfl) rfl rfl (by simp only [List.map_toArray, List.map_cons, List.map_nil]; rfl) ?_
        with_reducible refine (HS2 _ (Kd.C_below HR.out HB2.out) (gw_now HG.out HB2.out)).mono ?_
        rintro e w3 ⟨rfl, hb⟩
        refine ⟨_, rfl, ?_⟩
        have HB3 := Aside0.mk (below_step HB2.out hb)
        have HX3 := Aside0.mk (blk_below HX2.out hb)
        have z3 := blk_cell HX3.out 0
        clear hb
        refine hK.out _ _ (z3) (fun hHeld => ?_)
        clear hK K
        refine norm_ (a' := ?_) ?_ ?_
        rotate_left
        · show Act.put _ (some 17) _ = _
          simp only [Act.put, List.setIfInBounds_toArray, List.set_cons_zero, List.set_cons_succ, i64_w, i32_w]
          rfl
        refine pure_ (i := 13) (N := some 20) (v := ?_) (a' := ?_) #[true, true, true, true, true, true, true, true, true, true, true, true, true, true, false] rfl rfl (by kernel_rfl) (fun _ _ _ h => h) (Or.inl ⟨by rfl, ?_⟩) ?_ ?_
        rotate_left
        · intro w'
          go_simp
          with_reducible rfl
        rotate_left
        · simp only [Act.put, List.setIfInBounds_toArray, List.set_cons_zero, List.set_cons_succ, i64_w, i32_w]
          rfl
        refine pure_ (i := 14) (N := some 21) (v := ?_) (a' := ?_) #[true, true, true, true, true, true, true, true, true, true, true, true, true, true, true] rfl rfl (by kernel_rfl) (fun _ _ _ h => h) (Or.inl ⟨by rfl, ?_⟩) ?_ ?_
        rotate_left
        · intro w'
          go_simp
          with_reducible rfl
        rotate_left
        · simp only [Act.put, List.setIfInBounds_toArray, List.set_cons_zero, List.set_cons_succ, i64_w, i32_w]
          rfl
        refine done_ (by kernel_rfl) ?_
        clear c1 c2 z0 z1 z2 z3 HX HX1 HX2 HB0 HB1 HB2
        obtain ⟨F, hF⟩ : ∃ F, F = w3.heap.size := ⟨_, rfl⟩
        have HF := Aside0.mk (hF ▸ blk_new w3 (.cells #[.int .i64 0] 3) : (w3.alloc (.cells #[.int .i64 0] 3)).heap[F]? = _)
        have HX4 := Aside0.mk (blk_alloc HX3.out (.cells #[.int .i64 0] 3))
        have HB4 := Aside0.mk (below_alloc HB3.out (.cells #[.int .i64 0] 3))
        have HFF : Aside0 (w.heap.size ≤ F) := ⟨by rw [hF]; exact HB3.out.size⟩
        have HBB : Aside0 (w.heap.size ≤ Bs) := ⟨by rw [HBs.out]; exact Nat.le_refl _⟩
        have HNE : Aside0 (Bs ≠ F) := ⟨by have := blk_lt HX3.out; omega⟩
        go_wp2_with (go_at_call 86; rw [← hF]; refine (spoken_calls lt HLT.out A c l F Bs w _ HFF.out HBB.out HNE.out HB4.out HF.out HX4.out HR.out hc HOK.out H3.out hl).mono ?_; rintro e w5 ⟨rfl, hb⟩; rw [HRR.out]; have HB5 := Aside0.mk hb; clear hb)
        go_ret2
        exact ⟨rfl, HB5.out⟩
      · have hf : readF l lt = ((⟨#[]⟩ : ByteArray), 2) := by unfold readF; rw [if_neg (fun h => h3 h.2.2)]
        rw [hf]
        have c1 : ((n : Int) != (lt.size : Int)) = true := bne_iff_ne.2 (by omega)
        have c2 : ((n : Int) == (lt.size : Int)) = false := beq_eq_false_iff_ne.2 (by omega)
        clear hf h1 h2 h3 hn hsg hok hlt e2
        go_enter Tryd.func53, Tryd.ntmps53
        go_wp2
        rw [← hBs]
        clear hBs
        refine start_ (n := 15) (S := fun w' => w'.cell? ⟨Bs, 0, none⟩ = some (.string lt)) (ds := []) #[false, false, false, false, false, false, false, false, false, false, false, false, false, false, false] (by kernel_rfl) rfl rfl (z0) (fun hHeld => ?_)
        refine take_ (i := 0) (N := some 7) (v := ?_) (a' := ?_) #[true, false, false, false, false, false, false, false, false, false, false, false, false, false, false] rfl rfl (by kernel_rfl) (fun _ _ _ h => h) (Or.inl ⟨by rfl, ?_⟩) hHeld ?_ ?_
        rotate_left
        · intro w' s0
          go_simp
          with_reducible rfl
        rotate_left
        · simp only [Act.put, List.setIfInBounds_toArray, List.set_cons_zero, List.set_cons_succ, i64_w, i32_w]
          rfl
        refine one_ (i := 1) (N := some 8) #[true, true, false, false, false, false, false, false, false, false, false, false, false, false, false] rfl rfl (by kernel_rfl) (by decide) (fun K hK => ?_)
        refine goes_ Tryd.func62 (by kernel_rfl) rfl #[.string lt] (by rfl) rfl rfl (by simp only [List.map_toArray, List.map_cons, List.map_nil]; rfl) ?_
        with_reducible refine (HW2 _).mono ?_
        rintro e w1 ⟨rfl, hb⟩
        refine ⟨_, rfl, ?_⟩
        have HB1 := Aside0.mk (below_step (below_drew1 HB0.out) hb)
        have HX1 := Aside0.mk (blk_below (blk_drew HX.out) hb)
        have z1 := blk_cell HX1.out 0
        clear hb
        refine hK.out _ _ (z1) (fun hHeld => ?_)
        clear hK K
        refine norm_ (a' := ?_) ?_ ?_
        rotate_left
        · show Act.put _ (some 8) _ = _
          simp only [Act.put, List.setIfInBounds_toArray, List.set_cons_zero, List.set_cons_succ, i64_w, i32_w]
          rfl
        refine pure_ (i := 2) (N := some 9) (v := ?_) (a' := ?_) #[true, true, true, false, false, false, false, false, false, false, false, false, false, false, false] rfl rfl (by kernel_rfl) (fun _ _ _ h => h) (Or.inl ⟨by rfl, ?_⟩) ?_ ?_
        rotate_left
        · intro w'
          go_simp
          with_reducible rfl
        rotate_left
        · simp only [Act.put, List.setIfInBounds_toArray, List.set_cons_zero, List.set_cons_succ, i64_w, i32_w]
          rfl
        refine pure_ (i := 3) (N := some 10) (v := ?_) (a' := ?_) #[true, true, true, true, false, false, false, false, false, false, false, false, false, false, false] rfl rfl (by kernel_rfl) (fun _ _ _ h => h) (Or.inl ⟨by rfl, ?_⟩) ?_ ?_
        rotate_left
        · intro w'
          go_simp
          with_reducible rfl
        rotate_left
        · simp only [Act.put, List.setIfInBounds_toArray, List.set_cons_zero, List.set_cons_succ, i64_w, i32_w]
          rfl
        refine pure_ (i := 4) (N := some 11) (v := ?_) (a' := ?_) #[true, true, true, true, true, false, false, false, false, false, false, false, false, false, false] rfl rfl (by kernel_rfl) (fun _ _ _ h => h) (Or.inl ⟨by rfl, ?_⟩) ?_ ?_
        rotate_left
        · intro w'
          go_simp
          with_reducible rfl
        rotate_left
        · simp only [Act.put, List.setIfInBounds_toArray, List.set_cons_zero, List.set_cons_succ, i64_w, i32_w]
          rfl
        refine one_ (i := 5) (N := some 12) #[true, true, true, true, true, true, false, false, false, false, false, false, false, false, false] rfl rfl (by kernel_rfl) (by decide) (fun K hK => ?_)
        refine goes_ Tryd.func84 (by kernel_rfl) rfl #[.slice A l.length c] (by rfl) rfl rfl (by simp only [List.map_toArray, List.map_cons, List.map_nil]; rfl) ?_
        with_reducible refine (HA2 _ (Kd.C_below HR.out HB1.out)).mono ?_
        rintro e w2 ⟨rfl, hb⟩
        refine ⟨_, rfl, ?_⟩
        have HB2 := Aside0.mk (below_step HB1.out hb)
        have HX2 := Aside0.mk (blk_below HX1.out hb)
        have z2 := blk_cell HX2.out 0
        clear hb
        refine hK.out _ _ (z2) (fun hHeld => ?_)
        clear hK K
        refine norm_ (a' := ?_) ?_ ?_
        rotate_left
        · show Act.put _ (some 12) _ = _
          simp only [Act.put, List.setIfInBounds_toArray, List.set_cons_zero, List.set_cons_succ, i64_w, i32_w]
          rfl
        refine pure_ (i := 6) (N := some 13) (v := ?_) (a' := ?_) #[true, true, true, true, true, true, true, false, false, false, false, false, false, false, false] rfl rfl (by kernel_rfl) (fun _ _ _ h => h) (Or.inl ⟨by rfl, ?_⟩) ?_ ?_
        rotate_left
        · intro w'
          go_simp
          with_reducible rfl
        rotate_left
        · simp only [Act.put, List.setIfInBounds_toArray, List.set_cons_zero, List.set_cons_succ, i64_w, i32_w]
          rfl
        refine pure_ (i := 7) (N := some 14) (v := ?_) (a' := ?_) #[true, true, true, true, true, true, true, true, false, false, false, false, false, false, false] rfl rfl (by kernel_rfl) (fun _ _ _ h => h) (Or.inl ⟨by rfl, ?_⟩) ?_ ?_
        rotate_left
        · intro w'
          go_simp
          with_reducible rfl
        rotate_left
        · simp only [Act.put, List.setIfInBounds_toArray, List.set_cons_zero, List.set_cons_succ, i64_w, i32_w]
          rfl
        refine pure_ (i := 8) (N := some 15) (v := ?_) (a' := ?_) #[true, true, true, true, true, true, true, true, true, false, false, false, false, false, false] rfl rfl (by kernel_rfl) (fun _ _ _ h => h) (Or.inl ⟨by rfl, ?_⟩) ?_ ?_
        rotate_left
        · intro w'
          go_simp
          with_reducible rfl
        rotate_left
        · simp only [Act.put, List.setIfInBounds_toArray, List.set_cons_zero, List.set_cons_succ, i64_w, i32_w]
          rfl
        refine pure_ (i := 9) (N := some 16) (v := ?_) (a' := ?_) #[true, true, true, true, true, true, true, true, true, true, false, false, false, false, false] rfl rfl (by kernel_rfl) (fun _ _ _ h => h) (Or.inl ⟨by rfl, ?_⟩) ?_ ?_
        rotate_left
        · intro w'
          go_simp
          with_reducible rfl
        rotate_left
        · simp only [Act.put, List.setIfInBounds_toArray, List.set_cons_zero, List.set_cons_succ, i64_w, i32_w]
          rfl
        refine take_ (i := 11) (N := some 18) (v := ?_) (a' := ?_) #[true, true, true, true, true, true, true, true, true, true, false, true, false, false, false] rfl rfl (by kernel_rfl) (fun _ _ _ h => h) (Or.inl ⟨by rfl, ?_⟩) hHeld ?_ ?_
        rotate_left
        · intro w' s0
          go_simp
          with_reducible rfl
        rotate_left
        · simp only [Act.put, List.setIfInBounds_toArray, List.set_cons_zero, List.set_cons_succ, i64_w, i32_w]
          rfl
        refine pure_ (i := 12) (N := some 19) (v := ?_) (a' := ?_) #[true, true, true, true, true, true, true, true, true, true, false, true, true, false, false] rfl rfl (by kernel_rfl) (fun _ _ _ h => h) (Or.inl ⟨by rfl, ?_⟩) ?_ ?_
        rotate_left
        · intro w'
          go_simp
          with_reducible rfl
        rotate_left
        · simp only [Act.put, List.setIfInBounds_toArray, List.set_cons_zero, List.set_cons_succ, i64_w, i32_w]
          rfl
        refine one_ (i := 10) (N := some 17) #[true, true, true, true, true, true, true, true, true, true, true, true, true, false, false] rfl rfl (by kernel_rfl) (by decide) (fun K hK => ?_)
        refine goes_ Tryd.func85 (by kernel_rfl) rfl #[.slice A l.length c] (by rfl) rfl rfl (by simp only [List.map_toArray, List.map_cons, List.map_nil]; rfl) ?_
        with_reducible refine (HS2 _ (Kd.C_below HR.out HB2.out) (gw_now HG.out HB2.out)).mono ?_
        rintro e w3 ⟨rfl, hb⟩
        refine ⟨_, rfl, ?_⟩
        have HB3 := Aside0.mk (below_step HB2.out hb)
        have HX3 := Aside0.mk (blk_below HX2.out hb)
        have z3 := blk_cell HX3.out 0
        clear hb
        refine hK.out _ _ (z3) (fun hHeld => ?_)
        clear hK K
        refine norm_ (a' := ?_) ?_ ?_
        rotate_left
        · show Act.put _ (some 17) _ = _
          simp only [Act.put, List.setIfInBounds_toArray, List.set_cons_zero, List.set_cons_succ, i64_w, i32_w]
          rfl
        refine pure_ (i := 13) (N := some 20) (v := ?_) (a' := ?_) #[true, true, true, true, true, true, true, true, true, true, true, true, true, true, false] rfl rfl (by kernel_rfl) (fun _ _ _ h => h) (Or.inl ⟨by rfl, ?_⟩) ?_ ?_
        rotate_left
        · intro w'
          go_simp
          with_reducible rfl
        rotate_left
        · simp only [Act.put, List.setIfInBounds_toArray, List.set_cons_zero, List.set_cons_succ, i64_w, i32_w]
          rfl
        refine pure_ (i := 14) (N := some 21) (v := ?_) (a' := ?_) #[true, true, true, true, true, true, true, true, true, true, true, true, true, true, true] rfl rfl (by kernel_rfl) (fun _ _ _ h => h) (Or.inl ⟨by rfl, ?_⟩) ?_ ?_
        rotate_left
        · intro w'
          go_simp
          with_reducible rfl
        rotate_left
        · simp only [Act.put, List.setIfInBounds_toArray, List.set_cons_zero, List.set_cons_succ, i64_w, i32_w]
          rfl
        refine done_ (by kernel_rfl) ?_
        go_wp2
        go_ret2
        exact ⟨rfl, HB3.out⟩
/-! for the printer -/
def parse_Read.f (l : List S63) (a1 : ByteArray) : Option (ByteArray × Int) := if l.length ≤ 1000 then some (readF l a1) else none
theorem parse_Read.calls (A0 : Option Addr) (c0 : Nat) (l0 : List (S63)) (a1 : ByteArray) (r1 : ByteArray) (r2 : Int) (w : World) (hG : GW w) (hr0 : Kd.C k63 w A0 l0.length l0) (hc0 : l0.length ≤ c0) (h : parse_Read.f l0 a1 = some (r1, r2)) :
    Calls Tryd.prog 53 #[.slice A0 l0.length c0, .string a1] w fun e w' => e = .returned (.tuple #[.string r1, .int .i64 r2]) ∧ Below w.heap.size w w' := by
  unfold parse_Read.f at h
  by_cases hl : l0.length ≤ 1000
  · rw [if_pos hl] at h
    have h2 := Option.some.inj h
    have := read_calls A0 c0 l0 a1 w hG hr0 hc0 hl
    rw [h2] at this
    exact this
  · rw [if_neg hl] at h
    cases h
end Go.Proofs.YtpeeflkodpnbpaaDoor.Pr
