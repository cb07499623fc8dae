/- learn's contract: the factors of the learning parse, as learnF says. -/
import Derived.Test.YtpeeflkodpnbpaaDoorHSub
namespace Go.Proofs.YtpeeflkodpnbpaaDoor.Pr
open Go.RowKit Go.WideMaps Go.Maps Go.Proofs.YtpeeflkodpnbpaaDoorW.PrintWords Go.Proofs.YtpeeflkodpnbpaaDoorW.PrintLast Go.Proofs.YtpeeflkodpnbpaaDoorW.PrintMore
set_option linter.unusedVariables false
set_option linter.unusedSimpArgs false

theorem wpList_insert_own {H : Type} {P : Program} (w : World) {ops : Array Oper} {rest : List Oper} {o : Oper} {a : Act} {Q : Exit → Act → World → Prop}
    (hg : o.guard = none) (m x v : Operand) (t : TypeId) (hop : o.op = Op.insert t m x v)
    (k e : TypeId) (K : Keyed P k) (ht : P.underlying t = some (.map k e)) (R : Value → Option (DataW H × List MemPlace)) (b n : Nat) (D : DataW H)
    (hm : a.eval m = .map (some b)) (hown : w.ownsMap P k R b n D) (hn : n < maxLen) (key val : Value) (kl : Lit) (hx : a.eval x = key) (hv : a.eval v = val) (hkey : keyOf P k key = some kl)
    (d : DataW H) (ps : List MemPlace) (hval : R val = some (d, ps))
    (hK : ∀ w', w'.ownsMap P k R b (n + 1) (D.put kl d) → w.grownBy w' (some b) → wpList P ops Q rest (a.put o.dst undef) w') :
    wpList P ops Q (o :: rest) a w := by
  refine wpList_plain hg fun K' hK' => ?_
  obtain ⟨w', hrun, r1, r2⟩ := hown.update K ht hn hkey hval
  unfold Oper.wp
  simp [execOp, hop, hm, hx, hv, hrun, Result.andThen]
  exact hK' _ _ (hK w' r1 r2)
theorem zero3 (w : World) : (zeroValue 3).run Tryd.prog w = .ok (.int .i64 0) w := by kernel_rfl
theorem learnF_stop {s : ByteArray} {q i : Nat} {known : List ByteArray} {out : List S63} (h : ¬ i < s.size) : learnF s q i known out = out := by
  cases q with
  | zero => rfl
  | succ q => rw [learnF, if_neg h]
theorem lit_i64 {a b : Int} {H : Type} (h : (DataW.lit (.int .i64 a) : DataW H) = .lit (.int .i64 b)) : b = a := by
  injection h with h; injection h with _ h; exact h.symm
theorem R_map {α : Type} {d : Kd α} {e base : Nat} {w w1 : World} {v : Value} {xs : List α} {b : Nat} (h : d.R e w base (fun k => k ≠ b) v xs) (hg : w.grownBy w1 (some b)) : d.R e w1 base (fun k => k ≠ b) v xs :=
  Kd.R_grown h hg (fun k hk e => hk (by cases e; rfl))

set_option maxHeartbeats 8000000 in
set_option maxRecDepth 1000000 in
theorem learn_calls (s : ByteArray) (hs : s.size ≤ 160) (w : World) :
    Calls Tryd.prog 65 #[.string s] w fun e w' => ∃ v, e = .returned v ∧ Kd.R k63 63 w' w.heap.size (fun _ => True) v (learnF s s.size 0 [] []) ∧ Below w.heap.size w w' := by
  have hmm := @run_makeMap Tryd.prog
  obtain ⟨R, hR⟩ : ∃ R, learnF s s.size 0 [] [] = R := ⟨_, rfl⟩
  rw [hR]
  have HR0 := Aside0.mk hR
  clear hR
  go_enter Tryd.func65, Tryd.ntmps65
  go_wp2_with (refine wpList_insert_own (H := Unit) _ rfl _ _ _ 113 rfl 9 3 law9 Tryd.underlying113 (plainElem Tryd.prog 3) w.heap.size 0 (.map []) rfl (World.ownsMap_made _ _ _ _) (by unfold maxLen; omega) _ _ (keyS emptyB) rfl rfl (keyS_ok emptyB (by decide)) _ [] (plainElem_int Tryd.underlying3 (by decide)) ?_; intro w1 hown1 hgrow1)
  have HB0 := Aside0.mk (((Below.refl w.heap.size w).alloc (Nat.le_refl _) (.map #[] 0)).grown hgrow1 (by simp) (fun j hj => by cases hj; exact Nat.le_refl _))
  have HM0 := Aside0.mk hown1
  clear hown1 hgrow1
  go_loopg [4, 5] s.size (fun q v4 v5 wx => ∃ (i : Nat) (I : Int) (known : List ByteArray) (out : List S63) (D : DataW Unit), v5 = .int .i64 I ∧ Aside0 (I = (i : Int)) ∧ Aside0 (i ≤ s.size) ∧ Aside0 (s.size ≤ i + q) ∧ Aside0 (learnF s q i known out = R) ∧ Aside0 (known.length ≤ i) ∧ Aside0 (out.length = known.length) ∧ Aside0 (MapIs D known) ∧ Aside0 (emptyB ∉ known) ∧ Aside0 (wx.ownsMap Tryd.prog 9 (plainElem Tryd.prog 3) w.heap.size (known.length + 1) D) ∧ Aside0 (Kd.R k63 63 wx w.heap.size (fun k => k ≠ w.heap.size) v4 out) ∧ Aside0 (Below w.heap.size w wx))
  case atStart => exact ⟨0, 0, [], [], _, rfl, ⟨rfl⟩, ⟨by omega⟩, ⟨by omega⟩, HR0, ⟨by simp⟩, ⟨rfl⟩, ⟨MapIs.first⟩, ⟨by simp⟩, HM0, ⟨Kd.R_nil _ _ _ _ _⟩, HB0⟩
  case round =>
    clear HR0 HB0 HM0
    obtain ⟨i, I, known, out, D, rfl, HI, Hi, HQ, HR, HL, HLo, HMI, HE, HM, HO, HB⟩ := hrel
    have hI := HI.out; have hi := Hi.out; have hQ := HQ.out
    by_cases ci : i < s.size
    · have c1 : decide (I < (s.size : Int)) = true := decide_eq_true (by omega)
      obtain ⟨q, rfl⟩ : ∃ q, gk = q + 1 := ⟨gk - 1, by omega⟩
      obtain ⟨L, HLX⟩ : ∃ L, Aside0 (extL s known i s.size 1 = L) := ⟨_, ⟨rfl⟩⟩
      have HCi := Aside0.mk ci
      clear hI hi hQ ci
      go_wp2
      clear c1
      go_loopg [6] s.size (fun q2 v6 wy => ∃ (n : Nat) (N : Int), v6 = .int .i64 N ∧ wy = wr ∧ Aside0 (N = (n : Int)) ∧ Aside0 (1 ≤ n) ∧ Aside0 (i + n ≤ s.size) ∧ Aside0 (extL s known i q2 n = L) ∧ Aside0 (s.size ≤ n + q2))
      case atStart => exact ⟨1, 1, rfl, rfl, ⟨rfl⟩, ⟨by omega⟩, ⟨by have := HCi.out; omega⟩, HLX, ⟨by omega⟩⟩
      case round =>
        obtain ⟨n, N, rfl, rfl, HN, Hn1, Hn, HX, HQ2⟩ := hrel
        have hI := HI.out; have hN := HN.out; have hn1 := Hn1.out; have hn := Hn.out; have hq2 := HQ2.out
        obtain ⟨X, HX1⟩ : ∃ X : Int, Aside0 (X = ((i + n : Nat) : Int)) := ⟨_, ⟨rfl⟩⟩
        have hX := HX1.out
        have hu1 : (IntKind.i64.wrap (I + N)) = X := (i64_w _).trans ((Go.IntWalk.wrap64_in _ (by omega)).trans (by omega))
        have hu2 : wrap64 (I + N) = X := (Go.IntWalk.wrap64_in _ (by omega)).trans (by omega)
        obtain ⟨Y, HY1⟩ : ∃ Y : Int, Aside0 (Y = ((i + (n - 1) : Nat) : Int)) := ⟨_, ⟨rfl⟩⟩
        have hY := HY1.out
        have hu3 : (IntKind.i64.wrap (X - 1)) = Y := (i64_w _).trans ((Go.IntWalk.wrap64_in _ (by omega)).trans (by omega))
        have hu4 : wrap64 (X - 1) = Y := (Go.IntWalk.wrap64_in _ (by omega)).trans (by omega)
        have hsl : ∀ W, (Instr.slice 9 (.string s) (some (.int .i64 I)) (some (.int .i64 X)) none).run Tryd.prog W = .ok (.string (subAt s n i)) W := fun W => by
          rw [hI, hX, run_slice_string W 9 s .i64 .i64 (i : Int) ((i + n : Nat) : Int) Tryd.underlying9 (by omega) (by omega) (by omega)]
          rfl
        have hsl2 : ∀ W, (Instr.slice 9 (.string s) (some (.int .i64 I)) (some (.int .i64 Y)) none).run Tryd.prog W = .ok (.string (subAt s (n - 1) i)) W := fun W => by
          rw [hI, hY, run_slice_string W 9 s .i64 .i64 (i : Int) ((i + (n - 1) : Nat) : Int) Tryd.underlying9 (by omega) (by omega) (by omega)]
          rfl
        have hkey := keyS_ok (subAt s n i) (by unfold maxLen; rw [subAt_size _ _ _ hn]; omega)
        have hkey2 := keyS_ok (subAt s (n - 1) i) (by unfold maxLen; rw [subAt_size _ _ _ (by omega)]; omega)
        have hne := subAt_ne_empty s n i hn hn1
        have HNE := Aside0.mk hne
        have hhas := HMI.out.has (subAt s n i)
        rw [decide_eq_false hne, Bool.false_or] at hhas
        have hat0 := HMI.out.at_ (subAt s (n - 1) i)
        have HAT := Aside0.mk hat0
        have hown := HM.out
        have hlen : known.length + 1 < maxLen := by have := HL.out; unfold maxLen; omega
        have HLEN := Aside0.mk hlen
        have HN2 : Aside0 (1 ≤ n) := Hn1
        clear hat0 hne hlen
        by_cases c : i + n < s.size
        · have c1 : decide (X < (s.size : Int)) = true := decide_eq_true (by omega)
          by_cases hm : memB (subAt s n i) known = true
          · rw [hm] at hhas
            obtain ⟨r, rfl⟩ : ∃ r, gk = r + 1 := ⟨gk - 1, by omega⟩
            have HX' : Aside0 (extL s known i r (n + 1) = L) := ⟨by have := HX.out; rw [extL, if_pos ⟨c, hm⟩] at this; exact this⟩
            have HN3 : Aside0 (wrap64 (N + 1) = ((n + 1 : Nat) : Int)) := ⟨by rw [Go.IntWalk.wrap64_in _ (by omega)]; omega⟩
            have HQ3 : Aside0 (s.size ≤ n + 1 + r) := ⟨by omega⟩
            have Hn3 : Aside0 (i + (n + 1) ≤ s.size) := ⟨by omega⟩
            clear hI hN hn1 hn hq2 hX hY c hm
            go_wp2_with (at_lookup; refine wpList_lookup_own_ok_int _ rfl _ _ 113 rfl 9 3 .i64 law9 Tryd.underlying113 Tryd.underlying3 (zero3 _) w.heap.size (known.length + 1) D rfl hown _ _ rfl hkey ?_; intro c1 hat1 hwc1; rw [hhas]; clear hat1 hwc1)
            go_roundg r
            case measure => omega
            case rel => exact ⟨n + 1, wrap64 (N + 1), (by first | rfl | (simp; done)), rfl, HN3, ⟨by omega⟩, Hn3, HX', HQ3⟩
          · have hm' : memB (subAt s n i) known = false := by simpa using hm
            rw [hm'] at hhas
            have hLn : L = n := extL_stop (fun hh => hm hh.2) HX.out
            clear c
            obtain ⟨c, HC⟩ : ∃ c : Int, Aside0 (c = numK (subAt s (n - 1) i) known 0) := ⟨_, ⟨rfl⟩⟩
            have LM : Aside0 (out.length < 8796093022208) := ⟨by have := HLo.out; have := HL.out; have := Hn.out; omega⟩
            have HO1 := HO
            have HR2 : Aside0 (learnF s q (i + n) (known ++ [subAt s n i]) (out ++ [⟨c, N⟩]) = R) := ⟨by have := HR.out; rw [learnF, if_pos HCi.out, HLX.out, hLn, ← HC.out, ← HN.out] at this; exact this⟩
            have HX3 : Aside0 (wrap64 (I + N) = ((i + n : Nat) : Int)) := ⟨by rw [hu2]; exact HX1.out⟩
            have HQ3 : Aside0 (s.size ≤ i + n + q) := ⟨by have := HQ.out; have := Hn1.out; omega⟩
            have HL3 : Aside0 ((known ++ [subAt s n i]).length ≤ i + n) := ⟨by have := HL.out; have := Hn1.out; rw [List.length_append, List.length_singleton]; omega⟩
            have HLo3 : Aside0 ((out ++ [(⟨c, N⟩ : S63)]).length = (known ++ [subAt s n i]).length) := ⟨by rw [List.length_append, List.length_append, HLo.out]; rfl⟩
            have HE3 : Aside0 (emptyB ∉ known ++ [subAt s n i]) := ⟨fun hm => by rcases List.mem_append.1 hm with h | h; (exact HE.out h); (rw [List.mem_singleton] at h; exact HNE.out h.symm)⟩
            have HMI3 : Aside0 (MapIs (D.put (keyS (subAt s n i)) (.lit (.int .i64 ((known.length + 1 : Nat) : Int)))) (known ++ [subAt s n i])) := ⟨HMI.out.put (fun h => hm (memB_iff.2 h)) HNE.out⟩
            obtain ⟨Z, HZ⟩ : ∃ Z : Int, Aside0 (Z = ((known.length + 1 : Nat) : Int)) := ⟨_, ⟨rfl⟩⟩
            have HZ2 : Aside0 ((out.length : Int) + 1 = Z) := ⟨by rw [HZ.out, HLo.out]; omega⟩
            have HZw : Aside0 ((Lit.int .i64 Z).wf = true) := ⟨WalkArith.wf_i64 (by have := HZ.out; have := HL.out; have := Hn.out; omega)⟩
            clear hI hN hn1 hn hq2 hX hY
            go_wp2_with (first | (at_lookup; refine wpList_lookup_own_int _ rfl _ _ 113 rfl 9 3 .i64 law9 Tryd.underlying113 Tryd.underlying3 (zero3 _) w.heap.size (known.length + 1) D rfl hown _ _ rfl hkey2 ?_; intro c0 hat hwc; obtain rfl : c0 = c := (lit_i64 (HAT.out.symm.trans hat)).trans HC.out.symm; clear hat hwc hkey2) | ((with_reducible refine gate_builtin (b := .append) (xs := #[.tmp 38, .tmp 50]) rfl ?_); at_builtin; refine Kd.R_append k63 (w0 := w) w.heap.size rfl (.tmp 38) (.tmp 50) 23 63 (.agg #[(.int .i64 0), (.int .i64 0)]) 16 rfl Tryd.underlying23 info63 rfl (by decide) (by omega) u4 out (⟨c0, N⟩ : S63) [.int .i64 c0, .int .i64 N] (fun k => k ≠ w.heap.size) (fun _ => False) rfl rfl ?aP (fun _ hk => hk.elim) ?aF ?aO ?aB ?aS ?aL ?_; (case aP => exact k63_mkM _ _ _ (⟨c0, N⟩ : S63)); (case aB => exact (by repeat (first | (with_reducible first | exact HB.out | apply below_alloc | apply pw_below_drewN | apply below_drew1) | exact HB.out))); (case aF => exact (fun k hk => by have := hown.lt; omega)); (case aO => exact (by (with_reducible repeat (first | apply Kd.R_alloc | apply Kd.R_drewN | apply Kd.R_drew)); exact HO.out)); (case aS => exact (below_size (by repeat (first | (with_reducible first | exact HB.out | apply below_alloc | apply pw_below_drewN | apply below_drew1) | exact HB.out)))); (case aL => have := LM.out; omega); intro v5_ w7 ho hb hg hat; have n1_ := Aside0.mk hb; have n2_ := Aside0.mk ho; have n3_ := Aside0.mk (hown.kept hg (Kd.R_away HO.out (fun k hk => hk))); obtain ⟨ad, cp, hv5⟩ := Kd.R_slice1 ho (by simp); rw [List.length_append, List.length_singleton] at hv5; subst hv5; clear HB HO HO1 HM; have HB := n1_; have HO := n2_; have HM := n3_; clear n1_ n2_ n3_ hown; have hown := HM.out; clear ho hb hg hat) | (at_lookup; refine wpList_lookup_own_ok_int _ rfl _ _ 113 rfl 9 3 .i64 law9 Tryd.underlying113 Tryd.underlying3 (zero3 _) w.heap.size (known.length + 1) D rfl hown _ _ rfl hkey ?_; intro c1 hat1 hwc1; rw [hhas]; clear hat1 hwc1) | (at_mapUpdate; refine wpList_mapUpdate_own _ rfl _ _ _ 113 rfl 9 3 law9 Tryd.underlying113 (plainElem Tryd.prog 3) w.heap.size (known.length + 1) D rfl hown HLEN.out _ (.int .i64 Z) _ rfl (congrArg (Value.int .i64) HZ2.out) hkey _ [] (plainElem_int Tryd.underlying3 HZw.out) ?_; intro w8 hown8 hg8; have n1_ := Aside0.mk (HB.out.grown hg8 HB.out.size (fun j hj => by cases hj; exact Nat.le_refl _)); have n2_ := Aside0.mk (R_map HO.out hg8); have n3_ := Aside0.mk hown8; clear HB HO HM hown hown8 hg8; have HB := n1_; have HO := n2_; have HM := n3_; clear n1_ n2_ n3_))
            go_roundg q
            case measure => omega
            case rel => exact ⟨i + n, wrap64 (I + N), known ++ [subAt s n i], out ++ [_], _, (by first | rfl | (simp [hu2]; done)), HX3, Hn, HQ3, HR2, HL3, HLo3, HMI3, HE3, ⟨(HZ.out ▸ HM.out).mono (by simp)⟩, HO, HB⟩
        · have c1 : decide (X < (s.size : Int)) = false := decide_eq_false (by omega)
          have hLn : L = n := extL_stop (fun hh => c hh.1) HX.out
          clear c
          by_cases hm : memB (subAt s n i) known = true
          · rw [hm] at hhas
            obtain ⟨c, HC⟩ : ∃ c : Int, Aside0 (c = numK (subAt s (n - 1) i) known 0) := ⟨_, ⟨rfl⟩⟩
            have LM : Aside0 (out.length < 8796093022208) := ⟨by have := HLo.out; have := HL.out; have := Hn.out; omega⟩
            have HO1 := HO
            have HR2 : Aside0 (learnF s q (i + n) (known ++ [subAt s n i]) (out ++ [⟨c, N⟩]) = R) := ⟨by have := HR.out; rw [learnF, if_pos HCi.out, HLX.out, hLn, ← HC.out, ← HN.out] at this; exact this⟩
            have HX3 : Aside0 (wrap64 (I + N) = ((i + n : Nat) : Int)) := ⟨by rw [hu2]; exact HX1.out⟩
            have HQ3 : Aside0 (s.size ≤ i + n + q) := ⟨by have := HQ.out; have := Hn1.out; omega⟩
            have HL3 : Aside0 ((known ++ [subAt s n i]).length ≤ i + n) := ⟨by have := HL.out; have := Hn1.out; rw [List.length_append, List.length_singleton]; omega⟩
            have HLo3 : Aside0 ((out ++ [(⟨c, N⟩ : S63)]).length = (known ++ [subAt s n i]).length) := ⟨by rw [List.length_append, List.length_append, HLo.out]; rfl⟩
            have HE3 : Aside0 (emptyB ∉ known ++ [subAt s n i]) := ⟨fun hm => by rcases List.mem_append.1 hm with h | h; (exact HE.out h); (rw [List.mem_singleton] at h; exact HNE.out h.symm)⟩
            have HMI3 : Aside0 (MapIs D (known ++ [subAt s n i])) := ⟨HMI.out.dup (memB_iff.1 hm)⟩
            clear hI hN hn1 hn hq2 hX hY
            go_wp2_with (first | (at_lookup; refine wpList_lookup_own_int _ rfl _ _ 113 rfl 9 3 .i64 law9 Tryd.underlying113 Tryd.underlying3 (zero3 _) w.heap.size (known.length + 1) D rfl hown _ _ rfl hkey2 ?_; intro c0 hat hwc; obtain rfl : c0 = c := (lit_i64 (HAT.out.symm.trans hat)).trans HC.out.symm; clear hat hwc hkey2) | ((with_reducible refine gate_builtin (b := .append) (xs := #[.tmp 38, .tmp 50]) rfl ?_); at_builtin; refine Kd.R_append k63 (w0 := w) w.heap.size rfl (.tmp 38) (.tmp 50) 23 63 (.agg #[(.int .i64 0), (.int .i64 0)]) 16 rfl Tryd.underlying23 info63 rfl (by decide) (by omega) u4 out (⟨c0, N⟩ : S63) [.int .i64 c0, .int .i64 N] (fun k => k ≠ w.heap.size) (fun _ => False) rfl rfl ?aP (fun _ hk => hk.elim) ?aF ?aO ?aB ?aS ?aL ?_; (case aP => exact k63_mkM _ _ _ (⟨c0, N⟩ : S63)); (case aB => exact (by repeat (first | (with_reducible first | exact HB.out | apply below_alloc | apply pw_below_drewN | apply below_drew1) | exact HB.out))); (case aF => exact (fun k hk => by have := hown.lt; omega)); (case aO => exact (by (with_reducible repeat (first | apply Kd.R_alloc | apply Kd.R_drewN | apply Kd.R_drew)); exact HO.out)); (case aS => exact (below_size (by repeat (first | (with_reducible first | exact HB.out | apply below_alloc | apply pw_below_drewN | apply below_drew1) | exact HB.out)))); (case aL => have := LM.out; omega); intro v5_ w7 ho hb hg hat; have n1_ := Aside0.mk hb; have n2_ := Aside0.mk ho; have n3_ := Aside0.mk (hown.kept hg (Kd.R_away HO.out (fun k hk => hk))); obtain ⟨ad, cp, hv5⟩ := Kd.R_slice1 ho (by simp); rw [List.length_append, List.length_singleton] at hv5; subst hv5; clear HB HO HO1 HM; have HB := n1_; have HO := n2_; have HM := n3_; clear n1_ n2_ n3_ hown; have hown := HM.out; clear ho hb hg hat) | (at_lookup; refine wpList_lookup_own_ok_int _ rfl _ _ 113 rfl 9 3 .i64 law9 Tryd.underlying113 Tryd.underlying3 (zero3 _) w.heap.size (known.length + 1) D rfl hown _ _ rfl hkey ?_; intro c1 hat1 hwc1; rw [hhas]; clear hat1 hwc1))
            go_roundg q
            case measure => omega
            case rel => exact ⟨i + n, wrap64 (I + N), known ++ [subAt s n i], out ++ [_], D, (by first | rfl | (simp [hu2]; done)), HX3, Hn, HQ3, HR2, HL3, HLo3, HMI3, HE3, ⟨HM.out.mono (by simp)⟩, HO, HB⟩
          · have hm' : memB (subAt s n i) known = false := by simpa using hm
            rw [hm'] at hhas
            obtain ⟨c, HC⟩ : ∃ c : Int, Aside0 (c = numK (subAt s (n - 1) i) known 0) := ⟨_, ⟨rfl⟩⟩
            have LM : Aside0 (out.length < 8796093022208) := ⟨by have := HLo.out; have := HL.out; have := Hn.out; omega⟩
            have HO1 := HO
            have HR2 : Aside0 (learnF s q (i + n) (known ++ [subAt s n i]) (out ++ [⟨c, N⟩]) = R) := ⟨by have := HR.out; rw [learnF, if_pos HCi.out, HLX.out, hLn, ← HC.out, ← HN.out] at this; exact this⟩
            have HX3 : Aside0 (wrap64 (I + N) = ((i + n : Nat) : Int)) := ⟨by rw [hu2]; exact HX1.out⟩
            have HQ3 : Aside0 (s.size ≤ i + n + q) := ⟨by have := HQ.out; have := Hn1.out; omega⟩
            have HL3 : Aside0 ((known ++ [subAt s n i]).length ≤ i + n) := ⟨by have := HL.out; have := Hn1.out; rw [List.length_append, List.length_singleton]; omega⟩
            have HLo3 : Aside0 ((out ++ [(⟨c, N⟩ : S63)]).length = (known ++ [subAt s n i]).length) := ⟨by rw [List.length_append, List.length_append, HLo.out]; rfl⟩
            have HE3 : Aside0 (emptyB ∉ known ++ [subAt s n i]) := ⟨fun hm => by rcases List.mem_append.1 hm with h | h; (exact HE.out h); (rw [List.mem_singleton] at h; exact HNE.out h.symm)⟩
            have HMI3 : Aside0 (MapIs (D.put (keyS (subAt s n i)) (.lit (.int .i64 ((known.length + 1 : Nat) : Int)))) (known ++ [subAt s n i])) := ⟨HMI.out.put (fun h => hm (memB_iff.2 h)) HNE.out⟩
            obtain ⟨Z, HZ⟩ : ∃ Z : Int, Aside0 (Z = ((known.length + 1 : Nat) : Int)) := ⟨_, ⟨rfl⟩⟩
            have HZ2 : Aside0 ((out.length : Int) + 1 = Z) := ⟨by rw [HZ.out, HLo.out]; omega⟩
            have HZw : Aside0 ((Lit.int .i64 Z).wf = true) := ⟨WalkArith.wf_i64 (by have := HZ.out; have := HL.out; have := Hn.out; omega)⟩
            clear hI hN hn1 hn hq2 hX hY
            go_wp2_with (first | (at_lookup; refine wpList_lookup_own_int _ rfl _ _ 113 rfl 9 3 .i64 law9 Tryd.underlying113 Tryd.underlying3 (zero3 _) w.heap.size (known.length + 1) D rfl hown _ _ rfl hkey2 ?_; intro c0 hat hwc; obtain rfl : c0 = c := (lit_i64 (HAT.out.symm.trans hat)).trans HC.out.symm; clear hat hwc hkey2) | ((with_reducible refine gate_builtin (b := .append) (xs := #[.tmp 38, .tmp 50]) rfl ?_); at_builtin; refine Kd.R_append k63 (w0 := w) w.heap.size rfl (.tmp 38) (.tmp 50) 23 63 (.agg #[(.int .i64 0), (.int .i64 0)]) 16 rfl Tryd.underlying23 info63 rfl (by decide) (by omega) u4 out (⟨c0, N⟩ : S63) [.int .i64 c0, .int .i64 N] (fun k => k ≠ w.heap.size) (fun _ => False) rfl rfl ?aP (fun _ hk => hk.elim) ?aF ?aO ?aB ?aS ?aL ?_; (case aP => exact k63_mkM _ _ _ (⟨c0, N⟩ : S63)); (case aB => exact (by repeat (first | (with_reducible first | exact HB.out | apply below_alloc | apply pw_below_drewN | apply below_drew1) | exact HB.out))); (case aF => exact (fun k hk => by have := hown.lt; omega)); (case aO => exact (by (with_reducible repeat (first | apply Kd.R_alloc | apply Kd.R_drewN | apply Kd.R_drew)); exact HO.out)); (case aS => exact (below_size (by repeat (first | (with_reducible first | exact HB.out | apply below_alloc | apply pw_below_drewN | apply below_drew1) | exact HB.out)))); (case aL => have := LM.out; omega); intro v5_ w7 ho hb hg hat; have n1_ := Aside0.mk hb; have n2_ := Aside0.mk ho; have n3_ := Aside0.mk (hown.kept hg (Kd.R_away HO.out (fun k hk => hk))); obtain ⟨ad, cp, hv5⟩ := Kd.R_slice1 ho (by simp); rw [List.length_append, List.length_singleton] at hv5; subst hv5; clear HB HO HO1 HM; have HB := n1_; have HO := n2_; have HM := n3_; clear n1_ n2_ n3_ hown; have hown := HM.out; clear ho hb hg hat) | (at_lookup; refine wpList_lookup_own_ok_int _ rfl _ _ 113 rfl 9 3 .i64 law9 Tryd.underlying113 Tryd.underlying3 (zero3 _) w.heap.size (known.length + 1) D rfl hown _ _ rfl hkey ?_; intro c1 hat1 hwc1; rw [hhas]; clear hat1 hwc1) | (at_mapUpdate; refine wpList_mapUpdate_own _ rfl _ _ _ 113 rfl 9 3 law9 Tryd.underlying113 (plainElem Tryd.prog 3) w.heap.size (known.length + 1) D rfl hown HLEN.out _ (.int .i64 Z) _ rfl (congrArg (Value.int .i64) HZ2.out) hkey _ [] (plainElem_int Tryd.underlying3 HZw.out) ?_; intro w8 hown8 hg8; have n1_ := Aside0.mk (HB.out.grown hg8 HB.out.size (fun j hj => by cases hj; exact Nat.le_refl _)); have n2_ := Aside0.mk (R_map HO.out hg8); have n3_ := Aside0.mk hown8; clear HB HO HM hown hown8 hg8; have HB := n1_; have HO := n2_; have HM := n3_; clear n1_ n2_ n3_))
            go_roundg q
            case measure => omega
            case rel => exact ⟨i + n, wrap64 (I + N), known ++ [subAt s n i], out ++ [_], _, (by first | rfl | (simp [hu2]; done)), HX3, Hn, HQ3, HR2, HL3, HLo3, HMI3, HE3, ⟨(HZ.out ▸ HM.out).mono (by simp)⟩, HO, HB⟩
    · have c1 : decide (I < (s.size : Int)) = false := decide_eq_false (by omega)
      have hh : out = R := by have := HR.out; rw [learnF_stop ci] at this; exact this
      subst hh
      clear hI hi hQ ci
      go_wp2
      go_ret
      exact ⟨_, rfl, Kd.R_mono HO.out (fun _ _ => trivial), HB.out⟩

/-! for the printer -/
def parse_learn.f (a0 : ByteArray) : Option (List S63) := if a0.size ≤ 160 then some (learnF a0 a0.size 0 [] []) else none
theorem parse_learn.calls (a0 : ByteArray) (r : List S63) (w : World) (h : parse_learn.f a0 = some r) :
    Calls Tryd.prog 65 #[.string a0] w fun e w' => ∃ v0_ : Value, e = .returned v0_ ∧ Kd.R k63 63 w' w.heap.size (fun _ => True) v0_ r ∧ Below w.heap.size w w' := by
  unfold parse_learn.f at h
  by_cases hs : a0.size ≤ 160
  · rw [if_pos hs] at h
    obtain rfl := Option.some.inj h
    exact learn_calls a0 hs w
  · rw [if_neg hs] at h
    cases h
end Go.Proofs.YtpeeflkodpnbpaaDoor.Pr
