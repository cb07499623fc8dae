/- RulesStable, walked. -/
import Derived.Test.YtaafeallcaiooaaGreatHGn
import Derived.Test.YtaafeallcaiooaaGreatHOz
namespace Go.Proofs.YtaafeallcaiooaaGreat.Pr
open Go.RowKit Go.Maps Go.Proofs.YtaafeallcaiooaaGreatW.PrintWords Go.Proofs.YtaafeallcaiooaaGreatW.PrintLast Go.Proofs.YtaafeallcaiooaaGreatW.PrintMore
set_option linter.unusedVariables false
set_option linter.unusedSimpArgs false
def cells63 (x0 x1 x2 x3 x4 : ByteArray) : Obj := .cells #[.string x0, .string x1, .string x2, .string x3, .string x4] 63 (0, 0)
theorem set63_0 {w : World} {g : Nat} {x0 x1 x2 x3 x4 : ByteArray} (h : w.heap[g]? = some (cells63 x0 x1 x2 x3 x4)) (v : ByteArray) : (w.setCell ⟨g, 0, none⟩ (.string v)).heap[g]? = some (cells63 v x1 x2 x3 x4) := by
  unfold cells63 at *
  simp [World.setCell, Array.getElem?_modify, h]
theorem set63_1 {w : World} {g : Nat} {x0 x1 x2 x3 x4 : ByteArray} (h : w.heap[g]? = some (cells63 x0 x1 x2 x3 x4)) (v : ByteArray) : (w.setCell ⟨g, 1, none⟩ (.string v)).heap[g]? = some (cells63 x0 v x2 x3 x4) := by
  unfold cells63 at *
  simp [World.setCell, Array.getElem?_modify, h]
theorem set63_2 {w : World} {g : Nat} {x0 x1 x2 x3 x4 : ByteArray} (h : w.heap[g]? = some (cells63 x0 x1 x2 x3 x4)) (v : ByteArray) : (w.setCell ⟨g, 2, none⟩ (.string v)).heap[g]? = some (cells63 x0 x1 v x3 x4) := by
  unfold cells63 at *
  simp [World.setCell, Array.getElem?_modify, h]
theorem set63_3 {w : World} {g : Nat} {x0 x1 x2 x3 x4 : ByteArray} (h : w.heap[g]? = some (cells63 x0 x1 x2 x3 x4)) (v : ByteArray) : (w.setCell ⟨g, 3, none⟩ (.string v)).heap[g]? = some (cells63 x0 x1 x2 v x4) := by
  unfold cells63 at *
  simp [World.setCell, Array.getElem?_modify, h]
theorem set63_4 {w : World} {g : Nat} {x0 x1 x2 x3 x4 : ByteArray} (h : w.heap[g]? = some (cells63 x0 x1 x2 x3 x4)) (v : ByteArray) : (w.setCell ⟨g, 4, none⟩ (.string v)).heap[g]? = some (cells63 x0 x1 x2 x3 v) := by
  unfold cells63 at *
  simp [World.setCell, Array.getElem?_modify, h]
theorem drawn_below {w w' : World} (h : Drawn0 w w') : Below w.heap.size w w' := by
  obtain ⟨nd, rfl⟩ := h
  exact pw_below_drewN (Below.refl _ _) nd
theorem term_ex (s : ByteArray) (hs : s.size ≤ 9223372036854775807) (room : Int) (h1 : 1 ≤ room) (h2 : room ≤ 1000) : ∃ t : Tm, t.good ∧ t.size ≤ room ∧ ∀ w, Calls Tryz.prog 33 #[.string s, .int .i64 room] w fun e w' => e = .returned (.string t.text) ∧ Below w.heap.size w w' := by
  obtain ⟨t, hE, hg, hsz⟩ := termE s hs room h1 h2
  obtain ⟨k, hk⟩ := hE.ex
  exact ⟨t, hg, hsz, fun w => (numnahlaw08_term.calls k s room t.text w hk).mono fun e w' h => ⟨h.1, drawn_below h.2⟩⟩
theorem order_ex (a0 : Int) : ∃ p, IsPrec p ∧ ∀ w, Calls Tryz.prog 42 #[.int .i64 a0] w fun e w' => e = .returned (.string p) ∧ Below w.heap.size w w' := by
  obtain ⟨p, hE, hP⟩ := orderE a0
  obtain ⟨k, hk⟩ := hE.ex
  exact ⟨p, hP, fun w => (numnahlaw08_order.calls k a0 p w hk).mono fun e w' h => ⟨h.1, drawn_below h.2⟩⟩
theorem awake_calls (w : World) : Calls Tryz.prog 24 #[] w fun e w' => e = .returned (.bool true) ∧ Below w.heap.size w w' := numnahlaw08_awake.calls 20 true w awake_true
theorem greater_text {p : ByteArray} (hP : IsPrec p) {a b : Tm} (ha : a.good) (hb : b.good) (sa : a.size ≤ 60) (sb : b.size ≤ 60) (w : World) : Calls Tryz.prog 43 #[.string p, .string a.text, .string b.text] w fun e w' => e = .returned (.tuple #[.bool (gt (rankP p) a b), .int .i64 0]) ∧ Below w.heap.size w w' :=
  rules_Greater.calls p a.text b.text _ 0 w (greater_eval hP.ok (by rw [hP.size]; omega) ha hb sa sb)
theorem text2d (t u : Tm) : (⟨#[100, 40, 101, 40]⟩ : ByteArray) ++ t.text ++ ⟨#[44]⟩ ++ u.text ++ ⟨#[41, 41]⟩ = (Tm.app 100 [.app 101 [t, u]]).text := by
  show B8 [100, 40, 101, 40] ++ B8 t.tx ++ B8 [44] ++ B8 u.tx ++ B8 [41, 41] = B8 _
  rw [B8_app', B8_app', B8_app', B8_app']
  congr 1
  rw [tx_app]
  dsimp only
  rw [tx_app]
  have e1 : ch 100 = 100 := rfl
  have e2 : ch 101 = 101 := rfl
  simp [e1, e2]
set_option maxRecDepth 100000 in
set_option maxHeartbeats 8000000 in
theorem stable_calls (a0 : Int) (l1 : List ByteArray) (A1 : Option Addr) (c1 : Nat) (w : World) (hr : Kd.C Kd.string w A1 l1.length l1) (hl : ∀ x, x ∈ l1 → x.size ≤ 9223372036854775807) :
    Calls Tryz.prog 10 #[.int .i64 a0, .slice A1 l1.length c1] w fun e w' => e = .returned (.bool true) ∧ Below w.heap.size w w' := by
  obtain ⟨p, hP, hO⟩ := order_ex a0
  have hX0 : ∀ i : Nat, ∃ t : Tm, (t.good ∧ t.size ≤ 5) ∧ (∀ h : i < l1.length, ∀ w, Calls Tryz.prog 33 #[.string l1[i], .int .i64 5] w fun e w' => e = .returned (.string t.text) ∧ Below w.heap.size w w') ∧ (¬ i < l1.length → t = aT) := fun i => by
    by_cases h : i < l1.length
    · obtain ⟨t, h1, h2, h3⟩ := term_ex l1[i] (hl _ (List.getElem_mem h)) 5 (by omega) (by omega)
      exact ⟨t, ⟨h1, h2⟩, fun _ => h3, fun h4 => absurd h h4⟩
    · exact ⟨aT, ⟨aT_good, by rw [aT_size]; omega⟩, fun h4 => absurd h4 h, fun _ => rfl⟩
  obtain ⟨X, hX⟩ := Classical.axiomOfChoice hX0
  have g := fun i => (hX i).1.1
  have sz := fun i => (hX i).1.2
  have zz : ∀ i, (X i).text.size ≤ 4000 := fun i => text_le (by have := sz i; omega)
  obtain ⟨gtv, hgtv⟩ : ∃ b, b = gt (rankP p) (X 0) (X 1) := ⟨_, rfl⟩
  have hG1 := greater_text hP (g 0) (g 1) (by have := sz 0; omega) (by have := sz 1; omega)
  rw [← hgtv] at hG1
  -- what the second part wants
  have hA1 := fun w => numnahref08_Apply.calls _ _ _ _ _ w (apply_eval (g 0) (by have := sz 0; omega) (show (X 2).size ≤ 1000 by have := sz 2; omega) (show (X 3).size ≤ 1000 by have := sz 3; omega) (show (X 4).size ≤ 1000 by have := sz 4; omega))
  have hA2 := fun w => numnahref08_Apply.calls _ _ _ _ _ w (apply_eval (g 1) (by have := sz 1; omega) (show (X 2).size ≤ 1000 by have := sz 2; omega) (show (X 3).size ≤ 1000 by have := sz 3; omega) (show (X 4).size ≤ 1000 by have := sz 4; omega))
  have hσ := sub3_good (g 2) (g 3) (g 4)
  have hσl : SubLe 5 (sub3 (X 2) (X 3) (X 4)) := sub3_le (sz 2) (sz 3) (sz 4)
  have hsub : ∀ i, (X i).size ≤ 5 → ((X i).sub (sub3 (X 2) (X 3) (X 4))).size ≤ 25 := fun i h => by
    have h1 := sub_le 5 (by omega) _ hσl (X i)
    omega
  have gs0 := sub_good _ hσ _ (g 0)
  have gs1 := sub_good _ hσ _ (g 1)
  have hG2 := greater_text hP gs0 gs1 (by have := hsub 0 (sz 0); omega) (by have := hsub 1 (sz 1); omega)
  have k0 := app2_good (c := 102) (.inr rfl) (g 2) (g 0)
  have k1 := app2_good (c := 102) (.inr rfl) (g 2) (g 1)
  have hG3 := greater_text hP k0 k1 (by rw [size2]; have := sz 0; have := sz 2; omega) (by rw [size2]; have := sz 1; have := sz 2; omega)
  have m0 := app1_good (c := 100) (.inr rfl) (app2_good (c := 101) (.inl rfl) (g 0) (g 3))
  have m1 := app1_good (c := 100) (.inr rfl) (app2_good (c := 101) (.inl rfl) (g 1) (g 3))
  have hG4 := greater_text hP m0 m1 (by rw [size1, size2]; have := sz 0; have := sz 3; omega) (by rw [size1, size2]; have := sz 1; have := sz 3; omega)
  rw [← text2d, ← text2d] at hG4
  have e1 := text2' 102 (X 2) (X 0)
  have e2 := text2' 102 (X 2) (X 1)
  rw [show (((102 : UInt8).toNat : Nat) : Int) = 102 from rfl] at e1 e2
  rw [← e1, ← e2] at hG3
  have hb : gtv = true → gt (rankP p) ((X 0).sub (sub3 (X 2) (X 3) (X 4))) ((X 1).sub (sub3 (X 2) (X 3) (X 4))) = true := fun h => gt_stab hσ _ _ _ (Int.self_le_toNat _) (g 0) (g 1) (hgtv.symm.trans h)
  have hc : gtv = true → gt (rankP p) (.app 102 [X 2, X 0]) (.app 102 [X 2, X 1]) = true := fun h => gt_ctx (s := 102) (pre := [X 2]) (post := []) k0 k1 (hgtv.symm.trans h)
  have hd : gtv = true → gt (rankP p) (.app 100 [.app 101 [X 0, X 3]]) (.app 100 [.app 101 [X 1, X 3]]) = true := fun h => gt_ctx (s := 100) (pre := []) (post := []) m0 m1 (gt_ctx (s := 101) (pre := []) (post := [X 3]) (app2_good (.inl rfl) (g 0) (g 3)) (app2_good (.inl rfl) (g 1) (g 3)) (hgtv.symm.trans h))
  have HL : Aside0 (∀ i : Nat, (∀ h : i < l1.length, ∀ w, Calls Tryz.prog 33 #[.string l1[i], .int .i64 5] w fun e w' => e = .returned (.string (X i).text) ∧ Below w.heap.size w w') ∧ (¬ i < l1.length → (X i).text = ⟨#[97]⟩)) := ⟨fun i => ⟨(hX i).2.1, fun h => by rw [(hX i).2.2 h]; rfl⟩⟩
  have HR := Aside0.mk hr
  have HO := Aside0.mk hO
  have HG1 := Aside0.mk hG1
  have HA1 := Aside0.mk hA1
  have HA2 := Aside0.mk hA2
  have z0 := zz 0
  have z1 := zz 1
  have z2 := zz 2
  have z3 := zz 3
  have z4 := zz 4
  have HB := Aside0.mk (And.intro hb (And.intro hc hd))
  have HG2 := Aside0.mk hG2
  have HG3 := Aside0.mk hG3
  have HG4 := Aside0.mk hG4
  clear hr hl hP hO hX0 hX g sz zz hG1 hA1 hA2 hσ hσl hsub gs0 gs1 hG2 k0 k1 hG3 m0 m1 hG4 e1 e2 hb hc hd hgtv
  generalize gt (rankP p) ((X 0).sub (sub3 (X 2) (X 3) (X 4))) ((X 1).sub (sub3 (X 2) (X 3) (X 4))) = q2 at *
  generalize gt (rankP p) (.app 102 [X 2, X 0]) (.app 102 [X 2, X 1]) = q3 at *
  generalize gt (rankP p) (.app 100 [.app 101 [X 0, X 3]]) (.app 100 [.app 101 [X 1, X 3]]) = q4 at *
  generalize ((X 0).sub (sub3 (X 2) (X 3) (X 4))).text = u0 at *
  generalize ((X 1).sub (sub3 (X 2) (X 3) (X 4))).text = u1 at *
  have HL0 := Aside0.mk (HL.out 0)
  have HL1 := Aside0.mk (HL.out 1)
  have HL2 := Aside0.mk (HL.out 2)
  have HL3 := Aside0.mk (HL.out 3)
  have HL4 := Aside0.mk (HL.out 4)
  clear HL
  generalize (X 0).text = x0 at *
  generalize (X 1).text = x1 at *
  generalize (X 2).text = x2 at *
  generalize (X 3).text = x3 at *
  generalize (X 4).text = x4 at *
  clear X
  go_enter Tryz.func10, Tryz.ntmps10
  go_wp2_with (go_at_call 42; refine (HO.out _).mono ?_; rintro e w1 ⟨rfl, hb⟩; have H1 := Aside0.mk hb; clear hb)
  obtain ⟨gb, hgb⟩ : ∃ gb, gb = w1.heap.size := ⟨_, rfl⟩
  have HS0 : Aside0 (Below w.heap.size w (w1.alloc (cells63 ⟨#[]⟩ ⟨#[]⟩ ⟨#[]⟩ ⟨#[]⟩ ⟨#[]⟩)) ∧ (w1.alloc (cells63 ⟨#[]⟩ ⟨#[]⟩ ⟨#[]⟩ ⟨#[]⟩ ⟨#[]⟩)).heap[gb]? = some (cells63 ⟨#[]⟩ ⟨#[]⟩ ⟨#[]⟩ ⟨#[]⟩ ⟨#[]⟩) ∧ w.heap.size ≤ gb) := ⟨below_on H1.out (below_alloc (Below.refl _ _) _), by rw [hgb]; exact blk_new w1 _, by rw [hgb]; exact H1.out.size⟩
  rw [← hgb]
  clear H1 hgb HO
  go_loopw [7] (fun v7 wr => ∃ (i : Int) (y0 y1 y2 y3 y4 : ByteArray), v7 = .int .i64 i ∧ Aside0 ((i = 0 ∧ ⟨#[]⟩ = y0 ∧ ⟨#[]⟩ = y1 ∧ ⟨#[]⟩ = y2 ∧ ⟨#[]⟩ = y3 ∧ ⟨#[]⟩ = y4) ∨ (i = 1 ∧ x0 = y0 ∧ ⟨#[]⟩ = y1 ∧ ⟨#[]⟩ = y2 ∧ ⟨#[]⟩ = y3 ∧ ⟨#[]⟩ = y4) ∨ (i = 2 ∧ x0 = y0 ∧ x1 = y1 ∧ ⟨#[]⟩ = y2 ∧ ⟨#[]⟩ = y3 ∧ ⟨#[]⟩ = y4) ∨ (i = 3 ∧ x0 = y0 ∧ x1 = y1 ∧ x2 = y2 ∧ ⟨#[]⟩ = y3 ∧ ⟨#[]⟩ = y4) ∨ (i = 4 ∧ x0 = y0 ∧ x1 = y1 ∧ x2 = y2 ∧ x3 = y3 ∧ ⟨#[]⟩ = y4) ∨ (i = 5 ∧ x0 = y0 ∧ x1 = y1 ∧ x2 = y2 ∧ x3 = y3 ∧ x4 = y4)) ∧ Aside0 (Below w.heap.size w wr ∧ wr.heap[gb]? = some (cells63 y0 y1 y2 y3 y4) ∧ w.heap.size ≤ gb)) (fun v7 _ => 5 - (intOf v7).toNat)
  case atStart => exact ⟨0, ⟨#[]⟩, ⟨#[]⟩, ⟨#[]⟩, ⟨#[]⟩, ⟨#[]⟩, rfl, ⟨.inl ⟨rfl, rfl, rfl, rfl, rfl, rfl⟩⟩, HS0⟩
  case round =>
    obtain ⟨i, y0, y1, y2, y3, y4, rfl, HI, HS⟩ := hrel
    clear HS0
    rcases HI.out with ⟨rfl, rfl, rfl, rfl, rfl, rfl⟩ | ⟨rfl, rfl, rfl, rfl, rfl, rfl⟩ | ⟨rfl, rfl, rfl, rfl, rfl, rfl⟩ | ⟨rfl, rfl, rfl, rfl, rfl, rfl⟩ | ⟨rfl, rfl, rfl, rfl, rfl, rfl⟩ | ⟨rfl, rfl, rfl, rfl, rfl, rfl⟩ <;> clear HI
    · have hz := blk_frozen HS.out.2.1 0
      have hd : wr.cell? ⟨gb, 0, none⟩ = some (.string (⟨#[]⟩ : ByteArray)) := blk_cell HS.out.2.1 0
      have hset := set63_0 HS.out.2.1 ⟨#[97]⟩
      have hbs : Below w.heap.size w (wr.setCell ⟨gb, 0, none⟩ (.string ⟨#[97]⟩)) := below_set HS.out.1 HS.out.2.2
      by_cases hi : 0 < l1.length
      · have hi2 : (0 : Int) < (l1.length : Int) := by omega
        have hib : decide ((0 : Int) < (l1.length : Int)) = true := decide_eq_true hi2
        obtain ⟨ad, rfl, hce⟩ := Kd.at_string (Kd.C_below HR.out hbs) 0 (by omega) hi2
        have hce2 : rdOf ByteArray.empty l1 0 = l1[0] := by
          show l1.getD ((0 : Int)).toNat _ = _
          rw [List.getD_eq_getElem?_getD]
          exact (by rw [show ((0 : Int)).toNat = 0 from rfl, List.getElem?_eq_getElem hi]; rfl)
        rw [hce2] at hce
        rw [show ((0 : Int)).toNat = 0 from rfl] at hce
        (try rw [Addr.add_zero'] at hce)
        have HC := Aside0.mk (HL0.out.1 hi (wr.setCell ⟨gb, 0, none⟩ (.string ⟨#[97]⟩)))
        have HT := Aside0.mk (And.intro hset hbs)
        clear hset hbs hce2
        generalize l1[0] = s_ at *
        go_wp2_with (go_at_call 33; refine HC.out.mono ?_; rintro e w9 ⟨rfl, hb9⟩; have H9 := Aside0.mk (And.intro (below_on HT.out.2 hb9) (blk_below HT.out.1 hb9)); have hz9 := blk_frozen H9.out.2 0; have hd9 : w9.cell? ⟨gb, 0, none⟩ = some (.string ⟨#[97]⟩) := blk_cell H9.out.2 0; clear hb9)
        refine ⟨⟨1, x0, (⟨#[]⟩ : ByteArray), (⟨#[]⟩ : ByteArray), (⟨#[]⟩ : ByteArray), (⟨#[]⟩ : ByteArray), rfl, ⟨.inr (.inl ⟨rfl, rfl, rfl, rfl, rfl, rfl⟩)⟩, ⟨below_set H9.out.1 HS.out.2.2, set63_0 H9.out.2 _, HS.out.2.2⟩⟩, by simp only [intOf]; omega⟩
      · have hi2 : ¬ (0 : Int) < (l1.length : Int) := by omega
        have hib : decide ((0 : Int) < (l1.length : Int)) = false := decide_eq_false hi2
        have hx := HL0.out.2 hi
        have HT := Aside0.mk (And.intro hset (And.intro hbs hx))
        clear hset hbs hx
        go_wp2
        refine ⟨⟨1, x0, (⟨#[]⟩ : ByteArray), (⟨#[]⟩ : ByteArray), (⟨#[]⟩ : ByteArray), (⟨#[]⟩ : ByteArray), rfl, ⟨.inr (.inl ⟨rfl, rfl, rfl, rfl, rfl, rfl⟩)⟩, ⟨HT.out.2.1, by rw [HT.out.2.2]; exact HT.out.1, HS.out.2.2⟩⟩, by simp only [intOf]; omega⟩
    · have hz := blk_frozen HS.out.2.1 1
      have hd : wr.cell? ⟨gb, 1, none⟩ = some (.string (⟨#[]⟩ : ByteArray)) := blk_cell HS.out.2.1 1
      have hset := set63_1 HS.out.2.1 ⟨#[97]⟩
      have hbs : Below w.heap.size w (wr.setCell ⟨gb, 1, none⟩ (.string ⟨#[97]⟩)) := below_set HS.out.1 HS.out.2.2
      by_cases hi : 1 < l1.length
      · have hi2 : (1 : Int) < (l1.length : Int) := by omega
        have hib : decide ((1 : Int) < (l1.length : Int)) = true := decide_eq_true hi2
        obtain ⟨ad, rfl, hce⟩ := Kd.at_string (Kd.C_below HR.out hbs) 1 (by omega) hi2
        have hce2 : rdOf ByteArray.empty l1 1 = l1[1] := by
          show l1.getD ((1 : Int)).toNat _ = _
          rw [List.getD_eq_getElem?_getD]
          exact (by rw [show ((1 : Int)).toNat = 1 from rfl, List.getElem?_eq_getElem hi]; rfl)
        rw [hce2] at hce
        rw [show ((1 : Int)).toNat = 1 from rfl] at hce
        (try rw [Addr.add_zero'] at hce)
        have hce3 := hce
        rw [show ad.add 1 = ⟨ad.block, ad.off + 1, none⟩ from by unfold Addr.add; simp] at hce3
        have HC := Aside0.mk (HL1.out.1 hi (wr.setCell ⟨gb, 1, none⟩ (.string ⟨#[97]⟩)))
        have HT := Aside0.mk (And.intro hset hbs)
        clear hset hbs hce2
        generalize l1[1] = s_ at *
        go_wp2_with (go_at_call 33; refine HC.out.mono ?_; rintro e w9 ⟨rfl, hb9⟩; have H9 := Aside0.mk (And.intro (below_on HT.out.2 hb9) (blk_below HT.out.1 hb9)); have hz9 := blk_frozen H9.out.2 1; have hd9 : w9.cell? ⟨gb, 1, none⟩ = some (.string ⟨#[97]⟩) := blk_cell H9.out.2 1; clear hb9)
        refine ⟨⟨2, x0, x1, (⟨#[]⟩ : ByteArray), (⟨#[]⟩ : ByteArray), (⟨#[]⟩ : ByteArray), rfl, ⟨.inr (.inr (.inl ⟨rfl, rfl, rfl, rfl, rfl, rfl⟩))⟩, ⟨below_set H9.out.1 HS.out.2.2, set63_1 H9.out.2 _, HS.out.2.2⟩⟩, by simp only [intOf]; omega⟩
      · have hi2 : ¬ (1 : Int) < (l1.length : Int) := by omega
        have hib : decide ((1 : Int) < (l1.length : Int)) = false := decide_eq_false hi2
        have hx := HL1.out.2 hi
        have HT := Aside0.mk (And.intro hset (And.intro hbs hx))
        clear hset hbs hx
        go_wp2
        refine ⟨⟨2, x0, x1, (⟨#[]⟩ : ByteArray), (⟨#[]⟩ : ByteArray), (⟨#[]⟩ : ByteArray), rfl, ⟨.inr (.inr (.inl ⟨rfl, rfl, rfl, rfl, rfl, rfl⟩))⟩, ⟨HT.out.2.1, by rw [HT.out.2.2]; exact HT.out.1, HS.out.2.2⟩⟩, by simp only [intOf]; omega⟩
    · have hz := blk_frozen HS.out.2.1 2
      have hd : wr.cell? ⟨gb, 2, none⟩ = some (.string (⟨#[]⟩ : ByteArray)) := blk_cell HS.out.2.1 2
      have hset := set63_2 HS.out.2.1 ⟨#[97]⟩
      have hbs : Below w.heap.size w (wr.setCell ⟨gb, 2, none⟩ (.string ⟨#[97]⟩)) := below_set HS.out.1 HS.out.2.2
      by_cases hi : 2 < l1.length
      · have hi2 : (2 : Int) < (l1.length : Int) := by omega
        have hib : decide ((2 : Int) < (l1.length : Int)) = true := decide_eq_true hi2
        obtain ⟨ad, rfl, hce⟩ := Kd.at_string (Kd.C_below HR.out hbs) 2 (by omega) hi2
        have hce2 : rdOf ByteArray.empty l1 2 = l1[2] := by
          show l1.getD ((2 : Int)).toNat _ = _
          rw [List.getD_eq_getElem?_getD]
          exact (by rw [show ((2 : Int)).toNat = 2 from rfl, List.getElem?_eq_getElem hi]; rfl)
        rw [hce2] at hce
        rw [show ((2 : Int)).toNat = 2 from rfl] at hce
        (try rw [Addr.add_zero'] at hce)
        have hce3 := hce
        rw [show ad.add 2 = ⟨ad.block, ad.off + 2, none⟩ from by unfold Addr.add; simp] at hce3
        have HC := Aside0.mk (HL2.out.1 hi (wr.setCell ⟨gb, 2, none⟩ (.string ⟨#[97]⟩)))
        have HT := Aside0.mk (And.intro hset hbs)
        clear hset hbs hce2
        generalize l1[2] = s_ at *
        go_wp2_with (go_at_call 33; refine HC.out.mono ?_; rintro e w9 ⟨rfl, hb9⟩; have H9 := Aside0.mk (And.intro (below_on HT.out.2 hb9) (blk_below HT.out.1 hb9)); have hz9 := blk_frozen H9.out.2 2; have hd9 : w9.cell? ⟨gb, 2, none⟩ = some (.string ⟨#[97]⟩) := blk_cell H9.out.2 2; clear hb9)
        refine ⟨⟨3, x0, x1, x2, (⟨#[]⟩ : ByteArray), (⟨#[]⟩ : ByteArray), rfl, ⟨.inr (.inr (.inr (.inl ⟨rfl, rfl, rfl, rfl, rfl, rfl⟩)))⟩, ⟨below_set H9.out.1 HS.out.2.2, set63_2 H9.out.2 _, HS.out.2.2⟩⟩, by simp only [intOf]; omega⟩
      · have hi2 : ¬ (2 : Int) < (l1.length : Int) := by omega
        have hib : decide ((2 : Int) < (l1.length : Int)) = false := decide_eq_false hi2
        have hx := HL2.out.2 hi
        have HT := Aside0.mk (And.intro hset (And.intro hbs hx))
        clear hset hbs hx
        go_wp2
        refine ⟨⟨3, x0, x1, x2, (⟨#[]⟩ : ByteArray), (⟨#[]⟩ : ByteArray), rfl, ⟨.inr (.inr (.inr (.inl ⟨rfl, rfl, rfl, rfl, rfl, rfl⟩)))⟩, ⟨HT.out.2.1, by rw [HT.out.2.2]; exact HT.out.1, HS.out.2.2⟩⟩, by simp only [intOf]; omega⟩
    · have hz := blk_frozen HS.out.2.1 3
      have hd : wr.cell? ⟨gb, 3, none⟩ = some (.string (⟨#[]⟩ : ByteArray)) := blk_cell HS.out.2.1 3
      have hset := set63_3 HS.out.2.1 ⟨#[97]⟩
      have hbs : Below w.heap.size w (wr.setCell ⟨gb, 3, none⟩ (.string ⟨#[97]⟩)) := below_set HS.out.1 HS.out.2.2
      by_cases hi : 3 < l1.length
      · have hi2 : (3 : Int) < (l1.length : Int) := by omega
        have hib : decide ((3 : Int) < (l1.length : Int)) = true := decide_eq_true hi2
        obtain ⟨ad, rfl, hce⟩ := Kd.at_string (Kd.C_below HR.out hbs) 3 (by omega) hi2
        have hce2 : rdOf ByteArray.empty l1 3 = l1[3] := by
          show l1.getD ((3 : Int)).toNat _ = _
          rw [List.getD_eq_getElem?_getD]
          exact (by rw [show ((3 : Int)).toNat = 3 from rfl, List.getElem?_eq_getElem hi]; rfl)
        rw [hce2] at hce
        rw [show ((3 : Int)).toNat = 3 from rfl] at hce
        (try rw [Addr.add_zero'] at hce)
        have hce3 := hce
        rw [show ad.add 3 = ⟨ad.block, ad.off + 3, none⟩ from by unfold Addr.add; simp] at hce3
        have HC := Aside0.mk (HL3.out.1 hi (wr.setCell ⟨gb, 3, none⟩ (.string ⟨#[97]⟩)))
        have HT := Aside0.mk (And.intro hset hbs)
        clear hset hbs hce2
        generalize l1[3] = s_ at *
        go_wp2_with (go_at_call 33; refine HC.out.mono ?_; rintro e w9 ⟨rfl, hb9⟩; have H9 := Aside0.mk (And.intro (below_on HT.out.2 hb9) (blk_below HT.out.1 hb9)); have hz9 := blk_frozen H9.out.2 3; have hd9 : w9.cell? ⟨gb, 3, none⟩ = some (.string ⟨#[97]⟩) := blk_cell H9.out.2 3; clear hb9)
        refine ⟨⟨4, x0, x1, x2, x3, (⟨#[]⟩ : ByteArray), rfl, ⟨.inr (.inr (.inr (.inr (.inl ⟨rfl, rfl, rfl, rfl, rfl, rfl⟩))))⟩, ⟨below_set H9.out.1 HS.out.2.2, set63_3 H9.out.2 _, HS.out.2.2⟩⟩, by simp only [intOf]; omega⟩
      · have hi2 : ¬ (3 : Int) < (l1.length : Int) := by omega
        have hib : decide ((3 : Int) < (l1.length : Int)) = false := decide_eq_false hi2
        have hx := HL3.out.2 hi
        have HT := Aside0.mk (And.intro hset (And.intro hbs hx))
        clear hset hbs hx
        go_wp2
        refine ⟨⟨4, x0, x1, x2, x3, (⟨#[]⟩ : ByteArray), rfl, ⟨.inr (.inr (.inr (.inr (.inl ⟨rfl, rfl, rfl, rfl, rfl, rfl⟩))))⟩, ⟨HT.out.2.1, by rw [HT.out.2.2]; exact HT.out.1, HS.out.2.2⟩⟩, by simp only [intOf]; omega⟩
    · have hz := blk_frozen HS.out.2.1 4
      have hd : wr.cell? ⟨gb, 4, none⟩ = some (.string (⟨#[]⟩ : ByteArray)) := blk_cell HS.out.2.1 4
      have hset := set63_4 HS.out.2.1 ⟨#[97]⟩
      have hbs : Below w.heap.size w (wr.setCell ⟨gb, 4, none⟩ (.string ⟨#[97]⟩)) := below_set HS.out.1 HS.out.2.2
      by_cases hi : 4 < l1.length
      · have hi2 : (4 : Int) < (l1.length : Int) := by omega
        have hib : decide ((4 : Int) < (l1.length : Int)) = true := decide_eq_true hi2
        obtain ⟨ad, rfl, hce⟩ := Kd.at_string (Kd.C_below HR.out hbs) 4 (by omega) hi2
        have hce2 : rdOf ByteArray.empty l1 4 = l1[4] := by
          show l1.getD ((4 : Int)).toNat _ = _
          rw [List.getD_eq_getElem?_getD]
          exact (by rw [show ((4 : Int)).toNat = 4 from rfl, List.getElem?_eq_getElem hi]; rfl)
        rw [hce2] at hce
        rw [show ((4 : Int)).toNat = 4 from rfl] at hce
        (try rw [Addr.add_zero'] at hce)
        have hce3 := hce
        rw [show ad.add 4 = ⟨ad.block, ad.off + 4, none⟩ from by unfold Addr.add; simp] at hce3
        have HC := Aside0.mk (HL4.out.1 hi (wr.setCell ⟨gb, 4, none⟩ (.string ⟨#[97]⟩)))
        have HT := Aside0.mk (And.intro hset hbs)
        clear hset hbs hce2
        generalize l1[4] = s_ at *
        go_wp2_with (go_at_call 33; refine HC.out.mono ?_; rintro e w9 ⟨rfl, hb9⟩; have H9 := Aside0.mk (And.intro (below_on HT.out.2 hb9) (blk_below HT.out.1 hb9)); have hz9 := blk_frozen H9.out.2 4; have hd9 : w9.cell? ⟨gb, 4, none⟩ = some (.string ⟨#[97]⟩) := blk_cell H9.out.2 4; clear hb9)
        refine ⟨⟨5, x0, x1, x2, x3, x4, rfl, ⟨.inr (.inr (.inr (.inr (.inr ⟨rfl, rfl, rfl, rfl, rfl, rfl⟩))))⟩, ⟨below_set H9.out.1 HS.out.2.2, set63_4 H9.out.2 _, HS.out.2.2⟩⟩, by simp only [intOf]; omega⟩
      · have hi2 : ¬ (4 : Int) < (l1.length : Int) := by omega
        have hib : decide ((4 : Int) < (l1.length : Int)) = false := decide_eq_false hi2
        have hx := HL4.out.2 hi
        have HT := Aside0.mk (And.intro hset (And.intro hbs hx))
        clear hset hbs hx
        go_wp2
        refine ⟨⟨5, x0, x1, x2, x3, x4, rfl, ⟨.inr (.inr (.inr (.inr (.inr ⟨rfl, rfl, rfl, rfl, rfl, rfl⟩))))⟩, ⟨HT.out.2.1, by rw [HT.out.2.2]; exact HT.out.1, HS.out.2.2⟩⟩, by simp only [intOf]; omega⟩
    · go_wp2
      have HD := Aside0.mk (And.intro (pw_below_drewN HS.out.1 1) (And.intro (blk_drew HS.out.2.1) HS.out.2.2))
      have hy0 : wr.drew.cell? ⟨gb, 0, none⟩ = some (.string x0) := blk_cell HD.out.2.1 0
      have hy1 : wr.drew.cell? ⟨gb, 1, none⟩ = some (.string x1) := blk_cell HD.out.2.1 1
      refine start_ (n := 6) (S := fun w' => w'.cell? ⟨gb, 0, none⟩ = some (.string x0) ∧ w'.cell? ⟨gb, 1, none⟩ = some (.string x1)) (ds := []) #[false, false, false, false, false, false] (by kernel_rfl) rfl rfl ⟨hy0, hy1⟩ (fun hHeld => ?_)
      refine pure_ (i := 0) (N := some 38) (v := ?_) (a' := ?_) #[true, false, false, false, false, false] rfl rfl (by kernel_rfl) (fun _ _ _ h => h) (Or.inl ⟨by rfl, ?_⟩) ?_ ?_
      rotate_left
      · intro w'
        go_simp
        with_reducible rfl
      rotate_left
      · simp only [Act.put, List.setIfInBounds_toArray, List.set_cons_zero, List.set_cons_succ, i64_w, i32_w]
        rfl
      refine pure_ (i := 2) (N := some 40) (v := ?_) (a' := ?_) #[true, false, true, false, false, false] rfl rfl (by kernel_rfl) (fun _ _ _ h => h) (Or.inl ⟨by rfl, ?_⟩) ?_ ?_
      rotate_left
      · intro w'
        go_simp
        with_reducible rfl
      rotate_left
      · simp only [Act.put, List.setIfInBounds_toArray, List.set_cons_zero, List.set_cons_succ, i64_w, i32_w]
        rfl
      refine take_ (i := 1) (N := some 39) (v := ?_) (a' := ?_) #[true, true, true, false, false, false] rfl rfl (by kernel_rfl) (fun _ _ _ h => h) (Or.inl ⟨by rfl, ?_⟩) hHeld ?_ ?_
      rotate_left
      · rintro w' ⟨s0, s1⟩
        go_simp
        with_reducible rfl
      rotate_left
      · simp only [Act.put, List.setIfInBounds_toArray, List.set_cons_zero, List.set_cons_succ, i64_w, i32_w]
        rfl
      refine pure_ (i := 4) (N := some 8) (v := ?_) (a' := ?_) #[true, true, true, false, true, false] rfl rfl (by kernel_rfl) (fun _ _ _ h => h) (Or.inl ⟨by rfl, ?_⟩) ?_ ?_
      rotate_left
      · intro w'
        go_simp
        with_reducible rfl
      rotate_left
      · simp only [Act.put, List.setIfInBounds_toArray, List.set_cons_zero, List.set_cons_succ, i64_w, i32_w]
        rfl
      refine take_ (i := 3) (N := some 41) (v := ?_) (a' := ?_) #[true, true, true, true, true, false] rfl rfl (by kernel_rfl) (fun _ _ _ h => h) (Or.inl ⟨by rfl, ?_⟩) hHeld ?_ ?_
      rotate_left
      · rintro w' ⟨s0, s1⟩
        go_simp
        with_reducible rfl
      rotate_left
      · simp only [Act.put, List.setIfInBounds_toArray, List.set_cons_zero, List.set_cons_succ, i64_w, i32_w]
        rfl
      refine pure_ (i := 5) (N := some 9) (v := ?_) (a' := ?_) #[true, true, true, true, true, true] rfl rfl (by kernel_rfl) (fun _ _ _ h => h) (Or.inl ⟨by rfl, ?_⟩) ?_ ?_
      rotate_left
      · intro w'
        go_simp
        with_reducible rfl
      rotate_left
      · simp only [Act.put, List.setIfInBounds_toArray, List.set_cons_zero, List.set_cons_succ, i64_w, i32_w]
        rfl
      refine done_ (by kernel_rfl) ?_
      cases gtv with
      | false =>
        go_wp2_with (first
          | (go_at_call 43; refine (HG1.out _).mono ?_; rintro e w10 ⟨rfl, hb10⟩; have H10 := Aside0.mk (below_step HD.out.1 hb10); clear hb10)
          | (go_at_call 24; refine (awake_calls _).mono ?_; rintro e w20 ⟨rfl, hb20⟩; have H20 := Aside0.mk (below_step H10.out hb20); clear hb20))
        go_ret
        exact ⟨rfl, H20.out⟩
      | true =>
        obtain rfl : q2 = true := HB.out.1 rfl
        obtain rfl : q3 = true := HB.out.2.1 rfl
        obtain rfl : q4 = true := HB.out.2.2 rfl
        go_wp2_with (go_at_call 43; refine (HG1.out _).mono ?_; rintro e w10 ⟨rfl, hb10⟩; have H10 := Aside0.mk (And.intro (below_step HD.out.1 hb10) (blk_below HD.out.2.1 hb10)); have hc2 : w10.cell? ⟨gb, 2, none⟩ = some (.string x2) := blk_cell H10.out.2 2; have hc3 : w10.cell? ⟨gb, 3, none⟩ = some (.string x3) := blk_cell H10.out.2 3; have hc4 : w10.cell? ⟨gb, 4, none⟩ = some (.string x4) := blk_cell H10.out.2 4; clear hb10)
        obtain ⟨b12, hb12e⟩ : ∃ b, b = w10.heap.size := ⟨_, rfl⟩
        obtain ⟨w11, hw11⟩ : ∃ W, W = w10.alloc (.cells #[.string x2, .string x3, .string x4] 61) := ⟨_, rfl⟩
        rw [← hb12e, ← hw11]
        have H11 : Aside0 (Below w.heap.size w w11 ∧ w11.heap[gb]? = some (cells63 x0 x1 x2 x3 x4) ∧ w11.heap[b12]? = some (.cells #[.string x2, .string x3, .string x4] 61 (0, 0))) := ⟨by rw [hw11]; exact below_on H10.out.1 (below_alloc (Below.refl _ _) _), by rw [hw11]; exact blk_alloc H10.out.2 _, by rw [hw11, hb12e]; exact blk_new w10 _⟩
        clear hw11 hb12e hc2 hc3 hc4
        have hp0 : w11.drew.cell? ⟨b12, 0, none⟩ = some (.string x2) := blk_cell (blk_drew H11.out.2.2) 0
        have hp1 : w11.drew.cell? ⟨b12, 1, none⟩ = some (.string x3) := blk_cell (blk_drew H11.out.2.2) 1
        have hp2 : w11.drew.cell? ⟨b12, 2, none⟩ = some (.string x4) := blk_cell (blk_drew H11.out.2.2) 2
        refine start_ (n := 13) (S := fun w' => w'.cell? ⟨b12, 0, none⟩ = some (.string x2) ∧ w'.cell? ⟨b12, 1, none⟩ = some (.string x3) ∧ w'.cell? ⟨b12, 2, none⟩ = some (.string x4)) (ds := [7]) #[false, false, false, false, false, false, false, false, false, false, false, false, false] (by kernel_rfl) rfl rfl ⟨hp0, hp1, hp2⟩ (fun hHeld => ?_)
        refine pure_ (i := 0) (N := some 62) (v := ?_) (a' := ?_) #[true, false, false, false, false, false, false, false, false, false, false, false, false] rfl rfl (by kernel_rfl) (fun _ _ _ h => h) (Or.inl ⟨by rfl, ?_⟩) ?_ ?_
        rotate_left
        · intro w'
          go_simp
          with_reducible rfl
        rotate_left
        · simp only [Act.put, List.setIfInBounds_toArray, List.set_cons_zero, List.set_cons_succ, i64_w, i32_w]
          rfl
        refine pure_ (i := 1) (N := some 63) (v := ?_) (a' := ?_) #[true, true, false, false, false, false, false, false, false, false, false, false, false] rfl rfl (by kernel_rfl) (fun _ _ _ h => h) (Or.inl ⟨by rfl, ?_⟩) ?_ ?_
        rotate_left
        · intro w'
          go_simp
          with_reducible rfl
        rotate_left
        · simp only [Act.put, List.setIfInBounds_toArray, List.set_cons_zero, List.set_cons_succ, i64_w, i32_w]
          rfl
        refine pure_ (i := 4) (N := some 66) (v := ?_) (a' := ?_) #[true, true, false, false, true, false, false, false, false, false, false, false, false] rfl rfl (by kernel_rfl) (fun _ _ _ h => h) (Or.inl ⟨by rfl, ?_⟩) ?_ ?_
        rotate_left
        · intro w'
          go_simp
          with_reducible rfl
        rotate_left
        · simp only [Act.put, List.setIfInBounds_toArray, List.set_cons_zero, List.set_cons_succ, i64_w, i32_w]
          rfl
        refine take_ (i := 2) (N := some 64) (v := ?_) (a' := ?_) #[true, true, true, false, true, false, false, false, false, false, false, false, false] rfl rfl (by kernel_rfl) (fun _ _ _ h => h) (Or.inl ⟨by rfl, ?_⟩) hHeld ?_ ?_
        rotate_left
        · rintro w' ⟨s0, s1, s2⟩
          go_simp
          with_reducible rfl
        rotate_left
        · simp only [Act.put, List.setIfInBounds_toArray, List.set_cons_zero, List.set_cons_succ, i64_w, i32_w]
          rfl
        refine take_ (i := 5) (N := some 67) (v := ?_) (a' := ?_) #[true, true, true, false, true, true, false, false, false, false, false, false, false] rfl rfl (by kernel_rfl) (fun _ _ _ h => h) (Or.inl ⟨by rfl, ?_⟩) hHeld ?_ ?_
        rotate_left
        · rintro w' ⟨s0, s1, s2⟩
          go_simp
          with_reducible rfl
        rotate_left
        · simp only [Act.put, List.setIfInBounds_toArray, List.set_cons_zero, List.set_cons_succ, i64_w, i32_w]
          rfl
        refine one_ (i := 3) (N := some 65) #[true, true, true, true, true, true, false, false, false, false, false, false, false] rfl rfl (by kernel_rfl) (by decide) (fun K hK => ?_)
        refine goesD_ Tryz.func46 (by kernel_rfl) rfl #[.string x0, .agg #[.string x2, .string x3, .string x4]] (by rfl) rfl rfl (by simp only [List.map_toArray, List.map_cons, List.map_nil]; rfl) ?_
        refine (HA1.out _).mono ?_
        rintro e w12 ⟨rfl, hb12⟩
        refine .inl ⟨_, rfl, ?_⟩
        have hW12 : Below w11.heap.size w11 w12 := ⟨hb12.os, hb12.tape, hb12.output, hb12.size, hb12.block⟩
        have hq0 : w12.cell? ⟨b12, 0, none⟩ = some (.string x2) := blk_cell (blk_below H11.out.2.2 hW12) 0
        have hq1 : w12.cell? ⟨b12, 1, none⟩ = some (.string x3) := blk_cell (blk_below H11.out.2.2 hW12) 1
        have hq2 : w12.cell? ⟨b12, 2, none⟩ = some (.string x4) := blk_cell (blk_below H11.out.2.2 hW12) 2
        refine hK.out _ _ ⟨hq0, hq1, hq2⟩ (fun hHeld => ?_)
        clear hK K
        refine norm_ (a' := ?_) ?_ ?_
        rotate_left
        · show Act.put _ (some 65) _ = _
          simp only [Act.put, List.setIfInBounds_toArray, List.set_cons_zero, List.set_cons_succ, i64_w, i32_w]
          rfl
        refine one_ (i := 6) (N := some 68) #[true, true, true, true, true, true, true, false, false, false, false, false, false] rfl rfl (by kernel_rfl) (by decide) (fun K hK => ?_)
        refine goesD_ Tryz.func46 (by kernel_rfl) rfl #[.string x1, .agg #[.string x2, .string x3, .string x4]] (by rfl) rfl rfl (by simp only [List.map_toArray, List.map_cons, List.map_nil]; rfl) ?_
        refine (HA2.out _).mono ?_
        rintro e w13 ⟨rfl, hb13⟩
        refine .inl ⟨_, rfl, ?_⟩
        have hW13 : Below w11.heap.size w11 w13 := below_step hW12 hb13
        have hr0 : w13.cell? ⟨b12, 0, none⟩ = some (.string x2) := blk_cell (blk_below H11.out.2.2 hW13) 0
        have hr1 : w13.cell? ⟨b12, 1, none⟩ = some (.string x3) := blk_cell (blk_below H11.out.2.2 hW13) 1
        have hr2 : w13.cell? ⟨b12, 2, none⟩ = some (.string x4) := blk_cell (blk_below H11.out.2.2 hW13) 2
        refine hK.out _ _ ⟨hr0, hr1, hr2⟩ (fun hHeld => ?_)
        clear hK K
        refine norm_ (a' := ?_) ?_ ?_
        rotate_left
        · show Act.put _ (some 68) _ = _
          simp only [Act.put, List.setIfInBounds_toArray, List.set_cons_zero, List.set_cons_succ, i64_w, i32_w]
          rfl
        refine last_ (i := 7) (N := some 69) #[true, true, true, true, true, true, true, true, false, false, false, false, false] rfl rfl (by kernel_rfl) (by decide) (fun K hK => ?_)
        refine goesD_ Tryz.func43 (by kernel_rfl) rfl #[.string p, .string u0, .string u1] (by rfl) rfl rfl (by simp only [List.map_toArray, List.map_cons, List.map_nil]; rfl) ?_
        refine (HG2.out _).mono ?_
        rintro e w14 ⟨rfl, hb14⟩
        refine .inl ⟨_, rfl, ?_⟩
        have hW14 : Below w11.heap.size w11 w14 := below_step hW13 hb14
        refine hK.out _ _ ?_
        clear hK K
        refine norm_ (a' := ?_) ?_ ?_
        rotate_left
        · show Act.put _ (some 69) _ = _
          simp only [Act.put, List.setIfInBounds_toArray, List.set_cons_zero, List.set_cons_succ, i64_w, i32_w]
          rfl
        refine pure_ (i := 8) (N := some 61) (v := ?_) (a' := ?_) #[true, true, true, true, true, true, true, true, true, false, false, false, false] rfl rfl (by kernel_rfl) (fun _ _ _ h => h) (Or.inl ⟨by rfl, ?_⟩) ?_ ?_
        rotate_left
        · intro w'
          go_simp
          with_reducible rfl
        rotate_left
        · simp only [Act.put, List.setIfInBounds_toArray, List.set_cons_zero, List.set_cons_succ, i64_w, i32_w]
          rfl
        refine pure_ (i := 9) (N := some 70) (v := ?_) (a' := ?_) #[true, true, true, true, true, true, true, true, true, true, false, false, false] rfl rfl (by kernel_rfl) (fun _ _ _ h => h) (Or.inl ⟨by rfl, ?_⟩) ?_ ?_
        rotate_left
        · intro w'
          go_simp
          with_reducible rfl
        rotate_left
        · simp only [Act.put, List.setIfInBounds_toArray, List.set_cons_zero, List.set_cons_succ, i64_w, i32_w]
          rfl
        refine pure_ (i := 10) (N := some 71) (v := ?_) (a' := ?_) #[true, true, true, true, true, true, true, true, true, true, true, false, false] rfl rfl (by kernel_rfl) (fun _ _ _ h => h) (Or.inl ⟨by rfl, ?_⟩) ?_ ?_
        rotate_left
        · intro w'
          go_simp
          with_reducible rfl
        rotate_left
        · simp only [Act.put, List.setIfInBounds_toArray, List.set_cons_zero, List.set_cons_succ, i64_w, i32_w]
          rfl
        refine pure_ (i := 11) (N := some 13) (v := ?_) (a' := ?_) #[true, true, true, true, true, true, true, true, true, true, true, true, false] rfl rfl (by kernel_rfl) (fun _ _ _ h => h) (Or.inl ⟨by rfl, ?_⟩) ?_ ?_
        rotate_left
        · intro w'
          go_simp
          with_reducible rfl
        rotate_left
        · simp only [Act.put, List.setIfInBounds_toArray, List.set_cons_zero, List.set_cons_succ, i64_w, i32_w]
          rfl
        refine pure_ (i := 12) (N := some 14) (v := ?_) (a' := ?_) #[true, true, true, true, true, true, true, true, true, true, true, true, true] rfl rfl (by kernel_rfl) (fun _ _ _ h => h) (Or.inl ⟨by rfl, ?_⟩) ?_ ?_
        rotate_left
        · intro w'
          go_simp
          with_reducible rfl
        rotate_left
        · simp only [Act.put, List.setIfInBounds_toArray, List.set_cons_zero, List.set_cons_succ, i64_w, i32_w]
          rfl
        refine done_ (by kernel_rfl) ?_
        have H14 := Aside0.mk (And.intro (below_on H11.out.1 hW14) (blk_below H11.out.2.1 hW14))
        clear hb12 hb13 hb14 hW12 hW13 hW14 hq0 hq1 hq2 hr0 hr1 hr2 hp0 hp1 hp2 hy0 hy1
        have hc2 : w14.cell? ⟨gb, 2, none⟩ = some (.string x2) := blk_cell H14.out.2 2
        have hk0 : (9223372036854775807 < 2 + x2.size) = False := eq_false (by omega)
        have hk1 : (9223372036854775807 < 2 + x2.size + 1) = False := eq_false (by omega)
        have hk2 : (9223372036854775807 < 2 + x2.size + 1 + x0.size) = False := eq_false (by omega)
        have hk3 : (9223372036854775807 < 2 + x2.size + 1 + x0.size + 1) = False := eq_false (by omega)
        have hk4 : (9223372036854775807 < 2 + x2.size) = False := eq_false (by omega)
        have hk5 : (9223372036854775807 < 2 + x2.size + 1) = False := eq_false (by omega)
        have hk6 : (9223372036854775807 < 2 + x2.size + 1 + x1.size) = False := eq_false (by omega)
        have hk7 : (9223372036854775807 < 2 + x2.size + 1 + x1.size + 1) = False := eq_false (by omega)
        have hk8 : (9223372036854775807 < 4 + x0.size) = False := eq_false (by omega)
        have hk9 : (9223372036854775807 < 4 + x0.size + 1) = False := eq_false (by omega)
        have hk10 : (9223372036854775807 < 4 + x0.size + 1 + x3.size) = False := eq_false (by omega)
        have hk11 : (9223372036854775807 < 4 + x0.size + 1 + x3.size + 2) = False := eq_false (by omega)
        have hk12 : (9223372036854775807 < 4 + x1.size) = False := eq_false (by omega)
        have hk13 : (9223372036854775807 < 4 + x1.size + 1) = False := eq_false (by omega)
        have hk14 : (9223372036854775807 < 4 + x1.size + 1 + x3.size) = False := eq_false (by omega)
        have hk15 : (9223372036854775807 < 4 + x1.size + 1 + x3.size + 2) = False := eq_false (by omega)
        clear z0 z1 z2 z3 z4
        go_upto_region 18 with (go_at_call 43; refine (HG3.out _).mono ?_; rintro e w15 ⟨rfl, hb15⟩; have H15 := Aside0.mk (And.intro (below_on H14.out.1 hb15) (blk_below H14.out.2 hb15)); have hc3 : w15.cell? ⟨gb, 3, none⟩ = some (.string x3) := blk_cell H15.out.2 3; clear hb15)
        go_upto_region 19 with (go_at_call 43; refine (HG4.out _).mono ?_; rintro e w16 ⟨rfl, hb16⟩; have H16 := Aside0.mk (below_on H15.out.1 hb16); clear hb16)
        clear hk0 hk1 hk2 hk3 hk4 hk5 hk6 hk7 hk8 hk9 hk10 hk11 hk12 hk13 hk14 hk15 hc2 H10 H11 H14 H15 HG1 HG2 HG3 HG4 HA1 HA2 HB HD HL0 HL1 HL2 HL3 HL4 HR HS
        generalize (⟨#[102, 40]⟩ : ByteArray) ++ x2 = s1_
        generalize s1_ ++ (⟨#[44]⟩ : ByteArray) = s2_
        generalize s2_ ++ x0 = s3_
        generalize s2_ ++ x1 = s4_
        generalize s3_ ++ (⟨#[41]⟩ : ByteArray) = s5_
        generalize s4_ ++ (⟨#[41]⟩ : ByteArray) = s6_
        generalize (⟨#[100, 40, 101, 40]⟩ : ByteArray) ++ x0 = t1_
        generalize (⟨#[100, 40, 101, 40]⟩ : ByteArray) ++ x1 = t2_
        generalize t1_ ++ (⟨#[44]⟩ : ByteArray) ++ x3 = t3_
        generalize t2_ ++ (⟨#[44]⟩ : ByteArray) ++ x3 = t4_
        go_wp2_with (go_at_call 24; refine (awake_calls _).mono ?_; rintro e w20 ⟨rfl, hb20⟩; have H20 := Aside0.mk (below_on H16.out hb20); clear hb20)
        go_ret
        exact ⟨rfl, H20.out⟩
/-- the law's answer, where the strings are such as any machine holds -/
def numnahlaw08_RulesStable.f (a0 : Int) (l1 : List ByteArray) : Option Bool := if ∀ x ∈ l1, x.size ≤ 9223372036854775807 then some true else none
theorem numnahlaw08_RulesStable.calls (a0 : Int) (A1 : Option Addr) (c1 : Nat) (l1 : List ByteArray) (r : Bool) (w : World) (hr : Kd.C Kd.string w A1 l1.length l1) (hc : l1.length ≤ c1) (h : numnahlaw08_RulesStable.f a0 l1 = some r) :
    Calls Tryz.prog 10 #[.int .i64 a0, .slice A1 l1.length c1] w fun e w' => e = .returned (.bool r) ∧ Below w.heap.size w w' := by
  unfold numnahlaw08_RulesStable.f at h
  split at h
  · rename_i hs
    injection h with h
    subst h
    exact stable_calls a0 l1 A1 c1 w hr hs
  · cases h
end Go.Proofs.YtaafeallcaiooaaGreat.Pr
