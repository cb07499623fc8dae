/- The reader of terms. -/
import Derived.Test.YtaafeallcaiooaaGreatPr0
import Derived.Tactics2
import Derived.Defers
import Derived.Recover
import Derived.Laws.Pointers
import Derived.WalkLawsBesides
import Derived.Shelf.Abstract
import Derived.IntWalk
/- Type assertions of terms; demand; guard, which calls a closure and hands back the error that it reports, or OK. -/
namespace Go.Proofs.YtaafeallcaiooaaGreat.Pr
open Go.RowKit Go.Proofs.YtaafeallcaiooaaGreatW.PrintWords Go.Proofs.YtaafeallcaiooaaGreatW.PrintLast Go.Proofs.YtaafeallcaiooaaGreatW.PrintMore
set_option linter.unusedVariables false
set_option linter.unusedSimpArgs false

/-! ### type assertions -/
theorem as156 (v : Value) (w : World) : (Instr.typeAssert (.iface 156 v) 20 156 true).run Tryz.prog w = .ok (.tuple #[v, .bool true]) w := by kernel_rfl
theorem asVV (v : Value) (w : World) : (Instr.typeAssert (.iface 131 v) 99 131 true).run Tryz.prog w = .ok (.tuple #[v, .bool true]) w := by kernel_rfl
theorem asVC (v : Value) (w : World) : (Instr.typeAssert (.iface 131 v) 99 149 true).run Tryz.prog w = .ok (.tuple #[.agg #[.int .u8 0, .slice none 0 0], .bool false]) w := by kernel_rfl
theorem asCC (v : Value) (w : World) : (Instr.typeAssert (.iface 149 v) 99 149 true).run Tryz.prog w = .ok (.tuple #[v, .bool true]) w := by kernel_rfl
theorem asCV (v : Value) (w : World) : (Instr.typeAssert (.iface 149 v) 99 131 true).run Tryz.prog w = .ok (.tuple #[.int .u8 0, .bool false]) w := by kernel_rfl
/-! ### demand -/
/-- the panic that reports an error -/
def trouble (c : Int) : Value := .iface 156 (.agg #[.int .i64 c])
abbrev troubled (c : Int) : Ending := .panicked [{ v := trouble c, recovered := false }]
theorem demand_ok (c : Int) (w : World) : Calls Tryz.prog 67 #[.bool true, .int .i64 c] w fun e w' => e = .returned (.tuple #[]) ∧ w' = w := by
  go_enter Tryz.func67, Tryz.ntmps67
  go_wp2
  simp [bodyPost, results, Tryz.results67]
theorem demand_no (c : Int) (w : World) : Calls Tryz.prog 67 #[.bool false, .int .i64 c] w fun e w' => e = troubled c ∧ w' = w := by
  unfold troubled
  go_enter Tryz.func67, Tryz.ntmps67
  go_wp2
  simp [bodyPost, trouble]

/-! ### guard -/
section
attribute [local go_sem] as156
set_option maxRecDepth 100000 in
theorem catch_panicking (g : Nat) (x c : Int) (older : List PanicEntry) (w : World) (hh : w.heap[g]? = some (.cells #[.int .i64 x] 26 (0, 0))) :
    CallsD Tryz.prog 116 #[.pointer (some ⟨g, 0, none⟩)] (.panicking ({ v := trouble c, recovered := false } :: older)) w fun e u' w' =>
      e = .returned (.tuple #[]) ∧ u' = .panicking ({ v := trouble c, recovered := true } :: older) ∧ w' = (w.setCell ⟨g, 0, none⟩ (.int .i64 c)).alloc (.cells #[.int .i64 c] 156) := by
  have hlt : g < w.heap.size := (Array.getElem?_eq_some_iff.1 hh).1
  have hh2 := blk_alloc hh (.cells #[.int .i64 c] 156)
  have hc2 : (w.alloc (.cells #[.int .i64 c] 156)).cell? ⟨g, 0, none⟩ = some (.int .i64 x) := blk_cell hh2 0
  have hz2 : (w.alloc (.cells #[.int .i64 c] 156)).frozen? ⟨g, 0, none⟩ = false := by simp [World.frozen?, hh2]
  clear hh hh2
  refine callsD_of_wpS Tryz.func116 rfl fun c₀ cs hu => ?_
  apply wpS_seq
  apply wpS_region
  simp [wpOpsS, go_sem, recoverD, hu, Tryz.ntmps116, Exit.thenS]
  refine wpS_of_wp ?_
  have e : (#[Value.pointer (some ⟨g, 0, none⟩)] ++ (Array.replicate 11 undef).setIfInBounds 3 (trouble c)) = #[.pointer (some ⟨g, 0, none⟩), undef, undef, undef, trouble c, undef, undef, undef, undef, undef, undef, undef] := rfl
  rw [e]
  unfold trouble
  clear e
  go_wp2
  simp [bodyPostS, results, Tryz.results116]
end
theorem catch_idle (p : Addr) (w : World) :
    CallsD Tryz.prog 116 #[.pointer (some p)] .returning w fun e u' w' => e = .returned (.tuple #[]) ∧ u' = .returning ∧ w' = w := by
  refine callsD_of_wpS Tryz.func116 rfl fun c₀ cs hu => ?_
  apply wpS_seq
  apply wpS_region
  simp [wpOpsS, go_sem, recoverD, hu, Tryz.ntmps116, Exit.thenS]
  refine wpS_of_wp ?_
  go_wp2
  cases c₀
  simp_all [bodyPostS, results, Tryz.results116]
theorem blk_setCell {w : World} {g : Nat} {x : Value} {t : TypeId} (h : w.heap[g]? = some (.cells #[x] t (0, 0))) (v : Value) : (w.setCell ⟨g, 0, none⟩ v).heap[g]? = some (.cells #[v] t (0, 0)) := by
  simp [World.setCell, Array.getElem?_modify, h]
set_option maxRecDepth 100000 in
/-- guard: a closure that returns: OK; a closure that reports an error: the error. -/
theorem guard_calls (F : Nat) (he : Enters Tryz.prog F) (cap : Array Value) (w : World) (Q : Int → World → Prop)
    (h : Calls Tryz.prog F cap (w.alloc (.cells #[.int .i64 0] 26)) fun e w1 => w1.heap[w.heap.size]? = some (.cells #[.int .i64 0] 26 (0, 0)) ∧ ((e = .returned (.tuple #[]) ∧ Q 0 w1) ∨ ∃ c, e = troubled c ∧ Q c w1)) :
    Calls Tryz.prog 65 #[.func (.func F) #[] cap] w fun e w' => ∃ c w1, e = .returned (.int .i64 c) ∧ Q c w1 ∧ Below w.heap.size w1 w' := by
  have hmf : ∀ (fn : Fn) (first cap : Array Value) (w : World), (Instr.makeFunc fn first cap).run Tryz.prog w = .ok (.func fn first cap) w := fun _ _ _ _ => rfl
  have he2 : ∀ args w, (callFunc F args).run Tryz.prog w = .ok (.enter F args) w := he
  go_enter_defers Tryz.func65, Tryz.ntmps65
  go_wp2_with (refine h.mono ?_; rintro e w1 ⟨hk, hq⟩; have hc : w1.cell? ⟨w.heap.size, 0, none⟩ = some (.int .i64 0) := blk_cell hk 0; have hz : w1.frozen? ⟨w.heap.size, 0, none⟩ = false := (by simp [World.frozen?, hk]); rcases hq with ⟨rfl, hq⟩ | ⟨c, rfl, hq⟩)
  · refine leaves_cons (f := 116) (args := #[.pointer (some ⟨w.heap.size, 0, none⟩)]) (by simp) (by simp [go_sem]) ?_
    refine (catch_idle ⟨w.heap.size, 0, none⟩ _).mono ?_
    rintro e u' w'' ⟨rfl, rfl, rfl⟩
    have hcc : (w1.setCell ⟨w.heap.size, 0, none⟩ (.int .i64 0)).cell? ⟨w.heap.size, 0, none⟩ = some (.int .i64 0) := World.cell?_setCell_same' w1 _ _ (by rw [hc]; rfl)
    simp [Leaves, settle, results, Tryz.results65, go_sem, hcc]
    have hb : Below w.heap.size w1 (w1.setCell ⟨w.heap.size, 0, none⟩ (.int .i64 0)) := (Below.refl _ w1).setCell (p := ⟨w.heap.size, 0, none⟩) (Nat.le_refl _) _
    exact ⟨w1, hq, hb⟩
  · have hlt := (Array.getElem?_eq_some_iff.1 hk).1
    have hh2 := blk_setCell hk (.int .i64 c)
    refine leaves_cons (f := 116) (args := #[.pointer (some ⟨w.heap.size, 0, none⟩)]) (by simp) (by simp [go_sem]) ?_
    refine (catch_panicking w.heap.size 0 c [] _ hk).mono ?_
    rintro e u' w'' ⟨rfl, rfl, rfl⟩
    have hcc := blk_cell (blk_alloc hh2 (.cells #[.int .i64 c] 156)) 0
    simp only [List.getElem?_toArray] at hcc
    simp [Leaves, settle, results, Tryz.results65, go_sem, hcc]
    exact ⟨_, hq, ((Below.refl w.heap.size _).setCell (p := ⟨w.heap.size, 0, none⟩) (Nat.le_refl _) _).alloc (by simp; omega) _⟩
end Go.Proofs.YtaafeallcaiooaaGreat.Pr
/- Terms, and values that are terms. -/
namespace Go.Proofs.YtaafeallcaiooaaGreat.Pr
open Go.RowKit Go.Proofs.YtaafeallcaiooaaGreatW.PrintWords Go.Proofs.YtaafeallcaiooaaGreatW.PrintLast Go.Proofs.YtaafeallcaiooaaGreatW.PrintMore
set_option linter.unusedVariables false
set_option linter.unusedSimpArgs false

/-- a term: a variable, or a symbol with parts -/
inductive Tm where
  | var (c : Int) : Tm
  | app (s : Int) (l : List Tm) : Tm
instance : Inhabited Tm := ⟨.var 0⟩
/-- an interface value of a term -/
def encI (p : Nat × Value) : Value := .iface p.1 p.2
theorem encI_one (p : Nat × Value) : (encI p).oneCell' = true := rfl
mutual
/-- the value p is the term; its blocks are such as ok says -/
def Has (w : World) (ok : Nat → Prop) : Tm → Nat × Value → Prop
  | .var c, p => p = (131, .int .u8 c)
  | .app s l, p => ∃ A cap, p = (149, .agg #[.int .u8 s, .slice A l.length cap]) ∧ l.length ≤ cap ∧ HasL w ok l A 0
/-- the cells from i on of a row are the terms -/
def HasL (w : World) (ok : Nat → Prop) : List Tm → Option Addr → Nat → Prop
  | [], _, _ => True
  | t :: l, A, i => (∃ g cs p, A = some ⟨g, 0, none⟩ ∧ ok g ∧ w.heap[g]? = some (.cells cs 99 (0, 0)) ∧ cs[i]? = some (encI p) ∧ Has w ok t p) ∧ HasL w ok l A (i + 1)
end
mutual
theorem Has.step {w w' : World} {ok ok' : Nat → Prop} (h : ∀ k, ok k → k < w.heap.size → ok' k ∧ w'.heap[k]? = w.heap[k]?) : ∀ {t : Tm} {p : Nat × Value}, Has w ok t p → Has w' ok' t p
  | .var c, p, hh => hh
  | .app s l, p, hh => by
    rw [Has] at hh ⊢
    obtain ⟨A, cap, h1, h2, h3⟩ := hh
    exact ⟨A, cap, h1, h2, HasL.step h h3⟩
theorem HasL.step {w w' : World} {ok ok' : Nat → Prop} (h : ∀ k, ok k → k < w.heap.size → ok' k ∧ w'.heap[k]? = w.heap[k]?) : ∀ {l : List Tm} {A : Option Addr} {i : Nat}, HasL w ok l A i → HasL w' ok' l A i
  | [], _, _, _ => by rw [HasL]; trivial
  | t :: l, A, i, hh => by
    rw [HasL] at hh ⊢
    obtain ⟨⟨g, cs, p, h1, h2, h3, h4, h5⟩, h6⟩ := hh
    have hg := h g h2 (Array.getElem?_eq_some_iff.1 h3).1
    exact ⟨⟨g, cs, p, h1, hg.1, hg.2.trans h3, h4, Has.step h h5⟩, HasL.step h h6⟩
end
theorem Has.mono {w : World} {ok ok' : Nat → Prop} {t : Tm} {p : Nat × Value} (hh : Has w ok t p) (h : ∀ k, ok k → ok' k) : Has w ok' t p := Has.step (fun k hk _ => ⟨h k hk, rfl⟩) hh
theorem Has.bound {w : World} {ok : Nat → Prop} {t : Tm} {p : Nat × Value} (hh : Has w ok t p) : Has w (fun k => ok k ∧ k < w.heap.size) t p := Has.step (fun k hk hl => ⟨⟨hk, hl⟩, rfl⟩) hh
theorem Has.below {w w' : World} {ok : Nat → Prop} {t : Tm} {p : Nat × Value} (hh : Has w ok t p) (h : Below w.heap.size w w') : Has w' ok t p := Has.step (fun k hk hl => ⟨hk, h.block k hl⟩) hh
theorem Has.keep {w w' : World} {ok : Nat → Prop} {t : Tm} {p : Nat × Value} {g : Nat} (hh : Has w ok t p) (h : KeepBut w w' g none) (hg : ∀ k, ok k → k ≠ g) : Has w' ok t p := Has.step (fun k hk hl => ⟨hk, h.2 k hl (hg k hk) (by simp)⟩) hh
theorem Has.alloc {w : World} {ok : Nat → Prop} {t : Tm} {p : Nat × Value} (hh : Has w ok t p) (o : Obj) : Has (w.alloc o) ok t p := hh.below (below_alloc (Below.refl _ _) o)
theorem Has.drewN {w : World} {ok : Nat → Prop} {t : Tm} {p : Nat × Value} (hh : Has w ok t p) (n : Nat) : Has (w.drewN n) ok t p := hh.below (pw_below_drewN (Below.refl _ _) n)
theorem Has.var_ {w : World} {ok : Nat → Prop} {c : Int} {p : Nat × Value} : Has w ok (.var c) p ↔ p = (131, .int .u8 c) := by rw [Has]
theorem Has.app_ {w : World} {ok : Nat → Prop} {s : Int} {l : List Tm} {p : Nat × Value} : Has w ok (.app s l) p ↔ ∃ A cap, p = (149, .agg #[.int .u8 s, .slice A l.length cap]) ∧ l.length ≤ cap ∧ HasL w ok l A 0 := by rw [Has]
theorem HasL.get {w : World} {ok : Nat → Prop} : ∀ {l : List Tm} {A : Option Addr} {i : Nat}, HasL w ok l A i → ∀ j (hj : j < l.length), ∃ g cs p, A = some ⟨g, 0, none⟩ ∧ ok g ∧ w.heap[g]? = some (.cells cs 99 (0, 0)) ∧ cs[i + j]? = some (encI p) ∧ Has w ok l[j] p
  | t :: l, A, i, hh, 0, hj => by
    rw [HasL] at hh
    exact hh.1
  | t :: l, A, i, hh, j + 1, hj => by
    rw [HasL] at hh
    have := HasL.get hh.2 j (by simpa using hj)
    rw [show i + (j + 1) = i + 1 + j by omega]
    exact this
theorem HasL.of {w : World} {ok : Nat → Prop} {g : Nat} {cs : Array Value} (hg : ok g) (hh : w.heap[g]? = some (.cells cs 99 (0, 0))) : ∀ (l : List Tm) (i : Nat), (∀ j (hj : j < l.length), ∃ p, cs[i + j]? = some (encI p) ∧ Has w ok l[j] p) → HasL w ok l (some ⟨g, 0, none⟩) i
  | [], i, _ => by rw [HasL]; trivial
  | t :: l, i, h => by
    rw [HasL]
    obtain ⟨p, h1, h2⟩ := h 0 (by simp)
    refine ⟨⟨g, cs, p, rfl, hg, hh, h1, h2⟩, HasL.of hg hh l (i + 1) (fun j hj => ?_)⟩
    have := h (j + 1) (by simpa using hj)
    rw [show i + 1 + j = i + (j + 1) by omega]
    exact this

/-! ### a call that may panic, in a region -/
section
variable {P : Program} {ops : Array Oper} {Q : Exit → Act → World → Prop}
theorem callD_ {oi : Oper} {N : Option Tmp} {a : Act} {w : World} {K : Act → World → Prop} (f : FuncId) (args : Array Value) (hw : Region.wanted oi (yielded ops a.tmps) = true) (hN : oi.dst = N) (hrun : (execOp a.eval oi).run P w = .ok (.enter f args) w)
    (h : Calls P f args w fun e w' => (∃ v, e = .returned v ∧ K (a.put N v) w') ∨ ∃ ch, e = .panicked ch ∧ Q (.panic ch) a w') : if Region.wanted oi (yielded ops a.tmps) = true then Oper.wp P oi a w K Q else K (a.put N undef) w := by
  rw [if_pos hw]
  subst hN
  unfold Oper.wp
  rw [hrun, Oper.upon_enter]
  refine h.mono fun e w'' hh => ?_
  rcases hh with ⟨v, rfl, hk⟩ | ⟨ch, rfl, hk⟩
  · exact hk
  · exact hk
theorem goesD_ {oi : Oper} {N : Option Tmp} {a : Act} {w : World} {K : Act → World → Prop} {f : FuncId} {fn : Func} {aa : Array Operand} {ts : Array TypeId} (hf : P.funcs[f]? = some fn) (hname : (fn.name == "runtime.NumGoroutine") = false) (hb : fn.body.isSome = true) (args : Array Value)
    (hw : Region.wanted oi (yielded ops a.tmps) = true) (hN : oi.dst = N) (hop : oi.op = .call { callee := .value (.func f), args := aa, argTypes := ts }) (hargs : aa.map a.eval = args)
    (h : Calls P f args w fun e w' => (∃ v, e = .returned v ∧ K (a.put N v) w') ∨ ∃ ch, e = .panicked ch ∧ Q (.panic ch) a w') : if Region.wanted oi (yielded ops a.tmps) = true then Oper.wp P oi a w K Q else K (a.put N undef) w := by
  refine callD_ f args hw hN ?_ h
  have he := enters_ hf hname hb args w
  unfold execOp
  simp [hop, resolve, Deferred.ofValue, invoke, Act.eval, hargs, he]
end
/-! ### rows of interface values -/
theorem info99 : (Tryz.prog.info? 99).map (fun i => (i.zero, i.size, i.bytes)) = some (some .nilIface, 1, 16) := by kernel_rfl
def kI : Kd (Nat × Value) := Kd.scalar encI encI_one
theorem hasL_of_R {w : World} {base : Nat} {okr ok : Nat → Prop} {v : Value} {vs : List (Nat × Value)} {acc : List Tm} (h : Kd.R kI 99 w base okr v vs) (hl : acc.length = vs.length) (ht : ∀ j (h1 : j < acc.length) (h2 : j < vs.length), Has w ok acc[j] vs[j]) (hk : ∀ k, v.ownBlock = some k → ok k) :
    ∃ A cap, v = .slice A acc.length cap ∧ acc.length ≤ cap ∧ HasL w ok acc A 0 := by
  by_cases hz : 0 < vs.length
  · obtain ⟨g, cap, rfl, hb, hlt, cells, hc⟩ := Kd.R_form h hz
    obtain ⟨e1, e2, hC⟩ := Kd.R_reads' h
    refine ⟨some ⟨g, 0, none⟩, cap, by rw [hl], by omega, HasL.of (hk g (by simp [Value.ownBlock])) hc acc 0 (fun j hj => ?_)⟩
    have hj2 : j < vs.length := by omega
    obtain ⟨ad, c, ea, _, hK, hget⟩ := Kd.C_get hC (0, .nilIface) (j : Int) (by omega) (by omega)
    have ea2 : ad = ⟨g, 0, none⟩ := by injection ea with ea; exact ea.symm
    subst ea2
    have hK2 : c = [encI (vs.getD ((j : Int)).toNat (0, .nilIface))] := hK
    rw [Int.toNat_natCast, List.getD_eq_getElem?_getD, List.getElem?_eq_getElem hj2] at hK2
    have := hget 0 (encI vs[j]) (by rw [hK2]; rfl)
    have h3 : w.cell? ⟨g, j, none⟩ = some (encI vs[j]) := by
      simp [Addr.add, kI, Kd.scalar] at this
      by_cases hj0 : j = 0
      · subst hj0
        simpa using this
      · simpa [hj0] using this
    have h4 : w.cell? ⟨g, j, none⟩ = cells[j]? := blk_cell hc j
    refine ⟨vs[j], ?_, ht j hj hj2⟩
    rw [Nat.zero_add, ← h4, h3]
  · have e0 : vs = [] := List.length_eq_zero_iff.1 (by omega)
    subst e0
    have e1 : acc = [] := List.length_eq_zero_iff.1 (by simpa using hl)
    subst e1
    obtain ⟨A, c, rfl⟩ := Kd.R_slice h
    exact ⟨A, c, rfl, Nat.zero_le _, by rw [HasL]; trivial⟩
end Go.Proofs.YtaafeallcaiooaaGreat.Pr
namespace Go.Proofs.YtaafeallcaiooaaGreat.Pr
open Go.RowKit Go.Proofs.YtaafeallcaiooaaGreatW.PrintWords Go.Proofs.YtaafeallcaiooaaGreatW.PrintLast Go.Proofs.YtaafeallcaiooaaGreatW.PrintMore
set_option linter.unusedVariables false
set_option linter.unusedSimpArgs false

/-! ### all blocks but one stay -/
structure But (g : Nat) (w w' : World) : Prop where
  os : w'.os = w.os
  tape : w'.tape = w.tape
  output : w'.output = w.output
  size : w.heap.size ≤ w'.heap.size
  block : ∀ k, k < w.heap.size → k ≠ g → w'.heap[k]? = w.heap[k]?
theorem But.refl (g : Nat) (w : World) : But g w w := ⟨rfl, rfl, rfl, Nat.le_refl _, fun _ _ _ => rfl⟩
theorem But.trans {g : Nat} {a b c : World} (h : But g a b) (k : But g b c) : But g a c :=
  ⟨k.os.trans h.os, k.tape.trans h.tape, k.output.trans h.output, Nat.le_trans h.size k.size, fun i hi hg => (k.block i (Nat.lt_of_lt_of_le hi h.size) hg).trans (h.block i hi hg)⟩
theorem But.of_below {g : Nat} {w w' : World} (h : Below w.heap.size w w') : But g w w' := ⟨h.os, h.tape, h.output, h.size, fun k hk _ => h.block k hk⟩
theorem But.set {g : Nat} (w : World) (j : Nat) (v : Value) : But g w (w.setCell ⟨g, j, none⟩ v) := ⟨rfl, rfl, rfl, by simp [World.setCell], fun k _ hg => Below.heap_setCell w ⟨g, j, none⟩ v k hg⟩
theorem But.below {g B : Nat} {w w' : World} (h : But g w w') (hg : B ≤ g) (hB : B ≤ w.heap.size) : Below B w w' := ⟨h.os, h.tape, h.output, h.size, fun k hk => h.block k (by omega) (by omega)⟩
theorem But.keep {g : Nat} {w w' : World} (h : But g w w') : KeepBut w w' g none := ⟨h.size, fun k hk hg _ => h.block k hk hg⟩
theorem Has.but {w w' : World} {ok : Nat → Prop} {t : Tm} {p : Nat × Value} {g : Nat} (hh : Has w ok t p) (h : But g w w') (hg : ∀ k, ok k → k ≠ g) : Has w' ok t p := Has.step (fun k hk hl => ⟨hk, h.block k hl (hg k hk)⟩) hh

/-! ### the next byte -/
def hdB (s : ByteArray) : Int := if s.size = 0 then 0 else bt s 0
def tlB (s : ByteArray) : ByteArray := s.extract 1 s.size
/-- a reader: what is left, and how many symbols were read -/
def rdCells (s : ByteArray) (n : Int) : Obj := .cells #[.string s, .int .i64 n] 160 (0, 0)
theorem toList_empty {s : ByteArray} (h : s.size = 0) : s.toList.isEmpty = true := by
  have h2 : s.data.toList.length = s.size := Array.length_toList
  rw [ByteArray.toList_eq, List.isEmpty_iff, ← List.length_eq_zero_iff]; omega
theorem toList_nonempty {s : ByteArray} (h : 0 < s.size) : s.toList.isEmpty = false := by
  have h2 : s.data.toList.length = s.size := Array.length_toList
  rw [ByteArray.toList_eq]
  cases hl : s.data.toList with
  | nil => rw [hl] at h2; simp at h2; omega
  | cons => rfl
theorem blk_set2 {w : World} {g : Nat} {x y : Value} {t : TypeId} (h : w.heap[g]? = some (.cells #[x, y] t (0, 0))) (v : Value) : (w.setCell ⟨g, 0, none⟩ v).heap[g]? = some (.cells #[v, y] t (0, 0)) ∧ (w.setCell ⟨g, 1, none⟩ v).heap[g]? = some (.cells #[x, v] t (0, 0)) := by
  constructor <;> simp [World.setCell, Array.getElem?_modify, h]
theorem reader_next (g : Nat) (s : ByteArray) (n : Int) (w : World) (hh : w.heap[g]? = some (rdCells s n)) :
    Calls Tryz.prog 144 #[.pointer (some ⟨g, 0, none⟩)] w fun e w' => e = .returned (.int .u8 (hdB s)) ∧ w'.heap[g]? = some (rdCells (tlB s) n) ∧ But g w w' := by
  have hc0 : w.cell? ⟨g, 0, none⟩ = some (.string s) := blk_cell hh 0
  have hz : w.frozen? ⟨g, 0, none⟩ = false := by simp [World.frozen?, hh, rdCells]
  by_cases hs : 0 < s.size
  · have he := toList_nonempty hs
    have hb : hdB s = ((s[0]'hs).toNat : Int) := by
      rw [hdB, if_neg (by omega)]
      simp [bt, hs]
    have h2 := (blk_set2 hh (.string (s.extract 1 s.size))).1
    rw [hb]
    go_enter Tryz.func144, Tryz.ntmps144
    go_wp2
    go_ret
    exact ⟨rfl, h2, But.set w 0 _⟩
  · have hs0 : s.size = 0 := by omega
    have he := toList_empty hs0
    have hb : hdB s = 0 := by rw [hdB, if_pos hs0]
    have ht : tlB s = s := by
      have : s = ⟨#[]⟩ := by
        cases s with
        | mk d => congr 1; exact Array.eq_empty_of_size_eq_zero hs0
      subst this
      rfl
    rw [hb, ht]
    go_enter Tryz.func144, Tryz.ntmps144
    go_wp2
    go_ret
    exact ⟨rfl, hh, But.refl g w⟩
/-- want: the next byte must be c -/
theorem reader_want (g : Nat) (s : ByteArray) (n c : Int) (w : World) (hh : w.heap[g]? = some (rdCells s n)) :
    Calls Tryz.prog 145 #[.pointer (some ⟨g, 0, none⟩), .int .u8 c] w fun e w' => e = (if hdB s = c then .returned (.tuple #[]) else troubled 4) ∧ w'.heap[g]? = some (rdCells (tlB s) n) ∧ But g w w' := by
  by_cases hc : hdB s = c
  · rw [if_pos hc]
    have hb : (hdB s == c) = true := beq_iff_eq.2 hc
    go_enter Tryz.func145, Tryz.ntmps145
    go_wp2_with (first | (go_at_call 144; refine (reader_next g s n _ hh).mono ?_; rintro e w' ⟨rfl, h1, h2⟩) | (go_at_call 67; refine (demand_ok 4 _).mono ?_; rintro e w' ⟨rfl, rfl⟩))
    simp [bodyPost, results, Tryz.results145]
    exact ⟨h1, h2⟩
  · rw [if_neg hc]
    have hb : (hdB s == c) = false := beq_eq_false_iff_ne.2 hc
    go_enter Tryz.func145, Tryz.ntmps145
    go_wp2_with (first | (go_at_call 144; refine (reader_next g s n _ hh).mono ?_; rintro e w' ⟨rfl, h1, h2⟩) | (go_at_call 67; refine (demand_no 4 _).mono ?_; rintro e w' ⟨rfl, rfl⟩))
    simp [bodyPost, results, Tryz.results145]
    exact ⟨h1, h2⟩
end Go.Proofs.YtaafeallcaiooaaGreat.Pr
