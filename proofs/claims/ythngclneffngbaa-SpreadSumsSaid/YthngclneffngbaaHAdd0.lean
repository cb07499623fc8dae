import Derived.Test.YthngclneffngbaaHDev
import Derived.Test.YthngclneffngbaaHMap
import Derived.Test.YthngclneffngbaaHS
import Derived.Test.YthngclneffngbaaPrEq1
import Derived.Carry
namespace Go.Proofs.Ythngclneffngbaa.Pr
open Go.RowKit Go.Proofs.YthngclneffngbaaW.PrintWords Go.Proofs.YthngclneffngbaaW.PrintLast Go.Proofs.YthngclneffngbaaW.PrintMore
set_option linter.unusedVariables false
set_option linter.unusedSimpArgs false

/-- a fraction as a value -/
def fr (p : Int × Int) : Value := .agg #[.int .i64 p.1, .int .i64 p.2]
theorem checkInt (em : Bool) (n : Nat) (v : Int) (w : World) {t : TypeId} {k : IntKind} (ht : Try.prog.underlying t = some (.int k)) : (Instr.checkKey em (n + 1) t (.int .i64 v)).run Try.prog w = .ok () w := by
  simp [Instr.checkKey, Sem.run_bind, run_underlying ht]
theorem eq26 (a b : Int × Int) (w : World) : (Op.equal 26 (fr a) (fr b)).run Try.prog w = .ok (decide (a = b)) w := by
  have h := eqA26 9998 w a.1 b.1 a.2 b.2
  have e : (a.1 == b.1 && a.2 == b.2) = decide (a = b) := by
    rw [Bool.eq_iff_iff]
    simp [Prod.ext_iff]
  rw [e] at h
  unfold Op.equal
  exact h
theorem check26 (em : Bool) (a : Int × Int) (w : World) : (Instr.checkKey em (9998 + 2) 26 (fr a)).run Try.prog w = .ok () w := by
  rw [Instr.checkKey, fr]
  simp only [Sem.run_bind, run_underlying Try.underlying26, Result.andThen_ok]
  have p0 : ∀ w, (part 3 #[Value.int IntKind.i64 a.fst, Value.int IntKind.i64 a.snd] 0).run Try.prog w = .ok (.int .i64 a.1) w := by intro w; go_simp
  have p1 : ∀ w, (part 3 #[Value.int IntKind.i64 a.fst, Value.int IntKind.i64 a.snd] 1).run Try.prog w = .ok (.int .i64 a.2) w := by intro w; go_simp
  simp [p0, p1, checkInt em 9998 _ _ Try.underlying3]
theorem keyd26 : Keyd (α := Int × Int) Try.prog 26 fr := by
  refine keyd_of_asking Try.underlying26 (fun a v => by cases v <;> rfl) eq26 (fun a em w => check26 em a w) ?_
  intro a
  simp [fr, Instr.sameBits]
def smallB (n d : Int) : Bool := decide ((1 ≤ d ∧ d ≤ 1000000000) ∧ (-1000000000 ≤ n ∧ n ≤ 1000000000) ∧ Int.gcd n d = 1)
theorem isFrac_ev (n d : Int) : Evt (fun k => spread_isFrac.f k n d 1000000000) (smallB n d) := by
  unfold spread_isFrac.f smallB
  simp only [within_eq, Option.bind_some]
  by_cases h1 : 1 ≤ d ∧ d ≤ 1000000000
  · simp only [decide_eq_true h1, if_true]
    rw [wr (x := -1000000000) (by omega) (by omega)]
    by_cases h2 : -1000000000 ≤ n ∧ n ≤ 1000000000
    · simp only [decide_eq_true h2, if_true]
      have ha : spread_abs.f n = some (n.natAbs : Int) := by
        unfold spread_abs.f mx
        rw [wr (by omega) (by omega)]
        split <;> congr 1 <;> omega
      have hg := gcd_ev d.toNat n.natAbs d (by omega) (by omega) (Nat.le_refl _)
      have e : Int.gcd (n.natAbs : Int) d = Int.gcd n d := by simp [Int.gcd]
      rw [e] at hg
      rw [ha]
      simp only [Option.bind_some]
      refine Evt.bind hg (Evt.all fun k => ?_)
      congr 1
      rw [Bool.eq_iff_iff]
      simp [h1, h2]
      omega
    · simp only [decide_eq_false h2]
      refine Evt.all fun k => ?_
      simp [h2]
  · simp only [decide_eq_false h1]
    refine Evt.all fun k => ?_
    simp [h1]
theorem isFrac_any (n d : Int) (w : World) : Calls Try.prog 65 #[fr (n, d), .int .i64 1000000000] w fun e w' => e = .returned (.bool (smallB n d)) ∧ Below w.heap.size w w' := by
  obtain ⟨k, hk⟩ := (isFrac_ev n d).ex
  exact spread_isFrac.calls k n d 1000000000 _ w hk
end Go.Proofs.Ythngclneffngbaa.Pr
