import Derived.Test.YtpeeflkodpnbpaaDoorRows
import Derived.Test.YtpeeflkodpnbpaaDoorHEarl
import Derived.ProofKit
import Derived.LaidMore
import Derived.OpenShut
import Derived.Stop.Joined
import Derived.ChangeSame
namespace Go.Proofs.YtpeeflkodpnbpaaDoor.Pr
open Go.ChangeShapes Go.WideShapes Go.ChangeAt Go.WideMaps Go.WideElems Go.RowKit

def laid9 : List (String × DataW Unit) := [("numnah/parse.single", Rows.laid_numnah_parse_single)]
theorem gSingle : Tryd.prog.globalNamed "numnah/parse.single" = some 0 := by kernel_rfl
theorem tSingle : (Tryd.prog.globals[0]?).map (·.type) = some 63 := by kernel_rfl
/-- The door's own heap meets the condition. -/
theorem door_met (os : Os) (args : Array Value) : laidMetH Tryd.prog laid9 ((World.doorLaid Tryd.prog 400 os).forCall (fun _ _ => 0) ⟨#[], args, []⟩).memory :=
  laidMetH_of_parts3 (fuel := 8) (laidMet_of_run' 8 (by kernel_rfl) (by kernel_rfl)) (by kernel_rfl) (by kernel_rfl)
set_option maxRecDepth 100000 in
theorem of_laid {W : World} (h : laidMetH Tryd.prog laid9 W) : GW W := by
  rw [MakeChecks.laidMetH_plain _ _ _ (by kernel_rfl)] at h
  obtain ⟨ps, ⟨g0, t0, cs0, f0, p0, q0, hg0, ht0, hv0, hd0, _, _⟩, _, _⟩ := h
  obtain rfl := Option.some.inj (gSingle.symm.trans hg0)
  obtain rfl := Option.some.inj (tSingle.symm.trans ht0)
  have c3 : Tryd.prog.cellsOf 3 = 1 := by kernel_rfl
  have c63 : Tryd.prog.cellsOf 63 = 2 := by kernel_rfl
  obtain ⟨y0, y1, n, hx, hlen, h0, h1⟩ := ChangeShapes.trod_struct2 Tryd.underlying63 hd0
  obtain ⟨a, e0, rfl, _⟩ := DataW.trod_int Tryd.underlying3 h0
  obtain ⟨b, e1, rfl, _⟩ := DataW.trod_int Tryd.underlying3 h1
  simp only [Rows.laid_numnah_parse_single, Prod.mk.injEq, DataW.agg.injEq, List.cons.injEq, DataW.lit.injEq, Lit.int.injEq] at hx
  obtain ⟨⟨⟨_, rfl⟩, ⟨_, rfl⟩, _⟩, _⟩ := hx
  rw [c63] at hlen
  rw [c3] at e0 e1
  obtain ⟨l⟩ := cs0
  match l, hlen with
  | [x, y], _ =>
    simp at e0 e1
    subst e0 e1
    have q0 := World.var?_cell hg0 hv0 0
    have q1 := World.var?_cell hg0 hv0 1
    refine ⟨?_, by simpa using q0, by simpa using q1⟩
    have z : W.cell? ⟨0, 0, none⟩ = some (.int .i64 (-1)) := by simpa using q0
    apply Nat.pos_of_ne_zero
    intro hz
    have : W.heap[0]? = none := Array.getElem?_eq_none (by omega)
    simp [World.cell?, this] at z
end Go.Proofs.YtpeeflkodpnbpaaDoor.Pr
