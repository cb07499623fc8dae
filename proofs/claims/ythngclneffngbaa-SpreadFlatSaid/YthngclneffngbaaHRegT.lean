import Derived.Test.YthngclneffngbaaHSh2
import Derived.RangeFuncCalls
import Derived.RangeFuncLeaves
import Derived.Shelf.RegionOpen
import Derived.OwnWalkIn
import Derived.TacticsInMore
namespace Go.Proofs.Ythngclneffngbaa.Pr
open Go Go.RowKit
/-- which of n operations are done: the bits of b -/
def tfA (n b : Nat) : Array Bool := ((List.range n).map (fun i => b.testBit i)).toArray
section
variable {F : Fence} {n : Nat} {P : Program} {md : Region.Mode} {ops : Array Oper} {Q : Exit → Act → World → Prop}
theorem tkIn (i d : Nat) (oi : Oper) {v : Value} {fuel : Nat} {listed : Array Bool} {a a' : Act} {w : World} (l' : Array Bool) (hQ : ∀ c a d v w, Q (.panic c) (Act.put a (some d) v) w → Q (.panic c) a w)
    (hv : ∀ w, (execOp a.eval oi).run P w = .ok (.value v) w) (ha : a.put (some d) v = a')
    (h : wpAnyIn F n P md ops Q fuel l' a' w) (hro : F.round = none := by rfl) (hi : ops[i]? = some oi := by rfl) (hN : oi.dst = some d := by rfl)
    (hs : Region.noSelect ops = true := by kernel_rfl) (hf : Region.free md ops listed i = true := by kernel_rfl) (hr : (Region.ready md ops listed).contains i = true := by kernel_rfl) (hl : listed.setIfInBounds i true = l' := by kernel_rfl)
    (hw : Region.wanted oi (yielded ops a.tmps) = true := by rfl) (hab : ∀ w, oi.about P w a.eval = none := by exact fun _ => rfl) : wpAnyIn F n P md ops Q (fuel + 1) listed a w := by
  subst ha hl
  exact wpAnyIn_take hro hi hs hf hr (fun c a w h => hQ c a d v w (by rw [hN] at h; exact h)) ⟨Or.inl ⟨hw, hv⟩, hab⟩ (by rw [hN]; exact h)
theorem skIn (i d : Nat) (oi : Oper) {fuel : Nat} {listed : Array Bool} {a a' : Act} {w : World} (l' : Array Bool) (hQ : ∀ c a d v w, Q (.panic c) (Act.put a (some d) v) w → Q (.panic c) a w)
    (ha : a.put (some d) undef = a')
    (h : wpAnyIn F n P md ops Q fuel l' a' w) (hro : F.round = none := by rfl) (hi : ops[i]? = some oi := by rfl) (hN : oi.dst = some d := by rfl)
    (hs : Region.noSelect ops = true := by kernel_rfl) (hf : Region.free md ops listed i = true := by kernel_rfl) (hr : (Region.ready md ops listed).contains i = true := by kernel_rfl) (hl : listed.setIfInBounds i true = l' := by kernel_rfl)
    (hw : Region.wanted oi (yielded ops a.tmps) = false := by rfl) (hab : ∀ w, oi.about P w a.eval = none := by exact fun _ => rfl) : wpAnyIn F n P md ops Q (fuel + 1) listed a w := by
  subst ha hl
  exact wpAnyIn_take hro hi hs hf hr (fun c a w h => hQ c a d undef w (by rw [hN] at h; exact h)) ⟨Or.inr ⟨hw, rfl⟩, hab⟩ (by rw [hN]; exact h)
theorem putIn {a a' a2 : Act} {d : Nat} {v : Value} (h : a.put (some d) v = a2) (e : a2 = a') : a.put (some d) v = a' := h.trans e
theorem rdIn {fuel : Nat} {l l' : Array Bool} {a : Act} {w : World} (hl : l = l') (h : wpAnyIn F n P md ops Q fuel l' a w) : wpAnyIn F n P md ops Q fuel l a w := hl ▸ h
end
end Go.Proofs.Ythngclneffngbaa.Pr
