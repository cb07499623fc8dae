import Derived.Test.YtaafeallcaiooaaGreatPr0
import Derived.ProofKit
import Derived.OpenShut
import Derived.ChangeOld
import Derived.SizedLaws
import Derived.Deep.Slices
namespace Go.Proofs.YtaafeallcaiooaaGreat.Pr
open Go.ChangeShapes Go.WideShapes Go.ChangeAt Go.RowKit Go.Proofs.Zw Go.Proofs.Zl Go.Proofs.Zm
set_option linter.unusedVariables false
set_option linter.unusedSimpArgs false
def Opens {α:Type} (P:Program) (t:TypeId) (k:Kd α) (wf:α→Prop):Prop :=
  ∀ (H:Type) (enc:TypeId × Value→H) (w:World) (base:Nat) (spare:Nat→Bool) (held:Bool) (fuel:Nat) (cs:List Value) (x:DataW H × List MemPlace),
    DataW.trod enc P w base spare held fuel t cs=some x→∃ a,k.K w a cs∧wf a
section
variable {P:Program} {t e:TypeId}
theorem opens_string (ht:P.underlying t=some .string):Opens P t Kd.string (fun s=>s.size≤maxLen):=by
  intro H enc w base spare held fuel cs x h
  obtain ⟨s,rfl,_,hw⟩:=DataW.trod_string ht h
  exact ⟨s,rfl,hw⟩
theorem addr_add (a:Addr) (x y:Nat):(a.add x).add y=a.add (x+y):=by
  unfold Addr.add
  by_cases hx:x=0<;>by_cases hy:y=0<;>simp_all [Nat.add_assoc]
theorem list_of {β:Type} (n:Nat) (Q:Nat→β→Prop) (h:∀ i,i < n→∃ p,Q i p):∃ xs:List β,xs.length=n∧∀ (i:Nat) (p:β),xs[i]?=some p→Q i p:=by
  induction n with
  | zero=>exact ⟨[],rfl,fun i p h=>by simp at h⟩
  | succ n ih =>
    obtain ⟨xs,h1,h2⟩:=ih (fun i hi=>h i (by omega))
    obtain ⟨q,hq⟩:=h n (by omega)
    refine ⟨xs++[q],by simp [h1],fun i p hp=>?_⟩
    rw [List.getElem?_append] at hp
    split at hp
    · exact h2 i p hp
    · rename_i hlt
      rw [List.getElem?_singleton] at hp
      split at hp
      · injection hp with e
        subst e
        rw [show i=n by omega]
        exact hq
      · cases hp
theorem opens_slice {α:Type} {k:Kd α} {wf:α→Prop} (ht:P.underlying t=some (.slice e)) (he:Opens P e k wf) (hsz:P.cellsOf e=k.sz) :
    Opens P t (Kd.slice e k) (fun xs=>xs.length≤maxLen∧∀ x∈xs,wf x):=by
  intro H enc w base spare held fuel cs x h
  rcases DataW.trod_slice ht h with ⟨rfl,rfl⟩|⟨a,len,cap,elems,rest,n,_,rfl,rfl,hb,hl,hm,hlen,hel,_,_⟩
  · exact ⟨[],⟨none,0,rfl,Nat.le_refl _,Kd.C_nil _ _⟩,by simp,by simp⟩
  · have hi:∀ i,i < len→∃ p:α × List Value,(p.2.length=k.sz∧∀ j u,p.2[j]?=some u→w.cell? (a.add (i * k.sz+j))=some u)∧k.K w p.1 p.2∧wf p.1:=by
      intro i hi
      have h1:=hel i hi
      rw [List.getElem?_eq_getElem (by omega)] at h1
      obtain ⟨c,hc,ht⟩:=Option.bind_eq_some_iff.1 h1
      obtain ⟨y,y1,y2⟩:=he _ _ _ _ _ _ _ _ _ ht
      obtain ⟨_,hcl,hcell⟩:=World.cells?_some hc
      rw [hsz] at hcl hcell
      refine ⟨(y,c),⟨hcl,?_⟩,y1,y2⟩
      intro j u hu
      have hj:j < k.sz:=by rw [←hcl];exact (List.getElem?_eq_some_iff.1 hu).1
      have h2:=hcell j hj
      rw [hu] at h2
      rw [←h2,addr_add]
    obtain ⟨xs,h1,h2⟩:=list_of len _ hi
    refine ⟨xs.map (·.1),⟨some a,cap,by simp [h1],by simp;omega,?_⟩,by simp;omega,?_⟩
    · refine ⟨rfl,by simp [h1];simp [maxLen] at hm;omega,fun _=>⟨a,rfl,?_⟩⟩
      intro j p hp
      rw [List.getElem?_map] at hp
      obtain ⟨q,hq,rfl⟩:=Option.map_eq_some_iff.1 hp
      obtain ⟨⟨q1,q2⟩,q3,q4⟩:=h2 j q hq
      exact ⟨q.2,q1,q3,fun i u hu=>q2 i u hu⟩
    · intro y hy
      obtain ⟨q,hq,rfl⟩:=List.mem_map.1 hy
      obtain ⟨j,hj⟩:=List.mem_iff_getElem?.1 hq
      exact (h2 j q hj).2.2
theorem sized_any {H:Type} {enc:TypeId × Value→H} {W:World} {base:Nat} {spare:Nat→Bool} {held:Bool} {a:Option Addr} {len cap:Nat} {d:DataW H} {ps:List MemPlace} {ts:List TypeId} {ds:List (DataW H)} {j:Nat}
    (hsz:(DataW.weightsEach P ts ds).all (·≤reachBytes)=true) (ht:ts[j]?=some t) (hd:ds[j]?=some d) (hu:P.underlying t=some (.slice e)) {B:Nat} (hB:P.bytesOf e=B)
    (h:DataW.Trod enc P W base spare held t (.slice a len cap) d ps):len * B≤140737488351232:=by
  obtain ⟨fuel,hf⟩:=h
  rcases DataW.trod_slice hu hf with ⟨hcs,_⟩|⟨x,l,c,elems,rest,n,_,hcs,hx,_,hl,hm,hlen,_⟩
  · simp [Value.cells] at hcs
    obtain ⟨rfl,rfl,rfl⟩:=hcs
    simp
  · simp [Value.cells] at hcs
    obtain ⟨rfl,rfl,rfl⟩:=hcs
    obtain ⟨hx,_⟩:=Prod.mk.inj hx
    subst hx
    have z:=sized_slice hsz ht hd hu
    rw [hB] at z
    simp only [List.length_map,hlen] at z
    exact Nat.le_trans (Nat.mul_le_mul_right _ (Nat.le_add_right _ _)) z
end
end Go.Proofs.YtaafeallcaiooaaGreat.Pr
