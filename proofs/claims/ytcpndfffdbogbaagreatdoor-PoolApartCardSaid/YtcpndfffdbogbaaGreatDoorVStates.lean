/-
  Regions whose effects may come in many orders: by what has come up. Digests of a first byte.
-/
import Derived.Test.YtcpndfffdbogbaaGreatDoorGC
set_option linter.unusedVariables false
set_option linter.unusedSimpArgs false
namespace Go.Proofs.YtcpndfffdbogbaaGreatDoor
open Go Go.RowKit
set_option linter.unusedVariables false
set_option linter.unusedSimpArgs false

section
variable {P : Program} {ro : Option Nat} {w0 : World} {n : Nat} {ds : List Deferred} {fr fr' : Fr} {L L' Lf : List Asn} {Q : Exit → List Deferred → Fr → List Asn → Prop} {ops : Array Oper} {fuel : Nat} {listed listed' : List Bool} {E : List Nat}
end
section
variable {P : Program} {w0 : World} {n : Nat} {ds : List Deferred} {fr : Fr} {L : List Asn} {dst : Option Nat} {ty : TypeId} {pos : String} {after : Array Edge} {gd : Option (Nat × Bool)}
def dig1 (c : UInt8) : List UInt8 := c :: List.replicate 31 0
theorem vq_arrD {t e : TypeId} {agg : Bool} {size bytes m esize ebytes : Nat} {z ez cs : List Value} {parts : Array (Nat × Operand)} [ht : TyI P t true size bytes z] [hf : ArI P t e m agg esize ebytes ez] {vs : List (Nat × List Value)} (hv : evP fr parts.toList = some vs) (hok : ∀ p ∈ vs, okS ((List.range m).map fun i => (i * esize, esize)) size p) (hcs : fillS ((List.range m).map fun i => (i * esize, esize)) z vs = cs) : VQ P w0 n ⟨dst, .build t parts, ty, pos, after, gd⟩ (.agg cs.toArray) ds fr L :=
  vq_val (fun a w hk hs => run_buildArr t parts rfl ht hf vs (hk.partsP _ _ hv) hok cs hcs)
end
end Go.Proofs.YtcpndfffdbogbaaGreatDoor
