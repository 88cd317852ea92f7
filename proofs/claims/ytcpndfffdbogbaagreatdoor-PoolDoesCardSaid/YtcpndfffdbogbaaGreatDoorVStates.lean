/-
  Regions whose effects may come in many orders: by what has come up. Digests of a first byte.
-/
import Derived.Test.YtcpndfffdbogbaaGreatDoorGC
set_option linter.unusedVariables false
set_option linter.unusedSimpArgs false
set_option linter.unusedSectionVars false

namespace Go.Proofs.YtcpndfffdbogbaaGreatDoor
open Go Go.RowKit

section
variable {P : Program} {ro : Option Nat} {w0 : World} {n : Nat} {ds : List Deferred} {fr fr' : Fr} {L L' Lf : List Asn} {Q : Exit → List Deferred → Fr → List Asn → Prop} {ops : Array Oper} {fuel : Nat} {listed listed' : List Bool} {E : List Nat}
end
section
variable {P : Program} {w0 : World} {n : Nat} {ds : List Deferred} {fr : Fr} {L : List Asn} {dst : Option Nat} {ty : TypeId} {pos : String} {after : Array Edge} {gd : Option (Nat × Bool)}
def dig1 (c : UInt8) : List UInt8 := c :: List.replicate 31 0
end
end Go.Proofs.YtcpndfffdbogbaaGreatDoor
