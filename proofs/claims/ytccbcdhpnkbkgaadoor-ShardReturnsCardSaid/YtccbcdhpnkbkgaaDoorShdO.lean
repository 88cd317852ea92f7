/-
  A shard that is drawn (the program's).
-/
import Derived.Test.YtccbcdhpnkbkgaaDoorShdH
import Derived.Test.YtccbcdhpnkbkgaaDoorShdJ
import Derived.Test.YtccbcdhpnkbkgaaDoorGS
import Derived.Test.YtccbcdhpnkbkgaaDoorGP
import Derived.Test.YtccbcdhpnkbkgaaDoorGY
set_option linter.unusedVariables false
set_option linter.unusedSimpArgs false
namespace Go.Proofs.YtccbcdhpnkbkgaaDoor
open Go Go.RowKit
set_option linter.unusedVariables false
set_option linter.unusedSimpArgs false
set_option linter.unusedSectionVars false
open Classical

section
variable {P : Program} {w0 : World} {n : Nat} {ds : List Deferred} {fr : Fr} {L : List Asn} {dst : Option Nat} {ty : TypeId} {pos : String} {after : Array Edge} {gd : Option (Nat × Bool)}
end
/-- What is drawn of a shard, by a tree. -/
noncomputable def nonceA (ns : List Nd) (r : Int) (k : List UInt8) : Nat := (accG ns r k).1
noncomputable def drawQ (cs : List LC) (ns : List Nd) (r : Int) (room : Int) : List LC × List Tx × Int := if MayC cs ∧ StP ns r then ((drawC (nonceA ns r) room cs).1, (drawC (nonceA ns r) room cs).2, 0) else ([], [], 8)
end Go.Proofs.YtccbcdhpnkbkgaaDoor
