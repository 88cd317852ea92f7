/-
  What is told of a tree by a proof: plain laws.
-/
import Derived.Test.YtmaimkbppnpbnaaDoorTE
import Derived.Test.YtmaimkbppnpbnaaDoorGV
set_option linter.unusedVariables false
set_option linter.unusedSimpArgs false
namespace Go.Proofs.YtmaimkbppnpbnaaDoor
open Go Go.RowKit
set_option linter.unusedVariables false
set_option linter.unusedSimpArgs false
open Classical

/-- What is told of a tree that may be. -/
structure MadeR (ns : List Nd) (r : Int) (k : List UInt8) (p : Prf) : Prop where
  may : p.may = true
  root : p.root = sumP ns r.toNat
  key : p.key = k
  told : p.kind = 1 ↔ has (forP ns r.toNat) k = true
  v : p.kind = 1 → p.vl = getF (forP ns r.toNat) k
end Go.Proofs.YtmaimkbppnpbnaaDoor
