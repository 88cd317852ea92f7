/-
  VerifyMade: what is made fits.
-/
import Derived.Test.YtmaimkbppnpbnaaDoorTPrB
import Derived.Test.YtmaimkbppnpbnaaDoorGV
set_option linter.unusedVariables false
set_option linter.unusedSimpArgs false
namespace Go.Proofs.YtmaimkbppnpbnaaDoor
open Go Go.RowKit
set_option linter.unusedVariables false
set_option linter.unusedSimpArgs false
open Classical

noncomputable def sumT (ns : List Nd) (r : Int) : List UInt8 := if MayP ns r then sumP ns r.toNat else z32
end Go.Proofs.YtmaimkbppnpbnaaDoor
