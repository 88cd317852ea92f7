/-
  A tree without a key: the program's.
-/
import Derived.Test.YtmaimkbppnpbnaaDoorTPtC
import Derived.Test.YtmaimkbppnpbnaaDoorTGtA
set_option linter.unusedVariables false
set_option linter.unusedSimpArgs false
namespace Go.Proofs.YtmaimkbppnpbnaaDoor
open Go Go.RowKit
set_option linter.unusedVariables false
set_option linter.unusedSimpArgs false
open Classical

noncomputable def tdropE (ns : List Nd) (r : Int) (k : List UInt8) : Int := if MayP ns r then (if has (forP ns r.toNat) k = true then (if 261844 < ns.length then 9 else 0) else 6) else 8
end Go.Proofs.YtmaimkbppnpbnaaDoor
