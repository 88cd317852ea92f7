/-
  Pairs: the document's walks.
-/
import Derived.Test.YtmaimkbppnpbnaaDoorGL
import Derived.Test.YtmaimkbppnpbnaaDoorGK
set_option linter.unusedVariables false
set_option linter.unusedSimpArgs false
namespace Go.Proofs.YtmaimkbppnpbnaaDoor
open Go Go.RowKit
set_option linter.unusedVariables false
set_option linter.unusedSimpArgs false
open Classical

/-- The place of a key, by going through all. -/
noncomputable def findI (l : List KV) (k : List UInt8) : Int := if has l k = true then ((lowF l k).length : Int) else -1
noncomputable def pbx (ps : List PR) (k : List UInt8) : List PR := ps.filter fun p => decide (p.key ≠ k)
end Go.Proofs.YtmaimkbppnpbnaaDoor
