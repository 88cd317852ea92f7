/-
  The document's numbers and digests at a place.
-/
import Derived.Test.YtbgokghmedmhaaaDoorWirQ
import Derived.Test.YtbgokghmedmhaaaDoorVIfc
import Derived.Test.YtbgokghmedmhaaaDoorGC
import Derived.Test.YtbgokghmedmhaaaDoorGK
set_option linter.unusedVariables false
set_option linter.unusedSimpArgs false
namespace Go.Proofs.YtbgokghmedmhaaaDoor
open Go Go.RowKit
set_option linter.unusedVariables false
set_option linter.unusedSimpArgs false
open Classical

/-- A digest, so far. -/
def dgj (b : List UInt8) (i j : Nat) : List UInt8 := (b.drop i).take j ++ List.replicate (32 - ((b.drop i).take j).length) 0
end Go.Proofs.YtbgokghmedmhaaaDoor
