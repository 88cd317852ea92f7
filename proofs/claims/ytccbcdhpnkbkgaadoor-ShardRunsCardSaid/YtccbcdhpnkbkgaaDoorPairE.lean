/-
  Pairs: the document's walks.
-/
import Derived.Test.YtccbcdhpnkbkgaaDoorGL
import Derived.Test.YtccbcdhpnkbkgaaDoorGK
set_option linter.unusedVariables false
set_option linter.unusedSimpArgs false
namespace Go.Proofs.YtccbcdhpnkbkgaaDoor
open Go Go.RowKit
set_option linter.unusedVariables false
set_option linter.unusedSimpArgs false
open Classical


noncomputable def pbx (ps : List PR) (k : List UInt8) : List PR := ps.filter fun p => decide (p.key ≠ k)
end Go.Proofs.YtccbcdhpnkbkgaaDoor
