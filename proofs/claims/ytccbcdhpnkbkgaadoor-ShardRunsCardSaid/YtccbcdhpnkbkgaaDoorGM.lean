/-
  Maps: what was put is got, and dropped again; two ways to one map.
-/
import Derived.Test.YtccbcdhpnkbkgaaDoorGL
set_option linter.unusedVariables false
set_option linter.unusedSimpArgs false
namespace Go.Proofs.YtccbcdhpnkbkgaaDoor
open Go Go.RowKit
set_option linter.unusedVariables false
set_option linter.unusedSimpArgs false
open Classical

section
variable {l : List KV} {k v o : List UInt8}
end

/-- A key of a first byte. -/
def dk (c : UInt8) : List UInt8 := c :: List.replicate 31 0
end Go.Proofs.YtccbcdhpnkbkgaaDoor
