/-
  Pairs: the document's walks.
-/
import Derived.Test.YtcpndfffdbogbaaGreatDoorGL
import Derived.Test.YtcpndfffdbogbaaGreatDoorGK
set_option linter.unusedVariables false
set_option linter.unusedSimpArgs false
namespace Go.Proofs.YtcpndfffdbogbaaGreatDoor
open Go Go.RowKit
set_option linter.unusedVariables false
set_option linter.unusedSimpArgs false
open Classical

end Go.Proofs.YtcpndfffdbogbaaGreatDoor
