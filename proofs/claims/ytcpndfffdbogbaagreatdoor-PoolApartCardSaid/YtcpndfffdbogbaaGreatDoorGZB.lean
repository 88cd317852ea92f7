/-
  Shards: what is drawn, what goes back (the document's). Shards: what goes back (the document's).
-/
import Derived.Test.YtcpndfffdbogbaaGreatDoorAccC
import Derived.Test.YtcpndfffdbogbaaGreatDoorGU
import Derived.Test.YtcpndfffdbogbaaGreatDoorG8
import Derived.Test.YtcpndfffdbogbaaGreatDoorGY
import Derived.Test.YtcpndfffdbogbaaGreatDoorGZC
set_option linter.unusedVariables false
set_option linter.unusedSimpArgs false
namespace Go.Proofs.YtcpndfffdbogbaaGreatDoor
open Go Go.RowKit
set_option linter.unusedVariables false
set_option linter.unusedSimpArgs false
set_option linter.unusedSectionVars false
open Classical

end Go.Proofs.YtcpndfffdbogbaaGreatDoor
namespace Go.Proofs.YtcpndfffdbogbaaGreatDoor
open Go Go.RowKit
set_option linter.unusedVariables false
set_option linter.unusedSimpArgs false
set_option linter.unusedSectionVars false
open Classical

end Go.Proofs.YtcpndfffdbogbaaGreatDoor
