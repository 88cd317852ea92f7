/-
  Pools, the document's: a pool with another shard at a place; what is put, what is submitted. Pools, the document's: what is drawn, what goes back.
-/
import Derived.Test.YtcpndfffdbogbaaGreatDoorGPA
import Derived.Test.YtcpndfffdbogbaaGreatDoorGZB
import Derived.Test.YtcpndfffdbogbaaGreatDoorG8
set_option linter.unusedVariables false
set_option linter.unusedSimpArgs false
namespace Go.Proofs.YtcpndfffdbogbaaGreatDoor
open Go Go.RowKit
set_option linter.unusedVariables false
set_option linter.unusedSimpArgs false
set_option linter.unusedSectionVars false
open Classical

end Go.Proofs.YtcpndfffdbogbaaGreatDoor
namespace Go.Proofs.YtcpndfffdbogbaaGreatDoor
open Go Go.RowKit
set_option linter.unusedVariables false
set_option linter.unusedSimpArgs false
set_option linter.unusedSectionVars false
open Classical

end Go.Proofs.YtcpndfffdbogbaaGreatDoor
