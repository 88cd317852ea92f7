/-
  What is drawn of a shard and what goes back to it: the law.
-/
import Derived.Test.YtcpndfffdbogbaaGreatDoorGZB
import Derived.Test.YtcpndfffdbogbaaGreatDoorG8
import Derived.Test.YtcpndfffdbogbaaGreatDoorGZA
import Derived.Test.YtcpndfffdbogbaaGreatDoorTC
set_option linter.unusedVariables false
set_option linter.unusedSimpArgs false
namespace Go.Proofs.YtcpndfffdbogbaaGreatDoor
open Go Go.RowKit
set_option linter.unusedVariables false
set_option linter.unusedSimpArgs false
set_option linter.unusedSectionVars false
open Classical

end Go.Proofs.YtcpndfffdbogbaaGreatDoor
