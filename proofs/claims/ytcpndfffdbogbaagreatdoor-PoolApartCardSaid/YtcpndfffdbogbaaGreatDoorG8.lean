/-
  Shards, the document's: a sender's line; a shard with a line in its place. Shards, the document's: the line whose last transaction goes; a shard with a transaction. Shards, the document's Submit; a shard's transactions are written over.
-/
import Derived.Test.YtcpndfffdbogbaaGreatDoorGU
import Derived.Test.YtcpndfffdbogbaaGreatDoorGZA
import Derived.Test.YtcpndfffdbogbaaGreatDoorGZ
set_option linter.unusedVariables false
set_option linter.unusedSimpArgs false
namespace Go.Proofs.YtcpndfffdbogbaaGreatDoor
open Go Go.RowKit
set_option linter.unusedVariables false
set_option linter.unusedSimpArgs false
set_option linter.unusedSectionVars false
open Classical

end Go.Proofs.YtcpndfffdbogbaaGreatDoor
namespace Go.Proofs.YtcpndfffdbogbaaGreatDoor
open Go Go.RowKit
set_option linter.unusedVariables false
set_option linter.unusedSimpArgs false
set_option linter.unusedSectionVars false
open Classical

end Go.Proofs.YtcpndfffdbogbaaGreatDoor
namespace Go.Proofs.YtcpndfffdbogbaaGreatDoor
open Go Go.RowKit
set_option linter.unusedVariables false
set_option linter.unusedSimpArgs false
set_option linter.unusedSectionVars false
open Classical

end Go.Proofs.YtcpndfffdbogbaaGreatDoor
