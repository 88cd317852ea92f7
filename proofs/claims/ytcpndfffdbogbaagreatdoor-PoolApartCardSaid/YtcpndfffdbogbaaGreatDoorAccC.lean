/-
  Accounts: the document's reading, whether pairs are all accounts, whether a tree is a state, a key's account among pairs.
-/
import Derived.Test.YtcpndfffdbogbaaGreatDoorGP
import Derived.Test.YtcpndfffdbogbaaGreatDoorPairE
import Derived.Test.YtcpndfffdbogbaaGreatDoorG7
set_option linter.unusedVariables false
set_option linter.unusedSimpArgs false
namespace Go.Proofs.YtcpndfffdbogbaaGreatDoor
open Go Go.RowKit
set_option linter.unusedVariables false
set_option linter.unusedSimpArgs false
open Classical

end Go.Proofs.YtcpndfffdbogbaaGreatDoor
