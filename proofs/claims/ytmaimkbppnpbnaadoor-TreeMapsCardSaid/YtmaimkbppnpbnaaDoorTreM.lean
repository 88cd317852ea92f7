/-
  TreeRoads: where a key's road ends, and its sides.
-/
import Derived.Test.YtmaimkbppnpbnaaDoorTreL
import Derived.Test.YtmaimkbppnpbnaaDoorGN
import Derived.Test.YtmaimkbppnpbnaaDoorGK
set_option linter.unusedVariables false
set_option linter.unusedSimpArgs false
namespace Go.Proofs.YtmaimkbppnpbnaaDoor
open Go Go.RowKit
set_option linter.unusedVariables false
set_option linter.unusedSimpArgs false
open Classical

end Go.Proofs.YtmaimkbppnpbnaaDoor
