/-
  TreeRoads: where a key's road ends, and its sides.
-/
import Derived.Test.YtnoihibaoalkaaaDoorTreL
import Derived.Test.YtnoihibaoalkaaaDoorGN
import Derived.Test.YtnoihibaoalkaaaDoorGK
set_option linter.unusedVariables false
set_option linter.unusedSimpArgs false
namespace Go.Proofs.YtnoihibaoalkaaaDoor
open Go Go.RowKit
set_option linter.unusedVariables false
set_option linter.unusedSimpArgs false
open Classical

end Go.Proofs.YtnoihibaoalkaaaDoor
