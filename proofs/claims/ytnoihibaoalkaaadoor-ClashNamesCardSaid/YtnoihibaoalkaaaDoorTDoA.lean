/-
  Pairs of a tree, with a value for a key, without a key: the document's.
-/
import Derived.Test.YtnoihibaoalkaaaDoorTD
import Derived.Test.YtnoihibaoalkaaaDoorTPtD
import Derived.Test.YtnoihibaoalkaaaDoorTSpA
import Derived.Test.YtnoihibaoalkaaaDoorGM
set_option linter.unusedVariables false
set_option linter.unusedSimpArgs false
namespace Go.Proofs.YtnoihibaoalkaaaDoor
open Go Go.RowKit
set_option linter.unusedVariables false
set_option linter.unusedSimpArgs false
open Classical

end Go.Proofs.YtnoihibaoalkaaaDoor
