/-
  A tree written over.
-/
import Derived.Test.YtnoihibaoalkaaaDoorTC
import Derived.Test.YtnoihibaoalkaaaDoorGK
import Derived.Test.YtnoihibaoalkaaaDoorGF
set_option linter.unusedVariables false
set_option linter.unusedSimpArgs false
namespace Go.Proofs.YtnoihibaoalkaaaDoor
open Go Go.RowKit
set_option linter.unusedVariables false
set_option linter.unusedSimpArgs false
open Classical

end Go.Proofs.YtnoihibaoalkaaaDoor
