/-
  What a writer of parts has written, the reader reads.
-/
import Derived.Test.YtmaimkbppnpbnaaDoorGF
import Derived.Test.YtmaimkbppnpbnaaDoorGC
set_option linter.unusedVariables false
set_option linter.unusedSimpArgs false
namespace Go.Proofs.YtmaimkbppnpbnaaDoor
open Go Go.RowKit
set_option linter.unusedVariables false
set_option linter.unusedSimpArgs false

end Go.Proofs.YtmaimkbppnpbnaaDoor
