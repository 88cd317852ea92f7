/-
  What a writer of parts has written, the reader reads.
-/
import Derived.Test.YtcpcbgfnglnkcaaDoorGF
import Derived.Test.YtcpcbgfnglnkcaaDoorGC
set_option linter.unusedVariables false
set_option linter.unusedSimpArgs false
set_option linter.unusedSectionVars false

namespace Go.Proofs.YtcpcbgfnglnkcaaDoor
open Go Go.RowKit

end Go.Proofs.YtcpcbgfnglnkcaaDoor
