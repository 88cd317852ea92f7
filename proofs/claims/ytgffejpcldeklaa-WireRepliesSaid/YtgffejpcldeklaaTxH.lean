/-
  Transactions of bytes: the program's walk.
-/
import Derived.Test.YtgffejpcldeklaaTxG
import Derived.Test.YtgffejpcldeklaaGC
set_option linter.unusedVariables false
set_option linter.unusedSimpArgs false
set_option linter.unusedSectionVars false

namespace Go.Proofs.Ytgffejpcldeklaa
open Go Go.RowKit

end Go.Proofs.Ytgffejpcldeklaa
