/-
  Requests: what is read by parts is what the document reads.
-/
import Derived.Test.YtgffejpcldeklaaWirP
set_option linter.unusedVariables false
set_option linter.unusedSimpArgs false
set_option linter.unusedSectionVars false

namespace Go.Proofs.Ytgffejpcldeklaa
open Go Go.RowKit
open Classical

end Go.Proofs.Ytgffejpcldeklaa
