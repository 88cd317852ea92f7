/-
  A request's bytes and reading, by the document.
-/
import Derived.Test.YtgffejpcldeklaaGHC
set_option linter.unusedVariables false
set_option linter.unusedSimpArgs false
set_option linter.unusedSectionVars false

namespace Go.Proofs.Ytgffejpcldeklaa
open Go Go.RowKit
open Classical

end Go.Proofs.Ytgffejpcldeklaa
