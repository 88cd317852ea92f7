/-
  Requests: their bytes, by the document.
-/
import Derived.Test.YtbgokghmedmhaaaDoorWirA
set_option linter.unusedVariables false
set_option linter.unusedSimpArgs false
namespace Go.Proofs.YtbgokghmedmhaaaDoor
open Go Go.RowKit
set_option linter.unusedVariables false
set_option linter.unusedSimpArgs false
open Classical

end Go.Proofs.YtbgokghmedmhaaaDoor
