/-
  A request's bytes and reading, by the document.
-/
import Derived.Test.YtbgokghmedmhaaaDoorWirB
import Derived.Test.YtbgokghmedmhaaaDoorWirC
set_option linter.unusedVariables false
set_option linter.unusedSimpArgs false
namespace Go.Proofs.YtbgokghmedmhaaaDoor
open Go Go.RowKit
set_option linter.unusedVariables false
set_option linter.unusedSimpArgs false
open Classical

end Go.Proofs.YtbgokghmedmhaaaDoor
