/-
  Whether a request may be: one kind of them.
-/
import Derived.Test.YtbgokghmedmhaaaDoorWirB0
set_option linter.unusedVariables false
set_option linter.unusedSimpArgs false
namespace Go.Proofs.YtbgokghmedmhaaaDoor
open Go Go.RowKit
set_option linter.unusedVariables false
set_option linter.unusedSimpArgs false
open Classical

end Go.Proofs.YtbgokghmedmhaaaDoor
