/-
  Transactions of bytes: the document's walk.
-/
import Derived.Test.YtbgokghmedmhaaaDoorTxG
import Derived.Test.YtbgokghmedmhaaaDoorGC
set_option linter.unusedVariables false
set_option linter.unusedSimpArgs false
namespace Go.Proofs.YtbgokghmedmhaaaDoor
open Go Go.RowKit
set_option linter.unusedVariables false
set_option linter.unusedSimpArgs false

end Go.Proofs.YtbgokghmedmhaaaDoor
