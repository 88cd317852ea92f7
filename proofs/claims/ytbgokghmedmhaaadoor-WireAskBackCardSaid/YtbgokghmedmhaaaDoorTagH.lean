/-
  What a writer of parts has written, the reader reads.
-/
import Derived.Test.YtbgokghmedmhaaaDoorGF
import Derived.Test.YtbgokghmedmhaaaDoorGC
set_option linter.unusedVariables false
set_option linter.unusedSimpArgs false
namespace Go.Proofs.YtbgokghmedmhaaaDoor
open Go Go.RowKit
set_option linter.unusedVariables false
set_option linter.unusedSimpArgs false

end Go.Proofs.YtbgokghmedmhaaaDoor
