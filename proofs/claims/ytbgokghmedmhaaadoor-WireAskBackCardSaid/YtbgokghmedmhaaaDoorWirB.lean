/-
  Whether a request may be, by the document.
-/
import Derived.Test.YtbgokghmedmhaaaDoorWirBk1
import Derived.Test.YtbgokghmedmhaaaDoorWirBk2
import Derived.Test.YtbgokghmedmhaaaDoorWirBk4
import Derived.Test.YtbgokghmedmhaaaDoorWirBk7
import Derived.Test.YtbgokghmedmhaaaDoorWirBk5
import Derived.Test.YtbgokghmedmhaaaDoorWirBk0
set_option linter.unusedVariables false
set_option linter.unusedSimpArgs false
namespace Go.Proofs.YtbgokghmedmhaaaDoor
open Go Go.RowKit
set_option linter.unusedVariables false
set_option linter.unusedSimpArgs false
open Classical

end Go.Proofs.YtbgokghmedmhaaaDoor
