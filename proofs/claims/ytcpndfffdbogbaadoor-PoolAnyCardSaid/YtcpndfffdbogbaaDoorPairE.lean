/-
  Pairs: the document's walks.
-/
import Derived.Test.YtcpndfffdbogbaaDoorGL
import Derived.Test.YtcpndfffdbogbaaDoorGK
set_option linter.unusedVariables false
set_option linter.unusedSimpArgs false
namespace Go.Proofs.YtcpndfffdbogbaaDoor
open Go Go.RowKit
set_option linter.unusedVariables false
set_option linter.unusedSimpArgs false
open Classical


end Go.Proofs.YtcpndfffdbogbaaDoor
