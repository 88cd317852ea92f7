/-
  The program's digest of one part: the walk. The document's digest: the walk. The document's digest: the walk, joined.
-/
import Derived.Test.YtmaimkbppnpbnaaGD
import Derived.Test.YtmaimkbppnpbnaaGB
set_option linter.unusedVariables false
set_option linter.unusedSimpArgs false
namespace Go.Proofs.Ytmaimkbppnpbnaa
open Go Go.RowKit
set_option linter.unusedVariables false
set_option linter.unusedSimpArgs false

end Go.Proofs.Ytmaimkbppnpbnaa
namespace Go.Proofs.Ytmaimkbppnpbnaa
open Go Go.RowKit
set_option linter.unusedVariables false
set_option linter.unusedSimpArgs false

def tl8 (D : List UInt8) (j : Nat) : List UInt8 := List.replicate (8 - j) 0 ++ D.drop (8 - j)
end Go.Proofs.Ytmaimkbppnpbnaa
namespace Go.Proofs.Ytmaimkbppnpbnaa
open Go Go.RowKit
set_option linter.unusedVariables false
set_option linter.unusedSimpArgs false

end Go.Proofs.Ytmaimkbppnpbnaa
