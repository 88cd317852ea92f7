/-
  slices.Equal of bytes.
-/
import Derived.Test.YtmfpiodcioakhaaDoorGC
import Derived.Test.YtmfpiodcioakhaaDoorGF
set_option linter.unusedVariables false
set_option linter.unusedSimpArgs false
namespace Go.Proofs.YtmfpiodcioakhaaDoor
open Go Go.RowKit
set_option linter.unusedVariables false
set_option linter.unusedSimpArgs false

end Go.Proofs.YtmfpiodcioakhaaDoor
