/-
  The document's bytes and hashes of headers: the walks.
-/
import Derived.Test.YtgmaolodfmolmaaDoorHdA
set_option linter.unusedVariables false
set_option linter.unusedSimpArgs false
namespace Go.Proofs.YtgmaolodfmolmaaDoor
open Go Go.RowKit
set_option linter.unusedVariables false
set_option linter.unusedSimpArgs false

/-- Whether one follows another one. -/
def follows (h p : Hd) : Bool := decide (h.may = true ∧ p.may = true ∧ h.height = p.height + 1 ∧ h.parent = hHash p)
end Go.Proofs.YtgmaolodfmolmaaDoor
