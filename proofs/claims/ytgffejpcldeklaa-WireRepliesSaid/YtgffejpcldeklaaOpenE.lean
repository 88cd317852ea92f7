/-
  What a reading of the arguments says of proofs.
-/
import Derived.Test.YtgffejpcldeklaaGH
import Derived.Test.YtgffejpcldeklaaGN
set_option linter.unusedVariables false
set_option linter.unusedSimpArgs false
set_option linter.unusedSectionVars false

namespace Go.Proofs.Ytgffejpcldeklaa
open Go Go.RowKit

theorem take1 {l : List Value} {k : Nat} (h : k < l.length) : (l.drop k).take 1 = [l[k]] := by
  rw [List.drop_eq_getElem_cons h]; rfl
theorem cut_at (l : List Value) (k n : Nat) : l.drop k = (l.drop k).take n ++ l.drop (k + n) := by
  rw [← List.drop_drop, List.take_append_drop]

end Go.Proofs.Ytgffejpcldeklaa
