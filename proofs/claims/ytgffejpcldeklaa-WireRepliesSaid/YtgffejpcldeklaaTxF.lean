/-
  What is signed: the law.
-/
import Derived.Test.YtgffejpcldeklaaGW
set_option linter.unusedVariables false
set_option linter.unusedSimpArgs false
set_option linter.unusedSectionVars false

namespace Go.Proofs.Ytgffejpcldeklaa
open Go Go.RowKit

def zeroTx : Tx := ⟨List.replicate 32 0, List.replicate 32 0, 0, 0, 0, List.replicate 32 0⟩
theorem zeroTx_ok : zeroTx.ok := ⟨by simp [zeroTx], by simp [zeroTx], by decide, by decide, by decide, by simp [zeroTx]⟩
end Go.Proofs.Ytgffejpcldeklaa
