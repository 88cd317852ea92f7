/-
  What is signed: the law.
-/
import Derived.Test.YtcpcbgfnglnkcaaDoorGW
set_option linter.unusedVariables false
set_option linter.unusedSimpArgs false
set_option linter.unusedSectionVars false

namespace Go.Proofs.YtcpcbgfnglnkcaaDoor
open Go Go.RowKit

def zeroTx : Tx := ⟨List.replicate 32 0, List.replicate 32 0, 0, 0, 0, List.replicate 32 0⟩
theorem zeroTx_ok : zeroTx.ok := ⟨by simp [zeroTx], by simp [zeroTx], by decide, by decide, by decide, by simp [zeroTx]⟩
set_option maxRecDepth 100000 in
theorem zero_byte : ((sha (tagB 4 [txBody zeroTx])).getD 0 0).toNat = 201 := by decide +kernel
theorem zero_unsigned : zeroTx.sign ≠ sgn zeroTx := by
  intro e
  have h := zero_byte
  rw [show sha (tagB 4 [txBody zeroTx]) = sgn zeroTx from rfl, ← e] at h
  simp [zeroTx] at h

end Go.Proofs.YtcpcbgfnglnkcaaDoor
