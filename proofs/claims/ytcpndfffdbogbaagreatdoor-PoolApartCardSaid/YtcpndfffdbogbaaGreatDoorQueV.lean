/-
  Lines: the chapter's examples: the law.
-/
import Derived.Test.YtcpndfffdbogbaaGreatDoorGZ
set_option linter.unusedVariables false
set_option linter.unusedSimpArgs false
namespace Go.Proofs.YtcpndfffdbogbaaGreatDoor
open Go Go.RowKit
set_option linter.unusedVariables false
set_option linter.unusedSimpArgs false
open Classical

section
variable {P : Program} {w0 : World} {n : Nat} {ds : List Deferred} {fr : Fr} {L : List Asn} {dst : Option Nat} {ty : TypeId} {pos : String} {after : Array Edge} {gd : Option (Nat × Bool)}
end
set_option maxRecDepth 100000 in
theorem zTx_byte : ((sha (tagB 4 [txBody zTx])).getD 0 0).toNat = 201 := by decide +kernel
theorem zTx_unsigned : zTx.sign ≠ sgn zTx := by
  intro e
  have h := zTx_byte
  rw [show sha (tagB 4 [txBody zTx]) = sgn zTx from rfl, ← e] at h
  simp [zTx, z32] at h
end Go.Proofs.YtcpndfffdbogbaaGreatDoor
