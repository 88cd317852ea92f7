/-
  An account's bytes, in plain terms.
-/
import Derived.Test.YtccbcdhpnkbkgaaDoorGC
set_option linter.unusedVariables false
set_option linter.unusedSimpArgs false
namespace Go.Proofs.YtccbcdhpnkbkgaaDoor
open Go Go.RowKit
set_option linter.unusedVariables false
set_option linter.unusedSimpArgs false
open Classical

/-- What bytes tell of an account: nonce, balance, error. -/
noncomputable def accR (b : List UInt8) : Nat × Nat × Int :=
  if b.length < 16 then (0, 0, 10)
  else if 16 < b.length then (0, 0, 11)
  else if numOf (b.take 8) = 0 ∧ numOf (b.drop 8) = 0 then (0, 0, 8)
  else (numOf (b.take 8), numOf (b.drop 8), 0)
def accV (n b : Nat) : Value := .agg #[.int .u64 n, .int .u64 b]
theorem accR_short {b : List UInt8} (h : b.length < 16) : accR b = (0, 0, 10) := if_pos h
theorem accR_long {b : List UInt8} (h : 16 < b.length) : accR b = (0, 0, 11) := by
  unfold accR
  rw [if_neg (by omega), if_pos h]
theorem accR_zero {b : List UInt8} (h : b.length = 16) (h1 : numOf (b.take 8) = 0) (h2 : numOf (b.drop 8) = 0) : accR b = (0, 0, 8) := by
  unfold accR
  rw [if_neg (by omega), if_neg (by omega), if_pos ⟨h1, h2⟩]
theorem accR_ok {b : List UInt8} (h : b.length = 16) (h1 : ¬ (numOf (b.take 8) = 0 ∧ numOf (b.drop 8) = 0)) : accR b = (numOf (b.take 8), numOf (b.drop 8), 0) := by
  unfold accR
  rw [if_neg (by omega), if_neg (by omega), if_neg h1]
theorem accR_lt (b : List UInt8) : (accR b).1 < 18446744073709551616 ∧ (accR b).2.1 < 18446744073709551616 := by
  have h1 := numOf_lt (b.take 8)
  have h2 := numOf_lt (b.drop 8)
  unfold accR
  split
  · exact ⟨by decide, by decide⟩
  split
  · exact ⟨by decide, by decide⟩
  rename_i a1 a2
  split
  · exact ⟨by decide, by decide⟩
  · exact ⟨h1, h2⟩
end Go.Proofs.YtccbcdhpnkbkgaaDoor
