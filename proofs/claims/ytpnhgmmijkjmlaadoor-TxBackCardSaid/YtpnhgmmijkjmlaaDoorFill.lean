/-
  Arrays of 32 bytes that are being filled.
-/
import Derived.Test.YtpnhgmmijkjmlaaDoorVPut
import Derived.Test.YtpnhgmmijkjmlaaDoorShaL
namespace Go.Proofs.YtpnhgmmijkjmlaaDoor
open Go Go.RowKit
set_option linter.unusedVariables false
set_option linter.unusedSimpArgs false

/-- An id, when i of its bytes are there. -/
def idM (d : List UInt8) (i : Nat) : List UInt8 := d.take i ++ List.replicate (32 - i) 0
theorem idM_length (d : List UInt8) (hd : d.length = 32) (i : Nat) (hi : i ≤ 32) : (idM d i).length = 32 := by
  simp only [idM, List.length_append, List.length_take, List.length_replicate, hd]; omega
theorem idM_set (d : List UInt8) (hd : d.length = 32) (i : Nat) (hi : i < 32) : (idM d i).set i (d[i]'(by omega)) = idM d (i + 1) := by
  unfold idM
  rw [List.set_append_right _ _ (by simp; omega), show (d.take i).length = i by simp; omega, Nat.sub_self, show 32 - i = (32 - (i + 1)) + 1 by omega, List.replicate_succ, List.set_cons_zero, List.take_succ_eq_append_getElem (by omega), List.append_assoc, List.singleton_append]
theorem idM_0 (d : List UInt8) : idM d 0 = List.replicate 32 0 := by simp [idM]
theorem idM_all (d : List UInt8) (hd : d.length = 32) : idM d 32 = d := by
  unfold idM
  rw [List.take_of_length_le (by omega)]
  simp
end Go.Proofs.YtpnhgmmijkjmlaaDoor
