/-
  Accounts, in plain terms: what bytes tell of one; states.
-/
import Derived.Test.YtccbcdhpnkbkgaaDoorAccQ
import Derived.Test.YtccbcdhpnkbkgaaDoorTB
import Derived.Test.YtccbcdhpnkbkgaaDoorGM
set_option linter.unusedVariables false
set_option linter.unusedSimpArgs false
namespace Go.Proofs.YtccbcdhpnkbkgaaDoor
open Go Go.RowKit
set_option linter.unusedVariables false
set_option linter.unusedSimpArgs false
open Classical

/-- Whether all values are accounts; whether a tree is a state. -/
def heldP (l : List KV) : Prop := ∀ x ∈ l, (accR x.2).2.2 = 0
def StP (ns : List Nd) (r : Int) : Prop := MayP ns r ∧ heldP (forP ns r.toNat)
/-- The account of a key among pairs; of a state. -/
noncomputable def inP (l : List KV) (k : List UInt8) : Nat × Nat := if has l k = true then ((accR (getF l k)).1, (accR (getF l k)).2.1) else (0, 0)
noncomputable def getA (ns : List Nd) (r : Int) (k : List UInt8) : Nat × Nat := inP (forP ns r.toNat) k
theorem inP_lt (l : List KV) (k : List UInt8) : (inP l k).1 < 18446744073709551616 ∧ (inP l k).2 < 18446744073709551616 := by
  unfold inP
  split
  · exact accR_lt _
  · exact ⟨by decide, by decide⟩
end Go.Proofs.YtccbcdhpnkbkgaaDoor
