/-
  Shards: the chapter's first examples.
-/
import Derived.Test.YtccbcdhpnkbkgaaDoorShdJ
import Derived.Test.YtccbcdhpnkbkgaaDoorVStates
import Derived.Test.YtccbcdhpnkbkgaaDoorShdR
set_option linter.unusedVariables false
set_option linter.unusedSimpArgs false
namespace Go.Proofs.YtccbcdhpnkbkgaaDoor
open Go Go.RowKit
set_option linter.unusedVariables false
set_option linter.unusedSimpArgs false
set_option linter.unusedSectionVars false

def kF (p : UInt8) : List UInt8 := sha (tagB 3 [dig1 p])
open Classical

def oneF (p : UInt8) (n f : Nat) : Tx := signed ⟨dig1 p, z32, n, 0, f, z32⟩
def x1 : Tx := oneF 1 0 5
def x2 : Tx := oneF 1 1 5
def cs1 : List LC := [(kF 1, [x1])]
def cs2 : List LC := [(kF 1, [x1, x2])]
/-- A greater fee: the last of the other sender's goes. -/
def y6 : Tx := oneF 2 0 6
noncomputable def cs3 : List LC := setC (setC cs2 (kF 1) [x1]) (kF 2) (withT [] y6)
end Go.Proofs.YtccbcdhpnkbkgaaDoor
