/-
  Lines: the chapter's examples: the law.
-/
import Derived.Test.YtccbcdhpnkbkgaaDoorGZ
set_option linter.unusedVariables false
set_option linter.unusedSimpArgs false
namespace Go.Proofs.YtccbcdhpnkbkgaaDoor
open Go Go.RowKit
set_option linter.unusedVariables false
set_option linter.unusedSimpArgs false
open Classical

section
variable {P : Program} {w0 : World} {n : Nat} {ds : List Deferred} {fr : Fr} {L : List Asn} {dst : Option Nat} {ty : TypeId} {pos : String} {after : Array Edge} {gd : Option (Nat × Bool)}
end
def pub1 : List UInt8 := 1 :: List.replicate 31 0
def tx1Q : Tx := ⟨pub1, z32, 0, 0, 0, z32⟩
def line4 : List Tx := [oneT 3 1, oneT 4 1, oneT 5 0, oneT 6 1]
end Go.Proofs.YtccbcdhpnkbkgaaDoor
