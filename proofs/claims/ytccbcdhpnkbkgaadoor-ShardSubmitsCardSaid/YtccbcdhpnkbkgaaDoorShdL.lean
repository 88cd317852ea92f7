/-
  Shards: the chapter's shard, and what holds of it.
-/
import Derived.Test.YtccbcdhpnkbkgaaDoorShdK
set_option linter.unusedVariables false
set_option linter.unusedSimpArgs false
namespace Go.Proofs.YtccbcdhpnkbkgaaDoor
open Go Go.RowKit
set_option linter.unusedVariables false
set_option linter.unusedSimpArgs false
set_option linter.unusedSectionVars false
open Classical

/-- What is told of a shard: its memory is new; its content is known. -/
def RShC (cs : List LC) (L : List Asn) (v : Value) (L' : List Asn) : Prop := ∃ a c ms, v = .agg #[.slice a ms.length c] ∧ lls ms = cs ∧ LsOk ms ∧ L' = ownLs a c ms :: tsA ms :: L
end Go.Proofs.YtccbcdhpnkbkgaaDoor
