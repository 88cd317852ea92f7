/-
  Shards: whether two are the same.
-/
import Derived.Test.YtccbcdhpnkbkgaaDoorShdA
import Derived.Test.YtccbcdhpnkbkgaaDoorGX
set_option linter.unusedVariables false
set_option linter.unusedSimpArgs false
namespace Go.Proofs.YtccbcdhpnkbkgaaDoor
open Go Go.RowKit
set_option linter.unusedVariables false
set_option linter.unusedSimpArgs false
open Classical

theorem lls_len {ms ns : List Ln} (h : lls ms = lls ns) : ms.length = ns.length := by simpa using congrArg List.length h
end Go.Proofs.YtccbcdhpnkbkgaaDoor
