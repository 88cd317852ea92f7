/-
  Pools, plainly: all but one shard stay.
-/
import Derived.Test.YtcpndfffdbogbaaDoorPolP
import Derived.Test.YtcpndfffdbogbaaDoorGZA
set_option linter.unusedVariables false
set_option linter.unusedSimpArgs false
namespace Go.Proofs.YtcpndfffdbogbaaDoor
open Go Go.RowKit
set_option linter.unusedVariables false
set_option linter.unusedSimpArgs false
set_option linter.unusedSectionVars false
open Classical

/-- Two pools are the same but for a shard, and the first is a pool. -/
structure Apart (cs zs : PC) (i : Int) : Prop where
  len : zs.length = cs.length
  may : MayO zs
  same : ∀ j (h1 : j < zs.length) (h2 : j < cs.length), (j : Int) ≠ i → zs[j] = cs[j]
end Go.Proofs.YtcpndfffdbogbaaDoor
