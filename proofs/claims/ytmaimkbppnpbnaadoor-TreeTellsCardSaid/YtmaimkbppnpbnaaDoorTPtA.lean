/-
  A maker of trees: a node put behind; a value for a key.
-/
import Derived.Test.YtmaimkbppnpbnaaDoorTPtP
import Derived.Test.YtmaimkbppnpbnaaDoorTC
import Derived.Test.YtmaimkbppnpbnaaDoorGK
set_option linter.unusedVariables false
set_option linter.unusedSimpArgs false
namespace Go.Proofs.YtmaimkbppnpbnaaDoor
open Go Go.RowKit
set_option linter.unusedVariables false
set_option linter.unusedSimpArgs false
open Classical

/-- A maker: its tree, and the nodes, its own. -/
abbrev mkB (g : Nat) (a : Option Addr) (c n : Nat) (r : Int) : Asn := blk g 119 [.slice a n c, .int .i64 r]
end Go.Proofs.YtmaimkbppnpbnaaDoor
