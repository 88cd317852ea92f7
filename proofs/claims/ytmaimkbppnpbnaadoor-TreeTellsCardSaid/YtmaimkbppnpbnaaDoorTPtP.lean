/-
  What is put behind a tree's nodes, in plain terms: the roads; the shape of what comes.
-/
import Derived.Test.YtmaimkbppnpbnaaDoorTB
set_option linter.unusedVariables false
set_option linter.unusedSimpArgs false
namespace Go.Proofs.YtmaimkbppnpbnaaDoor
open Go Go.RowKit
set_option linter.unusedVariables false
set_option linter.unusedSimpArgs false
open Classical

/-- Forks put behind: no values. -/
def Fk (y : Nd) : Prop := y.v = [] ∧ y.a = none ∧ y.c = 0 ∧ y.key.length = 32
end Go.Proofs.YtmaimkbppnpbnaaDoor
