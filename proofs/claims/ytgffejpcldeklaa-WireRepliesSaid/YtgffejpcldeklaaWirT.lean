/-
  The chapter's first examples (requests and replies): they hold.
-/
import Derived.Test.YtgffejpcldeklaaWirR
import Derived.Test.YtgffejpcldeklaaWirJ
set_option linter.unusedVariables false
set_option linter.unusedSimpArgs false
set_option linter.unusedSectionVars false

namespace Go.Proofs.Ytgffejpcldeklaa
open Go Go.RowKit
open Classical

def a5 : Ask := { zA with kind := 5 }
def a7 : Ask := { zA with kind := 7, sub := 258 }
def r5 : Rp := { rp0 with kind := 5, code := 250 }
end Go.Proofs.Ytgffejpcldeklaa
