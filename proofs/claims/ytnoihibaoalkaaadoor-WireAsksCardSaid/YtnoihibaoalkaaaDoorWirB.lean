/-
  Whether a request may be, by the document.
-/
import Derived.Test.YtnoihibaoalkaaaDoorWirBk1
import Derived.Test.YtnoihibaoalkaaaDoorWirBk2
import Derived.Test.YtnoihibaoalkaaaDoorWirBk4
import Derived.Test.YtnoihibaoalkaaaDoorWirBk7
import Derived.Test.YtnoihibaoalkaaaDoorWirBk5
import Derived.Test.YtnoihibaoalkaaaDoorWirBk0
set_option linter.unusedVariables false
set_option linter.unusedSimpArgs false
namespace Go.Proofs.YtnoihibaoalkaaaDoor
open Go Go.RowKit
set_option linter.unusedVariables false
set_option linter.unusedSimpArgs false
open Classical

theorem rmayAsk_vc (w0 : World) (L : List Asn) (a : Ask) (h : a.ok) :
    VC Tryd.prog w0 77 [.agg a.cells.toArray] L fun v L' => v = .bool (mayA a) ∧ L' = L := by
  by_cases k1 : a.kind.toNat = 1
  · exact rmayAsk_k1 w0 L a h k1
  by_cases k2 : a.kind.toNat = 2 ∨ a.kind.toNat = 3
  · exact rmayAsk_k2 w0 L a h k1 k2
  by_cases k4 : a.kind.toNat = 4
  · exact rmayAsk_k4 w0 L a h k1 k2 k4
  by_cases k7 : a.kind.toNat = 7 ∨ a.kind.toNat = 8
  · exact rmayAsk_k7 w0 L a h k1 k2 k4 k7
  by_cases k5 : a.kind.toNat = 5 ∨ a.kind.toNat = 6
  · exact rmayAsk_k5 w0 L a h k1 k2 k4 k7 k5
  · exact rmayAsk_k0 w0 L a h k1 k2 k4 k7 k5
end Go.Proofs.YtnoihibaoalkaaaDoor
