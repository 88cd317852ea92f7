/-
  TreeRoads: where a key's road ends, and its sides.
-/
import Derived.Test.YtmaimkbppnpbnaaDoorTreL
import Derived.Test.YtmaimkbppnpbnaaDoorGN
import Derived.Test.YtmaimkbppnpbnaaDoorGK
set_option linter.unusedVariables false
set_option linter.unusedSimpArgs false
namespace Go.Proofs.YtmaimkbppnpbnaaDoor
open Go Go.RowKit
set_option linter.unusedVariables false
set_option linter.unusedSimpArgs false
open Classical

theorem mayE_eq {ms ns : List Nd} (e : pls ms = pls ns) (r : Int) : mayE ms r = mayE ns r := by
  unfold mayE
  by_cases h : MayP ns r
  · rw [if_pos h, if_pos ((mayP_eq e r).2 h)]
  · rw [if_neg h, if_neg (fun h2 => h ((mayP_eq e r).1 h2))]
end Go.Proofs.YtmaimkbppnpbnaaDoor
