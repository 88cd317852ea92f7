/-
  TreeRoads: where a key's road ends, and its sides.
-/
import Derived.Test.YtmaimkbppnpbnaaDoorTreL
import Derived.Test.YtmaimkbppnpbnaaDoorGN
import Derived.Test.YtmaimkbppnpbnaaDoorGK
set_option linter.unusedVariables false
set_option linter.unusedSimpArgs false
namespace Go.Proofs.YtmaimkbppnpbnaaDoor
open Go Go.RowKit
set_option linter.unusedVariables false
set_option linter.unusedSimpArgs false
open Classical

theorem roadN_eq {ms ns : List Nd} (e : pls ms = pls ns) (r : Int) (k : List UInt8) : roadN ms r k = roadN ns r k := by
  unfold roadN
  rw [roadD_eq e]
  by_cases h : MayP ns r
  · rw [if_pos h, if_pos ((mayP_eq e r).2 h)]
    cases (roadD ns k r.toNat 0).1 with
    | zero => rfl
    | succ m =>
      dsimp only
      have h1 : (pls ms)[m]? = (pls ns)[m]? := by rw [e]
      rw [List.getElem?_map, List.getElem?_map] at h1
      cases h2 : ms[m]? with
      | none =>
        rw [h2] at h1
        cases h3 : ns[m]? with
        | none => rfl
        | some y => rw [h3] at h1; cases h1
      | some x =>
        rw [h2] at h1
        cases h3 : ns[m]? with
        | none => rw [h3] at h1; cases h1
        | some y => rw [h3] at h1; simpa using h1
  · rw [if_neg h, if_neg (fun h2 => h ((mayP_eq e r).1 h2))]
theorem roadX_eq {ms ns : List Nd} (e : pls ms = pls ns) (r : Int) (k : List UInt8) : roadX ms r k = roadX ns r k := by
  unfold roadX
  rw [roadD_eq e]
  by_cases h : MayP ns r
  · rw [if_pos h, if_pos ((mayP_eq e r).2 h)]
  · rw [if_neg h, if_neg (fun h2 => h ((mayP_eq e r).1 h2))]
end Go.Proofs.YtmaimkbppnpbnaaDoor
