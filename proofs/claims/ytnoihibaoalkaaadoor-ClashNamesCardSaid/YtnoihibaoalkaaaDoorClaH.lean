/-
  A proof that fits a tree's sum tells what the tree has, or a clash is shown: the statement's law.
-/
import Derived.Test.YtnoihibaoalkaaaDoorClaF
import Derived.Test.YtnoihibaoalkaaaDoorGT
import Derived.Test.YtnoihibaoalkaaaDoorTGtA
import Derived.Test.YtnoihibaoalkaaaDoorTC
import Derived.Test.YtnoihibaoalkaaaDoorGN
set_option linter.unusedVariables false
set_option linter.unusedSimpArgs false
namespace Go.Proofs.YtnoihibaoalkaaaDoor
open Go Go.RowKit
set_option linter.unusedVariables false
set_option linter.unusedSimpArgs false
open Classical

theorem prfT_isT {ns : List Nd} {r : Int} {k : List UInt8} (hok : NsOk ns) (hk : k.length = 32) (hm : MayP ns r) : (prfT ns r k).isT = hasT ns r k := by
  have M := made_law hok hk hm
  unfold hasT Prf.isT
  rw [if_pos hm, M.may, Bool.true_and]
  have := M.told
  cases h : has (forP ns r.toNat) k with
  | true => rw [decide_eq_true (this.2 h)]
  | false => rw [decide_eq_false (fun e => by rw [this.1 e] at h; cases h)]
theorem prfT_tl {ns : List Nd} {r : Int} {k : List UInt8} (hok : NsOk ns) (hk : k.length = 32) (hm : MayP ns r) : (prfT ns r k).tl = getT ns r k := by
  have M := made_law hok hk hm
  have hIs := prfT_isT hok hk hm
  unfold Prf.tl getT
  rw [if_pos hm]
  by_cases h : (prfT ns r k).isT = true
  · rw [if_pos h]
    refine M.v ?_
    have : ((prfT ns r k).may && decide ((prfT ns r k).kind = 1)) = true := h
    rw [M.may, Bool.true_and] at this
    exact of_decide_eq_true this
  · rw [if_neg h]
    have : hasT ns r k = false := by rw [← hIs]; simpa using h
    unfold hasT at this
    rw [if_pos hm] at this
    exact (getF_not this).symm
end Go.Proofs.YtnoihibaoalkaaaDoor
