/-
  A key's leaf, and its value: the program's and the document's.
-/
import Derived.Test.YtnoihibaoalkaaaDoorTD
set_option linter.unusedVariables false
set_option linter.unusedSimpArgs false
namespace Go.Proofs.YtnoihibaoalkaaaDoor
open Go Go.RowKit
set_option linter.unusedVariables false
set_option linter.unusedSimpArgs false
open Classical

/-- A search under way. -/
structure FindI (ns : List Nd) (k : List UInt8) (n0 : Nat) (n d : Nat) (β : Nat → Nat) : Prop where
  hn : n ≤ ns.length
  z : ∀ m, d ≤ m → β m = 0
  r : 0 ≤ rightP ns n d β
  e : leafP ns k n0 0 = leafP ns k n d
noncomputable def getT (ns : List Nd) (r : Int) (k : List UInt8) : List UInt8 := if MayP ns r then getF (forP ns r.toNat) k else []
noncomputable def hasT (ns : List Nd) (r : Int) (k : List UInt8) : Bool := if MayP ns r then has (forP ns r.toNat) k else false
theorem getF_not {l : List KV} {k : List UInt8} (h : has l k = false) : getF l k = [] := by
  unfold getF
  have : l.find? (fun x => decide (x.1 = k)) = none := by
    rw [List.find?_eq_none]
    intro x hx
    simpa using has_false.1 h x hx
  rw [this]; rfl
end Go.Proofs.YtnoihibaoalkaaaDoor
