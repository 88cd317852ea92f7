/-
  Maps: what was put is got, and dropped again; two ways to one map. Pairs: the chapter's first examples.
-/
import Derived.Test.YtmaimkbppnpbnaaDoorGL
import Derived.Test.YtmaimkbppnpbnaaDoorGI
import Derived.Test.YtmaimkbppnpbnaaDoorGK
import Derived.Test.YtmaimkbppnpbnaaDoorGC
set_option linter.unusedVariables false
set_option linter.unusedSimpArgs false
namespace Go.Proofs.YtmaimkbppnpbnaaDoor
open Go Go.RowKit
set_option linter.unusedVariables false
set_option linter.unusedSimpArgs false
open Classical

section
variable {l : List KV} {k v o : List UInt8}
end

/-- A key of a first byte. -/
def dk (c : UInt8) : List UInt8 := c :: List.replicate 31 0
end Go.Proofs.YtmaimkbppnpbnaaDoor
namespace Go.Proofs.YtmaimkbppnpbnaaDoor
open Go Go.RowKit
set_option linter.unusedVariables false
set_option linter.unusedSimpArgs false
open Classical

section
variable {P : Program} {w0 : World} {n : Nat} {ds : List Deferred} {fr : Fr} {L : List Asn} {dst : Option Nat} {ty : TypeId} {pos : String} {after : Array Edge} {gd : Option (Nat × Bool)}
end


end Go.Proofs.YtmaimkbppnpbnaaDoor
