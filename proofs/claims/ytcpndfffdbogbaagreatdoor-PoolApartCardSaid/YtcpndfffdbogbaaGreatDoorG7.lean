/-
  What is put behind a tree's nodes, in plain terms: the roads; the shape of what comes. A maker of trees: a node put behind; a value for a key. A tree with a value for a key: the program's. A maker of trees: without a key. A tree without a key: the program's. A tree written over. Pairs of a tree, with a value for a key, without a key: the document's.
-/
import Derived.Test.YtcpndfffdbogbaaGreatDoorTB
import Derived.Test.YtcpndfffdbogbaaGreatDoorTC
import Derived.Test.YtcpndfffdbogbaaGreatDoorGK
import Derived.Test.YtcpndfffdbogbaaGreatDoorGC
import Derived.Test.YtcpndfffdbogbaaGreatDoorTGtA
import Derived.Test.YtcpndfffdbogbaaGreatDoorGF
import Derived.Test.YtcpndfffdbogbaaGreatDoorTD
import Derived.Test.YtcpndfffdbogbaaGreatDoorGM
set_option linter.unusedVariables false
set_option linter.unusedSimpArgs false
namespace Go.Proofs.YtcpndfffdbogbaaGreatDoor
open Go Go.RowKit
set_option linter.unusedVariables false
set_option linter.unusedSimpArgs false
open Classical

end Go.Proofs.YtcpndfffdbogbaaGreatDoor
namespace Go.Proofs.YtcpndfffdbogbaaGreatDoor
open Go Go.RowKit
set_option linter.unusedVariables false
set_option linter.unusedSimpArgs false
open Classical

end Go.Proofs.YtcpndfffdbogbaaGreatDoor
namespace Go.Proofs.YtcpndfffdbogbaaGreatDoor
open Go Go.RowKit
set_option linter.unusedVariables false
set_option linter.unusedSimpArgs false
open Classical

/-- A tree that goes on with another one's nodes, and stands for a list. -/
structure GrowR (ns ms : List Nd) (s : Int) (l : List KV) : Prop where
  may : MayP ms s
  ok : NsOk ms
  pre : pls (ms.take ns.length) = pls ns
  len : ns.length ≤ ms.length
  len2 : ms.length ≤ ns.length + 300
  for' : forP ms s.toNat = l
  one : ns = [] → ms.length ≤ 1
end Go.Proofs.YtcpndfffdbogbaaGreatDoor
namespace Go.Proofs.YtcpndfffdbogbaaGreatDoor
open Go Go.RowKit
set_option linter.unusedVariables false
set_option linter.unusedSimpArgs false
open Classical

section
variable {P : Program} {w0 : World} {n : Nat} {ds : List Deferred} {fr : Fr} {L : List Asn} {dst : Option Nat} {ty : TypeId} {pos : String} {after : Array Edge} {gd : Option (Nat × Bool)}
end
end Go.Proofs.YtcpndfffdbogbaaGreatDoor
namespace Go.Proofs.YtcpndfffdbogbaaGreatDoor
open Go Go.RowKit
set_option linter.unusedVariables false
set_option linter.unusedSimpArgs false
open Classical

end Go.Proofs.YtcpndfffdbogbaaGreatDoor
namespace Go.Proofs.YtcpndfffdbogbaaGreatDoor
open Go Go.RowKit
set_option linter.unusedVariables false
set_option linter.unusedSimpArgs false
open Classical

end Go.Proofs.YtcpndfffdbogbaaGreatDoor
namespace Go.Proofs.YtcpndfffdbogbaaGreatDoor
open Go Go.RowKit
set_option linter.unusedVariables false
set_option linter.unusedSimpArgs false
open Classical

end Go.Proofs.YtcpndfffdbogbaaGreatDoor
