/-
  A tree with a value for a key: the program's.
-/
import Derived.Test.YtmaimkbppnpbnaaDoorTPtA
import Derived.Test.YtmaimkbppnpbnaaDoorTC
import Derived.Test.YtmaimkbppnpbnaaDoorGC
set_option linter.unusedVariables false
set_option linter.unusedSimpArgs false
namespace Go.Proofs.YtmaimkbppnpbnaaDoor
open Go Go.RowKit
set_option linter.unusedVariables false
set_option linter.unusedSimpArgs false
open Classical

noncomputable def tputE (ns : List Nd) (r : Int) (v : List UInt8) : Int := if MayP ns r ∧ okVal v.length = true then (if 261844 < ns.length then 9 else 0) else 8
/-- A tree that goes on with another one's nodes, and stands for a list. -/
structure GrowR (ns ms : List Nd) (s : Int) (l : List KV) : Prop where
  may : MayP ms s
  ok : NsOk ms
  pre : pls (ms.take ns.length) = pls ns
  len : ns.length ≤ ms.length
  len2 : ms.length ≤ ns.length + 300
  for' : forP ms s.toNat = l
  one : ns = [] → ms.length ≤ 1
def RGrow (w0 : World) (L : List Asn) (ns : List Nd) (e : Int) (l : List KV) (v : Value) (L' : List Asn) : Prop := ∃ a c ms s, v = .tuple #[.agg #[.slice a ms.length c, .int .i64 s], .int .i64 e] ∧ (if e = 0 then GrowR ns ms s l else ms = [] ∧ s = 0) ∧ L' = ownNs a c ms :: vnA ms :: L
end Go.Proofs.YtmaimkbppnpbnaaDoor
