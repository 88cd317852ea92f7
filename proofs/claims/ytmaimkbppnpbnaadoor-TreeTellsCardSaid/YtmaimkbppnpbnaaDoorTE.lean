/-
  Proofs of trees: the program's and the document's. The proof of a key: the program's and the document's; the law ProofMakes. ProofMakes: the proof of a key.
-/
import Derived.Test.YtmaimkbppnpbnaaDoorTreM
import Derived.Test.YtmaimkbppnpbnaaDoorGN
set_option linter.unusedVariables false
set_option linter.unusedSimpArgs false
namespace Go.Proofs.YtmaimkbppnpbnaaDoor
open Go Go.RowKit
set_option linter.unusedVariables false
set_option linter.unusedSimpArgs false
open Classical

def endK (x : Nd) (k : List UInt8) : Nat := if x.leaf = true then (if x.key = k then 1 else 2) else 0
def endO (x : Nd) (k : List UInt8) : List UInt8 := if x.leaf = true then (if x.key = k then z32 else x.key) else z32
/-- A proof by its road. -/
def prfE (x : Nd) (xs : List (List UInt8)) (k : List UInt8) (a : Option Addr) (c : Nat) : Prf := ⟨k, endK x k, endO x k, (if x.leaf = true then x.a else none), (if x.leaf = true then x.c else 0), (if x.leaf = true then x.v else []), a, c, xs⟩
def prfZ : Prf := ⟨z32, 0, z32, none, 0, [], none, 0, []⟩
def prfB (k : List UInt8) (a : Option Addr) (c : Nat) (xs : List (List UInt8)) : Prf := ⟨k, 0, z32, none, 0, [], a, c, xs⟩
end Go.Proofs.YtmaimkbppnpbnaaDoor
namespace Go.Proofs.YtmaimkbppnpbnaaDoor
open Go Go.RowKit
set_option linter.unusedVariables false
set_option linter.unusedSimpArgs false
open Classical

def Prf.ct (p : Prf) : Prf := { p with va := none, vc := 0, pa := none, pc := 0 }
noncomputable def prfT (ns : List Nd) (r : Int) (k : List UInt8) : Prf := if MayP ns r then (prfE (roadN ns r k) (roadX ns r k) k none 0).ct else prfZ
/-- A proof that is told: its memory is new. -/
structure PrfR (w0 : World) (L : List Asn) (ns : List Nd) (r : Int) (k : List UInt8) (p : Prf) (L' : List Asn) : Prop where
  ct : p.ct = prfT ns r k
  ok : p.ok
  hL : L' = ownB p.va p.vc p.vl :: ownDg p.pa p.pc p.pl :: L
def RPrf (w0 : World) (L : List Asn) (ns : List Nd) (r : Int) (k : List UInt8) (v : Value) (L' : List Asn) : Prop := ∃ p : Prf, v = .tuple #[.agg p.cells.toArray, .int .i64 (mayE ns r)] ∧ PrfR w0 L ns r k p L'
end Go.Proofs.YtmaimkbppnpbnaaDoor
namespace Go.Proofs.YtmaimkbppnpbnaaDoor
open Go Go.RowKit
set_option linter.unusedVariables false
set_option linter.unusedSimpArgs false
open Classical

end Go.Proofs.YtmaimkbppnpbnaaDoor
