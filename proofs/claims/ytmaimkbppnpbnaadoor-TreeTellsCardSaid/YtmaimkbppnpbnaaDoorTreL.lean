/-
  Roads: where a key's road ends, and its sides; the program's and the document's.
-/
import Derived.Test.YtmaimkbppnpbnaaDoorTD
set_option linter.unusedVariables false
set_option linter.unusedSimpArgs false
namespace Go.Proofs.YtmaimkbppnpbnaaDoor
open Go Go.RowKit
set_option linter.unusedVariables false
set_option linter.unusedSimpArgs false
open Classical

def zN : Nd := ⟨false, z32, none, 0, [], 0, 0⟩
noncomputable def roadN (ns : List Nd) (r : Int) (k : List UInt8) : Nd := if MayP ns r then (match (roadD ns k r.toNat 0).1 with | 0 => zN | m + 1 => (ns[m]?.getD zN).pl) else zN
noncomputable def roadX (ns : List Nd) (r : Int) (k : List UInt8) : List (List UInt8) := if MayP ns r then (roadD ns k r.toNat 0).2 else []
noncomputable def mayE (ns : List Nd) (r : Int) : Int := if MayP ns r then 0 else 8
/-- What is told of a road: its memory is new. -/
structure RoadR (w0 : World) (L : List Asn) (ns : List Nd) (r : Int) (k : List UInt8) (x : Nd) (xs : List (List UInt8)) (a' : Option Addr) (c' : Nat) (L' : List Asn) : Prop where
  pl : x.pl = roadN ns r k
  hxs : xs = roadX ns r k
  key : x.key.length = 32
  vl : x.v.length ≤ 1000000
  dg : Dg xs
  len : xs.length ≤ 256
  hL : L' = ownB x.a x.c x.v :: ownDg a' c' xs :: L
def RRoad (w0 : World) (L : List Asn) (ns : List Nd) (r : Int) (k : List UInt8) (v : Value) (L' : List Asn) : Prop := ∃ x xs a' c', v = .tuple #[.agg x.cells.toArray, .slice a' xs.length c', .int .i64 (mayE ns r)] ∧ RoadR w0 L ns r k x xs a' c' L'
end Go.Proofs.YtmaimkbppnpbnaaDoor
