/-
  A shard with transactions that go back (the program's).
-/
import Derived.Test.YtccbcdhpnkbkgaaDoorShdO
import Derived.Test.YtccbcdhpnkbkgaaDoorGZ
set_option linter.unusedVariables false
set_option linter.unusedSimpArgs false
namespace Go.Proofs.YtccbcdhpnkbkgaaDoor
open Go Go.RowKit
set_option linter.unusedVariables false
set_option linter.unusedSimpArgs false
set_option linter.unusedSectionVars false
open Classical

def idxX (xs : List Tx) (φ : Tx → Bool) : Int := if xs.findIdx φ < xs.length then (xs.findIdx φ : Int) else -1
def RBack (q : List LC × Int) (L : List Asn) (v : Value) (L' : List Asn) : Prop := ∃ a c ms, v = .tuple #[.agg #[.slice a ms.length c], .int .i64 q.2] ∧ lls ms = q.1 ∧ LsOk ms ∧ L' = ownLs a c ms :: tsA ms :: L
theorem RBack.bad (w0 : World) (L : List Asn) (e : Int) {M : List Asn} (h : Ent w0 M L) : ∃ L', Ent w0 M L' ∧ RBack ([], e) L (.tuple #[.agg #[.slice none 0 0], .int .i64 e]) L' :=
  ⟨_, h.trans ((se_ls_nil _).ent w0), none, 0, [], rfl, rfl, LsOk.nil, rfl⟩
noncomputable def backQ (cs : List LC) (ns : List Nd) (r : Int) (l : List Tx) : List LC × Int :=
  if MayC cs ∧ StP ns r then (if ∀ x ∈ l, x.sign = sgn x then (match backC (nonceA ns r) cs l with
    | some zs => (zs, 0)
    | none => ([], 9)) else ([], 110)) else ([], 8)
end Go.Proofs.YtccbcdhpnkbkgaaDoor
