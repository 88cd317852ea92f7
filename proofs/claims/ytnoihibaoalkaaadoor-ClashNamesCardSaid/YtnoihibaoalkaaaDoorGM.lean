/-
  Maps: what was put is got, and dropped again; two ways to one map. Pairs: the chapter's first examples.
-/
import Derived.Test.YtnoihibaoalkaaaDoorGL
import Derived.Test.YtnoihibaoalkaaaDoorGI
import Derived.Test.YtnoihibaoalkaaaDoorGK
import Derived.Test.YtnoihibaoalkaaaDoorGC
set_option linter.unusedVariables false
set_option linter.unusedSimpArgs false
namespace Go.Proofs.YtnoihibaoalkaaaDoor
open Go Go.RowKit
set_option linter.unusedVariables false
set_option linter.unusedSimpArgs false
open Classical

section
variable {l : List KV} {k v o : List UInt8}
theorem put_le (hs : Srt l) (hk : K32 l) (hkk : k.length = 32) : l.length ≤ (putF l k v).length := by
  rw [put_len hs hk hkk]
  split <;> omega
end

/-- A key of a first byte. -/
def dk (c : UInt8) : List UInt8 := c :: List.replicate 31 0
theorem dk_len (c : UInt8) : (dk c).length = 32 := by simp [dk]
end Go.Proofs.YtnoihibaoalkaaaDoor
namespace Go.Proofs.YtnoihibaoalkaaaDoor
open Go Go.RowKit
set_option linter.unusedVariables false
set_option linter.unusedSimpArgs false
open Classical

section
variable {P : Program} {w0 : World} {n : Nat} {ds : List Deferred} {fr : Fr} {L : List Asn} {dst : Option Nat} {ty : TypeId} {pos : String} {after : Array Edge} {gd : Option (Nat × Bool)}
/-- An array of which some elements are written out. -/
theorem vq_buildArrP {t e : TypeId} {agg : Bool} {size bytes m esize ebytes : Nat} {z ez cs : List Value} {parts : Array (Nat × Operand)} [ht : TyI P t true size bytes z] [hf : ArI P t e m agg esize ebytes ez] {vs : List (Nat × List Value)} (hv : evP fr parts.toList = some vs) (hok : ∀ p ∈ vs, okS ((List.range m).map fun i => (i * esize, esize)) size p) (hcs : fillS ((List.range m).map fun i => (i * esize, esize)) z vs = cs) : VQ P w0 n ⟨dst, .build t parts, ty, pos, after, gd⟩ (.agg cs.toArray) ds fr L :=
  vq_val (fun a w hk hs => run_buildArr t parts rfl ht hf vs (hk.partsP _ _ hv) hok cs hcs)
/-- A digest of a first byte. -/
theorem vq_dk {t e : TypeId} {bytes ebytes : Nat} {ez : List Value} {c : UInt8} {x : Operand} (hx : evA fr x = some (.int .u8 c.toNat)) [ht : TyI P t true 32 bytes (bvs (List.replicate 32 0))] [hf : ArI P t e 32 false 1 ebytes ez] : VQ P w0 n ⟨dst, .build t #[(0, x)], ty, pos, after, gd⟩ (.agg (bvs (dk c)).toArray) ds fr L :=
  vq_buildArrP (vs := [(0, [.int .u8 c.toNat])]) (by simp [evP, hx, Value.cells]) (by simp [okS]) (by simp [fillS, splice, dk, bvs, bv])
end


end Go.Proofs.YtnoihibaoalkaaaDoor
