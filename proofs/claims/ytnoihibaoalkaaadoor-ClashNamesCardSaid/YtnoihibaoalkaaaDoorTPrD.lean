/-
  The chapter's first example: the proof of a key among two.
-/
import Derived.Test.YtnoihibaoalkaaaDoorTPrE
import Derived.Test.YtnoihibaoalkaaaDoorTE
import Derived.Test.YtnoihibaoalkaaaDoorTPrC
import Derived.Test.YtnoihibaoalkaaaDoorTGtA
import Derived.Test.YtnoihibaoalkaaaDoorTPtB
import Derived.Test.YtnoihibaoalkaaaDoorGM
import Derived.Test.YtnoihibaoalkaaaDoorTC
import Derived.Test.YtnoihibaoalkaaaDoorGB
import Derived.Test.YtnoihibaoalkaaaDoorGC
set_option linter.unusedVariables false
set_option linter.unusedSimpArgs false
namespace Go.Proofs.YtnoihibaoalkaaaDoor
open Go Go.RowKit
set_option linter.unusedVariables false
set_option linter.unusedSimpArgs false
open Classical

/-- The two of the examples. -/
def twoL : List KV := [(dk 3, [97]), (dk 200, [98])]
theorem tw_may : MayP [] 0 := by
  refine ⟨by simp, by simp, by simp, fun i x h => by simp at h, ?_⟩
  rw [show Int.toNat 0 = 0 from rfl, rightP]
  decide
structure TwoR (ns : List Nd) (s : Int) : Prop where
  may : MayP ns s
  ok : NsOk ns
  for' : forP ns s.toNat = twoL
theorem rdNs_nil (w0 : World) (L : List Asn) : RdNs w0 L [] := ⟨fun p hp => absurd hp (by simp)⟩
theorem nsOk_nil : NsOk [] := ⟨fun p hp => absurd hp (by simp), fun p hp => absurd hp (by simp), by simp⟩
theorem TwoR.mayE {ns : List Nd} {s : Int} (h : TwoR ns s) : mayE ns s = 0 := by unfold Go.Proofs.YtnoihibaoalkaaaDoor.mayE; rw [if_pos h.may]
/-- A proof as the examples write it. -/
def prfQ (k : Nat) (a o : List UInt8) (gb : Nat) (v : List UInt8) (gs : Nat) (D : List UInt8) : Prf := ⟨a, k, o, some ⟨gb, 0, none⟩, 1, v, some ⟨gs, 0, none⟩, 1, [D]⟩
theorem z32_len : z32.length = 32 := rfl
end Go.Proofs.YtnoihibaoalkaaaDoor
