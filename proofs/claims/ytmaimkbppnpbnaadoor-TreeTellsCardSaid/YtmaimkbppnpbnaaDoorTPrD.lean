/-
  The chapter's first example: the proof of a key among two.
-/
import Derived.Test.YtmaimkbppnpbnaaDoorTPrE
import Derived.Test.YtmaimkbppnpbnaaDoorTE
import Derived.Test.YtmaimkbppnpbnaaDoorTPrC
import Derived.Test.YtmaimkbppnpbnaaDoorTGtA
import Derived.Test.YtmaimkbppnpbnaaDoorTPtB
import Derived.Test.YtmaimkbppnpbnaaDoorGM
import Derived.Test.YtmaimkbppnpbnaaDoorTC
import Derived.Test.YtmaimkbppnpbnaaDoorGB
import Derived.Test.YtmaimkbppnpbnaaDoorGC
set_option linter.unusedVariables false
set_option linter.unusedSimpArgs false
namespace Go.Proofs.YtmaimkbppnpbnaaDoor
open Go Go.RowKit
set_option linter.unusedVariables false
set_option linter.unusedSimpArgs false
open Classical

/-- The two of the examples. -/
def twoL : List KV := [(dk 3, [97]), (dk 200, [98])]
structure TwoR (ns : List Nd) (s : Int) : Prop where
  may : MayP ns s
  ok : NsOk ns
  for' : forP ns s.toNat = twoL
theorem nsOk_nil : NsOk [] := ⟨fun p hp => absurd hp (by simp), fun p hp => absurd hp (by simp), by simp⟩
theorem TwoR.mayE {ns : List Nd} {s : Int} (h : TwoR ns s) : mayE ns s = 0 := by unfold Go.Proofs.YtmaimkbppnpbnaaDoor.mayE; rw [if_pos h.may]
/-- A proof as the examples write it. -/
def prfQ (k : Nat) (a o : List UInt8) (gb : Nat) (v : List UInt8) (gs : Nat) (D : List UInt8) : Prf := ⟨a, k, o, some ⟨gb, 0, none⟩, 1, v, some ⟨gs, 0, none⟩, 1, [D]⟩
end Go.Proofs.YtmaimkbppnpbnaaDoor
