/-
  slices.Insert and slices.Delete, of pairs. Pairs: twins, and whether two are the same. Pairs: with a value for a key, and without a key.
-/
import Derived.Test.YtcpndfffdbogbaaGreatDoorGK
import Derived.Test.YtcpndfffdbogbaaGreatDoorGI
set_option linter.unusedVariables false
set_option linter.unusedSimpArgs false
set_option linter.unusedSectionVars false

namespace Go.Proofs.YtcpndfffdbogbaaGreatDoor
open Go Go.RowKit

end Go.Proofs.YtcpndfffdbogbaaGreatDoor
namespace Go.Proofs.YtcpndfffdbogbaaGreatDoor
open Go Go.RowKit
open Classical

theorem psOk_one {p : PR} (h : p.key.length = 32) (hv : p.v.length ≤ 1000000) : PsOk [p] := ⟨by simpa, by simpa, by simp⟩
/-- New pairs: all of it the call's own. -/
def RPs (w0 : World) (L : List Asn) (l : List KV) (v : Value) (L' : List Asn) : Prop := ∃ a c ns, v = .slice a ns.length c ∧ kvs ns = l ∧ L' = ownPs a c ns :: vsA ns :: L
theorem se_ps_nil (L : List Asn) : SE L (ownPs none 0 [] :: vsA [] :: L) := (se_psA_nil L).trans (se_own_nil 170 33 _)
theorem se_ps_snoc (ns : List PR) (p : PR) (L : List Asn) : SE (ownB p.a p.c p.v :: vsA ns :: L) (vsA (ns ++ [p]) :: L) := by
  have := se_psA_snoc (ns.map PR.pb) L p.a p.c p.v
  rw [show ns.map PR.pb ++ [⟨p.a, p.c, p.v⟩] = (ns ++ [p]).map PR.pb by simp [PR.pb]] at this
  exact this

/-! ### Whether two are the same -/
end Go.Proofs.YtcpndfffdbogbaaGreatDoor
namespace Go.Proofs.YtcpndfffdbogbaaGreatDoor
open Go Go.RowKit
open Classical

theorem RPs.nil (w0 : World) (L : List Asn) (c : Nat) : ∃ L'', Ent w0 L L'' ∧ RPs w0 L [] (.slice none 0 0) L'' := ⟨_, (se_ps_nil L).ent w0, none, 0, [], rfl, rfl, rfl⟩
end Go.Proofs.YtcpndfffdbogbaaGreatDoor
