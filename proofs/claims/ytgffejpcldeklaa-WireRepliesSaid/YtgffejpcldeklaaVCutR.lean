/-
  A piece of code that may return, cut off from what follows it.
-/
import Derived.Test.YtgffejpcldeklaaGC
set_option linter.unusedVariables false
set_option linter.unusedSimpArgs false
set_option linter.unusedSectionVars false

namespace Go.Proofs.Ytgffejpcldeklaa
open Go Go.RowKit

section
variable {P : Program} {ro : Option Nat} {w0 : World} {n : Nat} {ds : List Deferred} {fr : Fr} {L : List Asn} {Q : Exit → List Deferred → Fr → List Asn → Prop}
def cutK (w0 : World) (ds : List Deferred) (X : Type) (F : X → Fr) (fr0 : Fr) (M : X → List Asn) : List Deferred → Fr → List Asn → Prop := fun ds' fr' L' => ds' = ds ∧ ∃ z, Sub (F z ++ fr0) fr' ∧ Ent w0 L' (M z)
theorem v_cutR {x y : Code} (X : Type) (ks : List Nat) {fr0 : Fr} (hks : selE fr ks = some fr0) (F : X → Fr) (M : X → List Asn)
    (h : V P ro w0 n x (thn (cutK w0 ds X F fr0 M) Q) ds fr L)
    (k : ∀ z, V P ro w0 n y Q ds (F z ++ fr0) (M z)) : V P ro w0 n x (thn (V P ro w0 n y Q) Q) ds fr L :=
  v_mono h (fun e ds' fr' L' hq => by
    cases e <;> first | exact hq | skip
    obtain ⟨rfl, z, h4, h5⟩ := hq
    exact v_sub h4 (v_ent h5 (k z)))
end
end Go.Proofs.Ytgffejpcldeklaa
