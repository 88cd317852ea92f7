/-
  A reply that is not well is put into bytes.
-/
import Derived.Test.YtgffejpcldeklaaWirO
import Derived.Test.YtgffejpcldeklaaWirS
import Derived.Test.YtgffejpcldeklaaGC
set_option linter.unusedVariables false
set_option linter.unusedSimpArgs false
set_option linter.unusedSectionVars false

namespace Go.Proofs.Ytgffejpcldeklaa
open Go Go.RowKit
open Classical

theorem inR_of {r : Rp} (h : r.inR = true) : r.kind.toNat ≤ 8 ∧ (0 < r.kind.toNat ∨ r.code ≠ 0) ∧ 0 ≤ r.code ∧ r.code ≤ 999 ∧ 0 ≤ r.height ∧ 0 ≤ r.sub ∧ 0 ≤ r.ev.num := by
  unfold Rp.inR at h
  simp only [Bool.and_eq_true, decide_eq_true_eq] at h
  exact h.1.1
end Go.Proofs.Ytgffejpcldeklaa
