/-
  Parts held against parts.
-/
import Derived.Test.YtmfpiodcioakhaaGB
set_option linter.unusedVariables false
set_option linter.unusedSimpArgs false
namespace Go.Proofs.Ytmfpiodcioakhaa
open Go Go.RowKit

theorem take_eq_step {α : Type} {ls ms : List α} {k : Nat} (hk : k < ls.length) (hk' : k < ms.length) (h : ls.take k = ms.take k) (he : ls[k] = ms[k]) : ls.take (k + 1) = ms.take (k + 1) := by
  rw [List.take_succ_eq_append_getElem hk, List.take_succ_eq_append_getElem hk', h, he]
def ls (ps : List PB) : List (List UInt8) := ps.map (·.l)
end Go.Proofs.Ytmfpiodcioakhaa
