/-
  Maps: what was put is got, and dropped again; two ways to one map.
-/
import Derived.Test.YtmaimkbppnpbnaaGL
set_option linter.unusedVariables false
set_option linter.unusedSimpArgs false
namespace Go.Proofs.Ytmaimkbppnpbnaa
open Go Go.RowKit
set_option linter.unusedVariables false
set_option linter.unusedSimpArgs false
open Classical

section
variable {l : List KV} {k v o : List UInt8}
theorem put_le (hs : Srt l) (hk : K32 l) (hkk : k.length = 32) : l.length ≤ (putF l k v).length := by
  rw [put_len hs hk hkk]
  split <;> omega
end

/-- A key of a first byte. -/
def dk (c : UInt8) : List UInt8 := c :: List.replicate 31 0
end Go.Proofs.Ytmaimkbppnpbnaa
