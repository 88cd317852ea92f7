/-
  Shards: a sender's transaction of a nonce; the chapter's first examples.
-/
import Derived.Test.YtccbcdhpnkbkgaaDoorShdH
import Derived.Test.YtccbcdhpnkbkgaaDoorGZ
import Derived.Test.YtccbcdhpnkbkgaaDoorQueV
set_option linter.unusedVariables false
set_option linter.unusedSimpArgs false
namespace Go.Proofs.YtccbcdhpnkbkgaaDoor
open Go Go.RowKit
set_option linter.unusedVariables false
set_option linter.unusedSimpArgs false
set_option linter.unusedSectionVars false
open Classical

theorem lineC_ok {ms : List Ln} (h : LsOk ms) (o : List UInt8) : TsOk (lineC (lls ms) o) := by
  by_cases hl0 : lineC (lls ms) o = []
  · rw [hl0]; exact TsOk.nil
  · obtain ⟨l, hl, e⟩ := List.mem_map.1 (lineC_in hl0)
    have := (h.ok l hl).ts
    rwa [show l.xs = lineC (lls ms) o from congrArg Prod.snd e] at this
end Go.Proofs.YtccbcdhpnkbkgaaDoor
