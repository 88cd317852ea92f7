/-
  Requests: whether one may be, and its bytes, by the document.
-/
import Derived.Test.YtbgokghmedmhaaaDoorWirA
set_option linter.unusedVariables false
set_option linter.unusedSimpArgs false
namespace Go.Proofs.YtbgokghmedmhaaaDoor
open Go Go.RowKit
set_option linter.unusedVariables false
set_option linter.unusedSimpArgs false
open Classical

/-- A request of a kind alone. -/
def zK (k : UInt8) : Ask := ⟨k, zeroTx, d32, 0, 0⟩
theorem zK_ok (k : UInt8) : (zK k).ok := ⟨zA_ok.tx, zA_ok.key, zA_ok.h1, zA_ok.h2, zA_ok.s1, zA_ok.s2⟩
set_option maxRecDepth 100000 in
theorem zA_cells : bvs (List.replicate 32 0) ++ (bvs (List.replicate 32 0) ++ (.int .u8 0 :: (.int .u64 0 :: (.int .u64 0 :: (.int .u64 0 :: (bvs (List.replicate 32 0) ++ (bvs (List.replicate 32 0) ++ (.int .i64 0 :: [.int .i64 0])))))))) = zA.cells := rfl
end Go.Proofs.YtbgokghmedmhaaaDoor
