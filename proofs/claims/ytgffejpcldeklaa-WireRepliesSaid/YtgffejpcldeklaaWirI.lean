/-
  A request's parts are put behind each other.
-/
import Derived.Test.YtgffejpcldeklaaWirF
import Derived.Test.YtgffejpcldeklaaGC
set_option linter.unusedVariables false
set_option linter.unusedSimpArgs false
set_option linter.unusedSectionVars false

namespace Go.Proofs.Ytgffejpcldeklaa
open Go Go.RowKit
open Classical

set_option maxRecDepth 100000 in
theorem putBig_vc (w0 : World) (L : List Asn) (n : Nat) (hn : 4294967296 ≤ n) (hn2 : n < 18446744073709551616) :
    VC Try.prog w0 14 [.int .u64 n, .int .i64 4] L fun v L' => v = .tuple #[.slice none 0 0, .int .i64 4] ∧ L' = L := by
  have hq : 0 < n / 4294967296 := by omega
  have hr : (n : Int).fdiv (2 ^ min (32 : Int).toNat IntKind.u64.bits) = ((n / 4294967296 : Nat) : Int) := by
    rw [show (2 : Int) ^ min (32 : Int).toNat IntKind.u64.bits = ((4294967296 : Nat) : Int) from by decide, Int.fdiv_eq_ediv_of_nonneg _ (by omega)]
    omega
  refine vc_ent ?_
  refine vc_in rfl rfl ?_
  generalize n / 4294967296 = Q at *
  repeat' (first | (refine go1 ?_; intros) | (refine goCC ?_ ?_ <;> (intro hb; (try simp only [hSQ] at hb); try (exfalso; omega))) | fail)
  · exact ⟨L, sei _ _ _, rfl, rfl⟩
  · exfalso
    apply hb
    show (0 : Int) < (n : Int).fdiv (2 ^ min (32 : Int).toNat IntKind.u64.bits)
    rw [hr]
    omega
def Pt.bytes (H S : Nat) (a : Ask) : Pt → List UInt8
  | .h => digs H 8
  | .s => if S < 4294967296 then digs S 4 else []
  | .d => a.key
  | .t => txBytes a.tx
theorem own_app (a : Option Addr) (c : Nat) (T D : List UInt8) (m : Nat) (hD : D.length = m) : ownB a c (T ++ D) = own 5 1 a (T.length + m) c (bvs T ++ bvs D) := by
  unfold ownB
  rw [List.length_append, hD, bvs_append]
end Go.Proofs.Ytgffejpcldeklaa
