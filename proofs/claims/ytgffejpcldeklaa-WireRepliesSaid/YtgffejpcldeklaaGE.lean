/-
  The program's digest of one part: the walk. The document's digest: the walk. The document's digest: the walk, joined.
-/
import Derived.Test.YtgffejpcldeklaaGD
import Derived.Test.YtgffejpcldeklaaGB
set_option linter.unusedVariables false
set_option linter.unusedSimpArgs false
set_option linter.unusedSectionVars false

namespace Go.Proofs.Ytgffejpcldeklaa
open Go Go.RowKit

theorem digs_at (n : Nat) : ∀ (k j : Nat), j < k → (digs n k)[j]? = some (UInt8.ofNat (n / 256 ^ (k - 1 - j)))
  | 0, j, h => by omega
  | k + 1, 0, _ => by simp [digs]
  | k + 1, j + 1, h => by
    have := digs_at n k j (by omega)
    simp only [digs, List.getElem?_cons_succ, this, Option.some.injEq]
    congr 3; omega
theorem u8_wrapD (I : Int) : IntKind.u8.wrap I = ((UInt8.ofNat (I % 256).toNat).toNat : Int) := by
  rw [UInt8.toNat_ofNat']
  simp [IntKind.wrap, IntKind.bits, IntKind.signed]
  omega
theorem splice_setB (l : List UInt8) (k : Nat) (h : k < l.length) (c : UInt8) : splice (bvs l) k [.int .u8 (c.toNat : Int)] = bvs (l.set k c) := by
  have e1 : bvs l = (bvs l).take k ++ ([(bvs l)[k]'(by simpa)] ++ (bvs l).drop (k + 1)) := by simp
  rw [e1, splice_mid _ _ _ _ _ (by simp; omega) (by simp)]
  have e2 : l.set k c = l.take k ++ ([c] ++ l.drop (k + 1)) := by rw [List.set_eq_take_append_cons_drop, if_pos h]; rfl
  rw [e2]
  simp [bvs, bv]
end Go.Proofs.Ytgffejpcldeklaa
namespace Go.Proofs.Ytgffejpcldeklaa
open Go Go.RowKit

theorem q256 (n : Nat) (h : n < 18446744073709551616) : IntKind.u64.wrap ((n : Int).tdiv 256) = ((n / 256 : Nat) : Int) := by
  rw [Int.tdiv_eq_ediv_of_nonneg (by omega), IntKind.wrap_u64]; omega
theorem b256 (n : Nat) : IntKind.u8.wrap (((n : Int).tmod 256)) = ((UInt8.ofNat n).toNat : Int) := by
  rw [Int.tmod_eq_emod_of_nonneg (by omega), u8_wrapD]
  congr 2
  apply UInt8.toNat_inj.1
  rw [UInt8.toNat_ofNat', UInt8.toNat_ofNat']
  omega

end Go.Proofs.Ytgffejpcldeklaa
namespace Go.Proofs.Ytgffejpcldeklaa
open Go Go.RowKit

end Go.Proofs.Ytgffejpcldeklaa
