/-
  Transactions of bytes: what is read; the document's walk.
-/
import Derived.Test.YtgffejpcldeklaaTxF
import Derived.Test.YtgffejpcldeklaaGC
set_option linter.unusedVariables false
set_option linter.unusedSimpArgs false
set_option linter.unusedSectionVars false

namespace Go.Proofs.Ytgffejpcldeklaa
open Go Go.RowKit

/-- The transaction of bytes, and the error. -/
def txOf (l : List UInt8) : Tx := ⟨l.take 32, (l.drop 32).take 32, numOf ((l.drop 64).take 8), numOf ((l.drop 72).take 8), numOf ((l.drop 80).take 8), (l.drop 88).take 32⟩
def txRead (l : List UInt8) : Tx × Int := if l.length < 120 then (zeroTx, 10) else if 120 < l.length then (zeroTx, 11) else if (txOf l).sign = sgn (txOf l) then (txOf l, 0) else (zeroTx, 110)
theorem num8 {l : List UInt8} (h : l.length = 8) : numOf l < 18446744073709551616 := by
  have := (digs_numOf 8 l h (by decide)).2
  simpa using this
theorem txOf_ok {l : List UInt8} (h : l.length = 120) : (txOf l).ok :=
  ⟨by simp [txOf, h], by simp [txOf, h], num8 (by simp [h]), num8 (by simp [h]), num8 (by simp [h]), by simp [txOf, h]⟩
theorem txRead_ok (l : List UInt8) : (txRead l).1.ok := by
  unfold txRead
  split
  · exact zeroTx_ok
  split
  · exact zeroTx_ok
  split
  · exact txOf_ok (by omega)
  · exact zeroTx_ok
theorem Tx.set0 {x : Tx} (h : x.ok) (s : List UInt8) (hs : s.length = 32) : splice x.cells (0 + 0) (bvs s) = ({ x with pub := s } : Tx).cells := by
  have e := splice_mid (α := Value) [] (bvs x.pub) (bvs x.to ++ (.int .u64 (x.nonce : Int) :: (.int .u64 (x.amount : Int) :: (.int .u64 (x.fee : Int) :: bvs x.sign)))) (bvs s) (0 + 0) rfl (by simp [h.pub, hs])
  exact e
theorem Tx.set1 {x : Tx} (h : x.ok) (s : List UInt8) (hs : s.length = 32) : splice x.cells (0 + 32) (bvs s) = ({ x with to := s } : Tx).cells := by
  have e := splice_mid (α := Value) (bvs x.pub) (bvs x.to) (.int .u64 (x.nonce : Int) :: (.int .u64 (x.amount : Int) :: (.int .u64 (x.fee : Int) :: bvs x.sign))) (bvs s) (0 + 32) (by simp [h.pub]) (by simp [h.to, hs])
  exact e
theorem Tx.set2 {x : Tx} (h : x.ok) (k : Nat) : splice x.cells (0 + 64) [.int .u64 (k : Int)] = ({ x with nonce := k } : Tx).cells := by
  have e := splice_mid (α := Value) (bvs x.pub ++ bvs x.to) [.int .u64 (x.nonce : Int)] (.int .u64 (x.amount : Int) :: (.int .u64 (x.fee : Int) :: bvs x.sign)) [.int .u64 (k : Int)] (0 + 64) (by simp [h.pub, h.to]) rfl
  simpa [Tx.cells] using e
end Go.Proofs.Ytgffejpcldeklaa
