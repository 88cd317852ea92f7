/-
  Transactions of bytes: what is read; the document's walk.
-/
import Derived.Test.YtcpcbgfnglnkcaaDoorTxF
import Derived.Test.YtcpcbgfnglnkcaaDoorGC
set_option linter.unusedVariables false
set_option linter.unusedSimpArgs false
set_option linter.unusedSectionVars false

namespace Go.Proofs.YtcpcbgfnglnkcaaDoor
open Go Go.RowKit

/-- The transaction of bytes, and the error. -/
def txOf (l : List UInt8) : Tx := ⟨l.take 32, (l.drop 32).take 32, numOf ((l.drop 64).take 8), numOf ((l.drop 72).take 8), numOf ((l.drop 80).take 8), (l.drop 88).take 32⟩
def txRead (l : List UInt8) : Tx × Int := if l.length < 120 then (zeroTx, 10) else if 120 < l.length then (zeroTx, 11) else if (txOf l).sign = sgn (txOf l) then (txOf l, 0) else (zeroTx, 110)
theorem num8 {l : List UInt8} (h : l.length = 8) : numOf l < 18446744073709551616 := by
  have := (digs_numOf 8 l h (by decide)).2
  simpa using this
theorem txOf_ok {l : List UInt8} (h : l.length = 120) : (txOf l).ok :=
  ⟨by simp [txOf, h], by simp [txOf, h], num8 (by simp [h]), num8 (by simp [h]), num8 (by simp [h]), by simp [txOf, h]⟩
theorem txRead_ok (l : List UInt8) : (txRead l).1.ok := by
  unfold txRead
  split
  · exact zeroTx_ok
  split
  · exact zeroTx_ok
  split
  · exact txOf_ok (by omega)
  · exact zeroTx_ok
theorem txOf_bytes {x : Tx} (h : x.ok) : txOf (txBytes x) = x := by
  have n8 : ∀ n, n < 18446744073709551616 → numOf (digs n 8) = n := fun n hn => numOf_digs 8 n (by decide) (by simpa using hn)
  have e : txBytes x = x.pub ++ (x.to ++ (digs x.nonce 8 ++ (digs x.amount 8 ++ (digs x.fee 8 ++ x.sign)))) := by simp [txBytes, txBody]
  have d8 := digs_length x.nonce 8
  have e8 := digs_length x.amount 8
  have f8 := digs_length x.fee 8
  unfold txOf
  obtain ⟨p, t, n, a, f, s⟩ := x
  have hp : p.length = 32 := h.pub
  have ht : t.length = 32 := h.to
  have hs : s.length = 32 := h.sign
  simp only [e]
  rw [List.take_left' hp, List.drop_left' hp, List.take_left' ht]
  rw [show (64 : Nat) = 32 + 32 from rfl, show (72 : Nat) = 32 + (32 + 8) from rfl, show (80 : Nat) = 32 + (32 + (8 + 8)) from rfl, show (88 : Nat) = 32 + (32 + (8 + (8 + 8))) from rfl]
  simp only [← List.drop_drop, List.drop_left' hp, List.drop_left' ht, List.drop_left' d8, List.drop_left' e8, List.drop_left' f8, List.take_left' d8, List.take_left' e8, List.take_left' f8]
  rw [n8 _ h.nonce, n8 _ h.amount, n8 _ h.fee, List.take_of_length_le (by omega)]
theorem txBytes_of {l : List UInt8} (h : l.length = 120) : txBytes (txOf l) = l := by
  have b : ∀ k, digs (numOf ((l.drop k).take 8)) 8 = (l.drop k).take 8 ∨ 120 < k + 8 := by
    intro k
    by_cases hk : 120 < k + 8
    · exact .inr hk
    · exact .inl (digs_numOf 8 _ (by simp; omega) (by decide)).1
  have b1 := (b 64).resolve_right (by decide)
  have b2 := (b 72).resolve_right (by decide)
  have b3 := (b 80).resolve_right (by decide)
  unfold txBytes txBody txOf
  dsimp only
  rw [b1, b2, b3, List.take_of_length_le (show (l.drop 88).length ≤ 32 by simp; omega)]
  simp only [List.append_assoc]
  have c : ∀ k m, (l.drop k).take m ++ l.drop (k + m) = l.drop k := fun k m => by rw [← List.drop_drop, List.take_append_drop]
  rw [show (88 : Nat) = 80 + 8 from rfl, c 80 8, show (80 : Nat) = 72 + 8 from rfl, c 72 8, show (72 : Nat) = 64 + 8 from rfl, c 64 8, show (64 : Nat) = 32 + 32 from rfl, c 32 32, List.take_append_drop]

theorem Tx.set0 {x : Tx} (h : x.ok) (s : List UInt8) (hs : s.length = 32) : splice x.cells (0 + 0) (bvs s) = ({ x with pub := s } : Tx).cells := by
  have e := splice_mid (α := Value) [] (bvs x.pub) (bvs x.to ++ (.int .u64 (x.nonce : Int) :: (.int .u64 (x.amount : Int) :: (.int .u64 (x.fee : Int) :: bvs x.sign)))) (bvs s) (0 + 0) rfl (by simp [h.pub, hs])
  exact e
theorem Tx.set1 {x : Tx} (h : x.ok) (s : List UInt8) (hs : s.length = 32) : splice x.cells (0 + 32) (bvs s) = ({ x with to := s } : Tx).cells := by
  have e := splice_mid (α := Value) (bvs x.pub) (bvs x.to) (.int .u64 (x.nonce : Int) :: (.int .u64 (x.amount : Int) :: (.int .u64 (x.fee : Int) :: bvs x.sign))) (bvs s) (0 + 32) (by simp [h.pub]) (by simp [h.to, hs])
  exact e
theorem Tx.set2 {x : Tx} (h : x.ok) (k : Nat) : splice x.cells (0 + 64) [.int .u64 (k : Int)] = ({ x with nonce := k } : Tx).cells := by
  have e := splice_mid (α := Value) (bvs x.pub ++ bvs x.to) [.int .u64 (x.nonce : Int)] (.int .u64 (x.amount : Int) :: (.int .u64 (x.fee : Int) :: bvs x.sign)) [.int .u64 (k : Int)] (0 + 64) (by simp [h.pub, h.to]) rfl
  simpa [Tx.cells] using e
theorem Tx.set3 {x : Tx} (h : x.ok) (k : Nat) : splice x.cells (0 + 65) [.int .u64 (k : Int)] = ({ x with amount := k } : Tx).cells := by
  have e := splice_mid (α := Value) (bvs x.pub ++ (bvs x.to ++ [.int .u64 (x.nonce : Int)])) [.int .u64 (x.amount : Int)] (.int .u64 (x.fee : Int) :: bvs x.sign) [.int .u64 (k : Int)] (0 + 65) (by simp [h.pub, h.to]) rfl
  simpa [Tx.cells] using e
theorem Tx.set4 {x : Tx} (h : x.ok) (k : Nat) : splice x.cells (0 + 66) [.int .u64 (k : Int)] = ({ x with fee := k } : Tx).cells := by
  have e := splice_mid (α := Value) (bvs x.pub ++ (bvs x.to ++ [.int .u64 (x.nonce : Int), .int .u64 (x.amount : Int)])) [.int .u64 (x.fee : Int)] (bvs x.sign) [.int .u64 (k : Int)] (0 + 66) (by simp [h.pub, h.to]) rfl
  simpa [Tx.cells] using e
theorem splice_cons (s : Value) (cs : List Value) (k : Nat) (vs : List Value) : splice (s :: cs) (0 + 1 + k) vs = s :: splice cs (0 + k) vs := by
  simp only [splice, Nat.zero_add]
  rw [show 1 + k = k + 1 by omega, show k + 1 + vs.length = (k + vs.length) + 1 by omega]
  simp

end Go.Proofs.YtcpcbgfnglnkcaaDoor
