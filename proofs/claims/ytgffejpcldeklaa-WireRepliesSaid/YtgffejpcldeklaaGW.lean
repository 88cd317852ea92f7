/-
  Transactions: their cells; what is signed. The body of a transaction: both walks. Bytes, signs, ids of transactions: the walks. Signs and ids of transactions: the walks. Senders of transactions; what is told of one: the law.
-/
import Derived.Test.YtgffejpcldeklaaGF
import Derived.Test.YtgffejpcldeklaaGC
import Derived.Test.YtgffejpcldeklaaGH
set_option linter.unusedVariables false
set_option linter.unusedSimpArgs false
set_option linter.unusedSectionVars false

namespace Go.Proofs.Ytgffejpcldeklaa
open Go Go.RowKit

structure Tx where
  pub : List UInt8
  to : List UInt8
  nonce : Nat
  amount : Nat
  fee : Nat
  sign : List UInt8
deriving DecidableEq
def Tx.cells (x : Tx) : List Value := bvs x.pub ++ (bvs x.to ++ (.int .u64 (x.nonce : Int) :: (.int .u64 (x.amount : Int) :: (.int .u64 (x.fee : Int) :: bvs x.sign))))
structure Tx.ok (x : Tx) : Prop where
  pub : x.pub.length = 32
  to : x.to.length = 32
  nonce : x.nonce < 18446744073709551616
  amount : x.amount < 18446744073709551616
  fee : x.fee < 18446744073709551616
  sign : x.sign.length = 32
theorem Tx.len {x : Tx} (h : x.ok) : x.cells.length = 99 := by simp [Tx.cells, h.pub, h.to, h.sign]
theorem Tx.f0 {x : Tx} (h : x.ok) : (x.cells.drop (0 + 0)).take 32 = bvs x.pub := by
  simp only [Tx.cells, Nat.add_zero, List.drop_zero]
  rw [List.take_left' (by simp [h.pub])]
theorem Tx.f1 {x : Tx} (h : x.ok) : (x.cells.drop (0 + 32)).take 32 = bvs x.to := by
  simp only [Tx.cells, Nat.zero_add]
  rw [List.drop_left' (by simp [h.pub]), List.take_left' (by simp [h.to])]
theorem Tx.f2 {x : Tx} (h : x.ok) : x.cells[0 + 64]? = some (.int .u64 (x.nonce : Int)) := by
  simp [Tx.cells, List.getElem?_append, h.pub, h.to]
theorem Tx.f3 {x : Tx} (h : x.ok) : x.cells[0 + 65]? = some (.int .u64 (x.amount : Int)) := by
  simp [Tx.cells, List.getElem?_append, h.pub, h.to]
theorem Tx.f4 {x : Tx} (h : x.ok) : x.cells[0 + 66]? = some (.int .u64 (x.fee : Int)) := by
  simp [Tx.cells, List.getElem?_append, h.pub, h.to]
theorem Tx.cut {x : Tx} : x.cells = (bvs x.pub ++ (bvs x.to ++ [.int .u64 (x.nonce : Int), .int .u64 (x.amount : Int), .int .u64 (x.fee : Int)])) ++ bvs x.sign := by simp [Tx.cells]
theorem Tx.f5 {x : Tx} (h : x.ok) : (x.cells.drop (0 + 67)).take 32 = bvs x.sign := by
  rw [Tx.cut, List.drop_left' (by simp [h.pub, h.to]), List.take_of_length_le (by simp [h.sign])]
theorem Tx.withSign {x : Tx} (h : x.ok) {s : List UInt8} (hs : s.length = 32) : ({ x with sign := s } : Tx).ok := ⟨h.pub, h.to, h.nonce, h.amount, h.fee, hs⟩
abbrev txShape : Shape := List.replicate 32 (some .u8) ++ (List.replicate 32 (some .u8) ++ (some .u64 :: (some .u64 :: (some .u64 :: List.replicate 32 (some .u8)))))
theorem Tx.fits {x : Tx} (h : x.ok) : Fits txShape x.cells := by
  have a := fits_bvs x.pub
  have b := fits_bvs x.to
  have c := fits_bvs x.sign
  rw [h.pub] at a
  rw [h.to] at b
  rw [h.sign] at c
  exact a.append (b.append ⟨⟨_, rfl⟩, ⟨_, rfl⟩, ⟨_, rfl⟩, c⟩)
theorem Tx.inj {x y : Tx} (h : x.ok) (k : y.ok) : x.cells = y.cells ↔ x = y := by
  refine ⟨fun e => ?_, fun e => by rw [e]⟩
  unfold Tx.cells at e
  obtain ⟨e1, e⟩ := List.append_inj e (by simp [h.pub, k.pub])
  obtain ⟨e2, e⟩ := List.append_inj e (by simp [h.to, k.to])
  simp only [List.cons.injEq, Value.int.injEq, true_and] at e
  obtain ⟨e3, e4, e5, e6⟩ := e
  obtain ⟨p, t, n, a, f, s⟩ := x
  obtain ⟨p', t', n', a', f', s'⟩ := y
  simp only at e1 e2 e3 e4 e5 e6
  have := bvs_inj e1
  have := bvs_inj e2
  have := bvs_inj e6
  simp only [Tx.mk.injEq]
  refine ⟨by assumption, by assumption, by omega, by omega, by omega, by assumption⟩
section
variable {P : Program} {w0 : World} {n : Nat} {ds : List Deferred} {fr : Fr} {L : List Asn} {dst : Option Nat} {ty : TypeId} {pos : String} {after : Array Edge} {gd : Option (Nat × Bool)}
theorem vq_eqTx {t yt : TypeId} {a b : Operand} {x y : Tx} (hx : evA fr a = some (.agg x.cells.toArray)) (hy : evA fr b = some (.agg y.cells.toArray)) [he : EqI P t txShape] (hox : x.ok) (hoy : y.ok) : VQ P w0 n ⟨dst, .binOp .eql t a b yt, ty, pos, after, gd⟩ (.bool (decide (x = y))) ds fr L :=
  vq_val (fun u w hk _ => run_eqAgg t yt a b rfl he x.cells y.cells (hk.ev hx) (hk.ev hy) (Tx.fits hox) (Tx.fits hoy) _ (Tx.inj hox hoy))
end

section
variable {P : Program} {w0 : World} {n : Nat} {ds : List Deferred} {fr : Fr} {L : List Asn} {dst : Option Nat} {ty : TypeId} {pos : String} {after : Array Edge} {gd : Option (Nat × Bool)}
theorem vq_eqTxS {t yt : TypeId} {a b : Operand} {x : Tx} (hx : evA fr a = some (.agg x.cells.toArray)) (hy : evA fr b = some (.agg x.cells.toArray)) [he : EqI P t txShape] (hox : x.ok) : VQ P w0 n ⟨dst, .binOp .eql t a b yt, ty, pos, after, gd⟩ (.bool true) ds fr L := by
  have h := vq_eqTx (P := P) (w0 := w0) (n := n) (ds := ds) (L := L) (dst := dst) (ty := ty) (pos := pos) (after := after) (gd := gd) (t := t) (yt := yt) hx hy hox hox
  rwa [decide_eq_true rfl] at h
theorem vq_eqS {t yt : TypeId} {x y : Operand} {k : IntKind} {m : Int} (hx : evA fr x = some (.int k m)) (hy : evA fr y = some (.int k m)) : VQ P w0 n ⟨dst, .binOp .eql t x y yt, ty, pos, after, gd⟩ (.bool true) ds fr L := by
  have h := vq_eq (P := P) (w0 := w0) (n := n) (ds := ds) (L := L) (dst := dst) (ty := ty) (pos := pos) (after := after) (gd := gd) (t := t) (yt := yt) hx hy
  rwa [decide_eq_true rfl] at h
end

/-- What is signed; the bytes. -/
def txBody (x : Tx) : List UInt8 := x.pub ++ (x.to ++ (digs x.nonce 8 ++ (digs x.amount 8 ++ digs x.fee 8)))
def txBytes (x : Tx) : List UInt8 := txBody x ++ x.sign
end Go.Proofs.Ytgffejpcldeklaa
namespace Go.Proofs.Ytgffejpcldeklaa
open Go Go.RowKit

def u64s (l : List Nat) : List Value := l.map fun (n : Nat) => .int .u64 (n : Int)
@[simp] theorem u64s_length (l : List Nat) : (u64s l).length = l.length := by simp [u64s]
end Go.Proofs.Ytgffejpcldeklaa
namespace Go.Proofs.Ytgffejpcldeklaa
open Go Go.RowKit

end Go.Proofs.Ytgffejpcldeklaa
namespace Go.Proofs.Ytgffejpcldeklaa
open Go Go.RowKit

/-- The right sign of one; signed. -/
def sgn (x : Tx) : List UInt8 := sha (tagB 4 [txBody x])
def signed (x : Tx) : Tx := { x with sign := sgn x }
theorem sgn_length (x : Tx) : (sgn x).length = 32 := sha_length _
theorem Tx.ok.signed {x : Tx} (h : x.ok) : (signed x).ok := Tx.withSign h (sgn_length x)
end Go.Proofs.Ytgffejpcldeklaa
namespace Go.Proofs.Ytgffejpcldeklaa
open Go Go.RowKit

end Go.Proofs.Ytgffejpcldeklaa
