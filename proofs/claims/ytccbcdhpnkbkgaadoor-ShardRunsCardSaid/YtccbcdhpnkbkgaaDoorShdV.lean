/-
  What is submitted to a shard is there, and all else stays: the law.
-/
import Derived.Test.YtccbcdhpnkbkgaaDoorShdL
set_option linter.unusedVariables false
set_option linter.unusedSimpArgs false
namespace Go.Proofs.YtccbcdhpnkbkgaaDoor
open Go Go.RowKit
set_option linter.unusedVariables false
set_option linter.unusedSimpArgs false
set_option linter.unusedSectionVars false
open Classical

section
variable {P : Program} {w0 : World} {n : Nat} {ds : List Deferred} {fr : Fr} {L : List Asn} {dst : Option Nat} {ty : TypeId} {pos : String} {after : Array Edge} {gd : Option (Nat × Bool)}
/-- Transactions of which it is known whether they are the same. -/
theorem vq_eqTxD {t yt : TypeId} {a b : Operand} {x y : Tx} (hx : evA fr a = some (.agg x.cells.toArray)) (hy : evA fr b = some (.agg y.cells.toArray)) [he : EqI P t txShape] (hox : x.ok) (hoy : y.ok) (h : ¬ x = y) : VQ P w0 n ⟨dst, .binOp .eql t a b yt, ty, pos, after, gd⟩ (.bool false) ds fr L := by
  have := vq_eqTx (P := P) (w0 := w0) (n := n) (ds := ds) (fr := fr) (L := L) (dst := dst) (ty := ty) (pos := pos) (after := after) (gd := gd) (t := t) (yt := yt) hx hy hox hoy
  rwa [decide_eq_false h] at this
theorem vq_eqTxE {t yt : TypeId} {a b : Operand} {x y : Tx} (hx : evA fr a = some (.agg x.cells.toArray)) (hy : evA fr b = some (.agg y.cells.toArray)) [he : EqI P t txShape] (hox : x.ok) (hoy : y.ok) (h : x = y) : VQ P w0 n ⟨dst, .binOp .eql t a b yt, ty, pos, after, gd⟩ (.bool true) ds fr L := by
  have := vq_eqTx (P := P) (w0 := w0) (n := n) (ds := ds) (fr := fr) (L := L) (dst := dst) (ty := ty) (pos := pos) (after := after) (gd := gd) (t := t) (yt := yt) hx hy hox hoy
  rwa [decide_eq_true h] at this
theorem vq_neTxD {t yt : TypeId} {a b : Operand} {x y : Tx} (hx : evA fr a = some (.agg x.cells.toArray)) (hy : evA fr b = some (.agg y.cells.toArray)) [he : EqI P t txShape] (hox : x.ok) (hoy : y.ok) (h : ¬ x = y) : VQ P w0 n ⟨dst, .binOp .neq t a b yt, ty, pos, after, gd⟩ (.bool true) ds fr L := by
  have := vq_neTx (P := P) (w0 := w0) (n := n) (ds := ds) (fr := fr) (L := L) (dst := dst) (ty := ty) (pos := pos) (after := after) (gd := gd) (t := t) (yt := yt) hx hy hox hoy
  rwa [decide_eq_false h] at this
end
theorem findQ_some {xs : List Tx} {k : Nat} {y : Tx} (h : atT xs k = some y) : findQ xs k = (y, true) := by
  unfold findQ
  rw [h]
theorem LsOk.of0 {ls : List Ln} (hw : ∀ p ∈ ls, p.own.length = 32 ∧ (∀ x ∈ p.xs, x.ok) ∧ p.xs.length ≤ 9223372036854775807) (h6 : ls.length ≤ 6 ∧ ∀ x ∈ ls, x.xs.length ≤ 20) : LsOk ls :=
  ⟨fun l hl => ⟨(hw l hl).1, ⟨(hw l hl).2.1, by have := h6.2 l hl; omega⟩⟩, by omega⟩
end Go.Proofs.YtccbcdhpnkbkgaaDoor
