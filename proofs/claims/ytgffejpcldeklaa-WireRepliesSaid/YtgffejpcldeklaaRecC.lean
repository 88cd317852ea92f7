/-
  Deposits' ids; the document's receipts: the walks.
-/
import Derived.Test.YtgffejpcldeklaaGHB
import Derived.Test.YtgffejpcldeklaaGF
import Derived.Test.YtgffejpcldeklaaGH
set_option linter.unusedVariables false
set_option linter.unusedSimpArgs false
set_option linter.unusedSectionVars false

namespace Go.Proofs.Ytgffejpcldeklaa
open Go Go.RowKit

structure Dep where
  number : Nat
  to : List UInt8
  amount : Nat
def Dep.cells (d : Dep) : List Value := .int .u64 (d.number : Int) :: (bvs d.to ++ [.int .u64 (d.amount : Int)])
structure Dep.ok (d : Dep) : Prop where
  number : d.number < 18446744073709551616
  to : d.to.length = 32
  amount : d.amount < 18446744073709551616
theorem Dep.len {d : Dep} (o : d.ok) : d.cells.length = 34 := by simp [Dep.cells, o.to]
theorem Dep.f0 (d : Dep) : d.cells[0 + 0]? = some (.int .u64 (d.number : Int)) := rfl
theorem Dep.f1 {d : Dep} (o : d.ok) : (d.cells.drop (0 + 1)).take 32 = bvs d.to := by
  simp only [Dep.cells, Nat.zero_add, List.drop_succ_cons, List.drop_zero]
  rw [List.take_left' (by simp [o.to])]
theorem Dep.f2 {d : Dep} (o : d.ok) : d.cells[0 + 33]? = some (.int .u64 (d.amount : Int)) := by
  have e : d.cells = (.int .u64 (d.number : Int) :: bvs d.to) ++ [.int .u64 (d.amount : Int)] := by simp [Dep.cells]
  rw [e, List.getElem?_append_right (by simp [o.to])]
  simp [o.to]
abbrev recShape : Shape := some .u8 :: (List.replicate 32 (some .u8) ++ [some .i64])
theorem Rec.fits {x : Rec} (h : x.ok) : Fits recShape x.cells := by
  have a := fits_bvs x.id
  rw [h.id] at a
  exact ⟨⟨_, rfl⟩, a.append ⟨⟨_, rfl⟩, trivial⟩⟩
theorem Rec.inj {x y : Rec} (h : x.ok) (k : y.ok) : x.cells = y.cells ↔ x = y := by
  refine ⟨fun e => ?_, fun e => by rw [e]⟩
  unfold Rec.cells at e
  simp only [List.cons.injEq, Value.int.injEq, true_and] at e
  obtain ⟨e0, e⟩ := e
  obtain ⟨e1, e4⟩ := List.append_inj e (by simp [h.id, k.id])
  simp only [List.cons.injEq, Value.int.injEq, true_and, and_true] at e4
  obtain ⟨n, p, m⟩ := x
  obtain ⟨n', p', m'⟩ := y
  simp only at e0 e1 e4
  have := bvs_inj e1
  simp only [Rec.mk.injEq]
  refine ⟨by omega, by assumption, e4⟩
section
variable {P : Program} {w0 : World} {n : Nat} {ds : List Deferred} {fr : Fr} {L : List Asn} {dst : Option Nat} {ty : TypeId} {pos : String} {after : Array Edge} {gd : Option (Nat × Bool)}
theorem vq_eqRec {t yt : TypeId} {a b : Operand} {x y : Rec} (hx : evA fr a = some (.agg x.cells.toArray)) (hy : evA fr b = some (.agg y.cells.toArray)) [he : EqI P t recShape] (hox : x.ok) (hoy : y.ok) : VQ P w0 n ⟨dst, .binOp .eql t a b yt, ty, pos, after, gd⟩ (.bool (decide (x = y))) ds fr L :=
  vq_val (fun u w hk _ => run_eqAgg t yt a b rfl he x.cells y.cells (hk.ev hx) (hk.ev hy) (Rec.fits hox) (Rec.fits hoy) _ (Rec.inj hox hoy))
theorem vq_eqRecS {t yt : TypeId} {a b : Operand} {x : Rec} (hx : evA fr a = some (.agg x.cells.toArray)) (hy : evA fr b = some (.agg x.cells.toArray)) [he : EqI P t recShape] (hox : x.ok) : VQ P w0 n ⟨dst, .binOp .eql t a b yt, ty, pos, after, gd⟩ (.bool true) ds fr L := by
  have h := vq_eqRec (P := P) (w0 := w0) (n := n) (ds := ds) (L := L) (dst := dst) (ty := ty) (pos := pos) (after := after) (gd := gd) (t := t) (yt := yt) hx hy hox hox
  rwa [decide_eq_true rfl] at h
end
end Go.Proofs.Ytgffejpcldeklaa
