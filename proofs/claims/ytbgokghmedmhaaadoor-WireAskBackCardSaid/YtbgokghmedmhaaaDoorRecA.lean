/-
  Receipts: their cells; whether one may be; its bytes; the program's walks.
-/
import Derived.Test.YtbgokghmedmhaaaDoorGC
set_option linter.unusedVariables false
set_option linter.unusedSimpArgs false
namespace Go.Proofs.YtbgokghmedmhaaaDoor
open Go Go.RowKit
set_option linter.unusedVariables false
set_option linter.unusedSimpArgs false

structure Rec where
  kind : Nat
  id : List UInt8
  code : Int
deriving DecidableEq
def Rec.cells (r : Rec) : List Value := .int .u8 (r.kind : Int) :: (bvs r.id ++ [.int .i64 r.code])
structure Rec.ok (r : Rec) : Prop where
  kind : r.kind < 256
  id : r.id.length = 32
theorem Rec.len {r : Rec} (o : r.ok) : r.cells.length = 34 := by simp [Rec.cells, o.id]
instance oc_rec (r : Rec) : OC r.cells := (inferInstance : OC (.int .u8 (r.kind : Int) :: (bvs r.id ++ [.int .i64 r.code])))
theorem Rec.f0 (r : Rec) : r.cells[0 + 0]? = some (.int .u8 (r.kind : Int)) := rfl
theorem Rec.f1 {r : Rec} (o : r.ok) : (r.cells.drop (0 + 1)).take 32 = bvs r.id := by
  simp only [Rec.cells, Nat.zero_add, List.drop_succ_cons, List.drop_zero]
  rw [List.take_left' (by simp [o.id])]
theorem Rec.f2 {r : Rec} (o : r.ok) : r.cells[0 + 33]? = some (.int .i64 r.code) := by
  have e : r.cells = (.int .u8 (r.kind : Int) :: bvs r.id) ++ [.int .i64 r.code] := by simp [Rec.cells]
  rw [e, List.getElem?_append_right (by simp [o.id])]
  simp [o.id]
/-- Whether one may be. -/
def Rec.may (r : Rec) : Bool := decide ((r.kind = 1 ∧ (r.code = 0 ∨ r.code = 151)) ∨ (r.kind = 2 ∧ (r.code = 0 ∨ r.code = 151 ∨ r.code = 150)))
def recBytes (r : Rec) : List UInt8 := UInt8.ofNat r.kind :: (r.id ++ digs r.code.toNat 2)
theorem Rec.set0 (r : Rec) (k : Nat) : splice r.cells (0 + 0) [.int .u8 (k : Int)] = ({ r with kind := k } : Rec).cells := by
  simp [Rec.cells, splice]
theorem Rec.set1 {r : Rec} (o : r.ok) (d : List UInt8) (hd : d.length = 32) : splice r.cells (0 + 1) (bvs d) = ({ r with id := d } : Rec).cells := by
  have e : r.cells = [.int .u8 (r.kind : Int)] ++ (bvs r.id ++ [.int .i64 r.code]) := by simp [Rec.cells]
  rw [e, splice_mid (α := Value) [.int .u8 (r.kind : Int)] (bvs r.id) [.int .i64 r.code] (bvs d) (0 + 1) (by simp) (by simp [o.id, hd])]
  simp [Rec.cells]
theorem Rec.set2 {r : Rec} (o : r.ok) (c : Int) : splice r.cells (0 + 33) [.int .i64 c] = ({ r with code := c } : Rec).cells := by
  have e : r.cells = (.int .u8 (r.kind : Int) :: bvs r.id) ++ ([.int .i64 r.code] ++ []) := by simp [Rec.cells]
  rw [e, splice_mid (α := Value) (.int .u8 (r.kind : Int) :: bvs r.id) [.int .i64 r.code] [] [.int .i64 c] (0 + 33) (by simp [o.id]) (by simp)]
  simp [Rec.cells]
def recZero : Rec := ⟨0, List.replicate 32 0, 0⟩
theorem recZero_ok : recZero.ok := ⟨by decide, by simp [recZero]⟩
/-- The receipt of bytes, and the error. -/
def recOf (l : List UInt8) : Rec := ⟨(l.getD 0 0).toNat, (l.drop 1).take 32, (numOf (l.drop 33) : Int)⟩
def recRead (l : List UInt8) : Rec × Int := if l.length < 35 then (recZero, 10) else if 35 < l.length then (recZero, 11) else if (recOf l).may then (recOf l, 0) else (recZero, 8)
end Go.Proofs.YtbgokghmedmhaaaDoor
