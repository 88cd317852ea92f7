/-
  Headers: their cells; whether one may be; its bytes.
-/
import Derived.Test.YtbgokghmedmhaaaDoorGF
import Derived.Test.YtbgokghmedmhaaaDoorGH
import Derived.Test.YtbgokghmedmhaaaDoorGC
set_option linter.unusedVariables false
set_option linter.unusedSimpArgs false
namespace Go.Proofs.YtbgokghmedmhaaaDoor
open Go Go.RowKit
set_option linter.unusedVariables false
set_option linter.unusedSimpArgs false

structure Hd where
  height : Int
  parent : List UInt8
  state : List UInt8
  rows : List UInt8
  many : Int
def Hd.cells (h : Hd) : List Value := .int .i64 h.height :: (bvs h.parent ++ (bvs h.state ++ (bvs h.rows ++ [.int .i64 h.many])))
structure Hd.ok (h : Hd) : Prop where
  parent : h.parent.length = 32
  state : h.state.length = 32
  rows : h.rows.length = 32
theorem Hd.len {h : Hd} (o : h.ok) : h.cells.length = 98 := by simp [Hd.cells, o.parent, o.state, o.rows]
instance oc_hd (h : Hd) : OC h.cells := (inferInstance : OC (.int .i64 h.height :: (bvs h.parent ++ (bvs h.state ++ (bvs h.rows ++ [.int .i64 h.many])))))
theorem Hd.f0 (h : Hd) : h.cells[0 + 0]? = some (.int .i64 h.height) := rfl
theorem Hd.f1 {h : Hd} (o : h.ok) : (h.cells.drop (0 + 1)).take 32 = bvs h.parent := by
  simp only [Hd.cells, Nat.zero_add, List.drop_succ_cons, List.drop_zero]
  rw [List.take_left' (by simp [o.parent])]
theorem Hd.f2 {h : Hd} (o : h.ok) : (h.cells.drop (0 + 33)).take 32 = bvs h.state := by
  have e : h.cells = (.int .i64 h.height :: bvs h.parent) ++ (bvs h.state ++ (bvs h.rows ++ [.int .i64 h.many])) := by simp [Hd.cells]
  rw [e, List.drop_left' (by simp [o.parent]), List.take_left' (by simp [o.state])]
theorem Hd.f3 {h : Hd} (o : h.ok) : (h.cells.drop (0 + 65)).take 32 = bvs h.rows := by
  have e : h.cells = (.int .i64 h.height :: (bvs h.parent ++ bvs h.state)) ++ (bvs h.rows ++ [.int .i64 h.many]) := by simp [Hd.cells]
  rw [e, List.drop_left' (by simp [o.parent, o.state]), List.take_left' (by simp [o.rows])]
theorem Hd.f4 {h : Hd} (o : h.ok) : h.cells[0 + 97]? = some (.int .i64 h.many) := by
  have e : h.cells = (.int .i64 h.height :: (bvs h.parent ++ (bvs h.state ++ bvs h.rows))) ++ [.int .i64 h.many] := by simp [Hd.cells]
  rw [e, List.getElem?_append_right (by simp [o.parent, o.state, o.rows])]
  simp [o.parent, o.state, o.rows]
abbrev hdShape : Shape := some .i64 :: (List.replicate 32 (some .u8) ++ (List.replicate 32 (some .u8) ++ (List.replicate 32 (some .u8) ++ [some .i64])))
/-- Whether one may be. -/
def Hd.may (h : Hd) : Bool := decide (0 ≤ h.height ∧ h.height ≤ 1073741824 ∧ 0 ≤ h.many ∧ h.many ≤ 256)
def hBytes (h : Hd) : List UInt8 := digs h.height.toNat 8 ++ (h.parent ++ (h.state ++ (h.rows ++ digs h.many.toNat 4)))
def hHash (h : Hd) : List UInt8 := sha (tagB 6 [hBytes h])
set_option maxRecDepth 100000 in
theorem hcheck_vc (w0 : World) (L : List Asn) (h : Hd) (o : h.ok) :
    VC Tryd.prog w0 136 [.agg h.cells.toArray] L fun v L' => v = .int .i64 (if h.may then 0 else 8) ∧ L' = L := by
  have f0 := Hd.f0 h
  have f4 := Hd.f4 o
  unfold Hd.may
  generalize h.cells = cs at *
  generalize h.height = H at *
  generalize h.many = M at *
  refine vc_ent ?_
  refine vc_in rfl rfl ?_
  repeat' (first | (refine go1 ?_; intros) | (refine vl_caseG rfl rfl rfl rfl ?_ ?_ <;> (intro hb; (try simp only [decide_eq_true_eq, decide_eq_false_iff_not, Bool.not_eq_true', Bool.not_eq_false', ne_eq, Decidable.not_not, Option.isNone_iff_eq_none, not_true_eq_false, not_false_eq_true] at hb); try (exfalso; omega))) | (refine v_cond rfl ?_ ?_ <;> (intro hb; (try simp only [decide_eq_true_eq, decide_eq_false_iff_not, Bool.not_eq_true', Bool.not_eq_false', ne_eq, Decidable.not_not, Option.isNone_iff_eq_none, not_true_eq_false, not_false_eq_true] at hb); try (exfalso; omega))) | fail)
  all_goals refine ⟨_, (se_drop _ _).ent w0, ?_, rfl⟩
  all_goals first | (rw [decide_eq_true (by omega)]; rfl) | (rw [decide_eq_false (by omega)]; rfl)
end Go.Proofs.YtbgokghmedmhaaaDoor
