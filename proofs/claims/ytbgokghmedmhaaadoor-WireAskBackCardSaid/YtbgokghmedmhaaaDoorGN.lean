/-
  What may be a proof. The program's check of a proof. Checks of a proof; what it tells. What a proof tells; twins of proofs. The program's proof.Same.
-/
import Derived.Test.YtbgokghmedmhaaaDoorGG
import Derived.Test.YtbgokghmedmhaaaDoorGK
set_option linter.unusedVariables false
set_option linter.unusedSimpArgs false
namespace Go.Proofs.YtbgokghmedmhaaaDoor
open Go Go.RowKit
set_option linter.unusedVariables false
set_option linter.unusedSimpArgs false

open Classical in
/-- How many bits two keys share. -/
noncomputable def sh (a b : List UInt8) : Nat := if h : ∃ n, IsSh a b n then Classical.choose h else 0
theorem IsSh.sh {a b : List UInt8} {n : Nat} (h : IsSh a b n) : sh a b = n := by
  have hx : ∃ n, IsSh a b n := ⟨n, h⟩
  unfold Proofs.YtbgokghmedmhaaaDoor.sh
  rw [dif_pos hx]
  exact (Classical.choose_spec hx).uniq h

/-- A proof's content. -/
structure Prf where
  key : List UInt8
  kind : Nat
  other : List UInt8
  va : Option Addr
  vc : Nat
  vl : List UInt8
  pa : Option Addr
  pc : Nat
  pl : List (List UInt8)
def Prf.cells (p : Prf) : List Value := bvs p.key ++ (.int .u8 p.kind :: (bvs p.other ++ [.slice p.va p.vl.length p.vc, .slice p.pa p.pl.length p.pc]))
structure Prf.ok (p : Prf) : Prop where
  key : p.key.length = 32
  kind : p.kind < 256
  other : p.other.length = 32
  dg : Dg p.pl
  vl : p.vl.length ≤ 1000000000000
  pl : p.pl.length ≤ 1000000000000
theorem Prf.len {p : Prf} (h : p.ok) : p.cells.length = 67 := by simp [Prf.cells, h.key, h.other]
theorem Prf.f0 {p : Prf} (h : p.ok) : (p.cells.drop (0 + 0)).take 32 = bvs p.key := by
  have := h.key
  simp only [Prf.cells, Nat.add_zero, List.drop_zero]
  rw [List.take_left' (by simpa)]
theorem Prf.f1 {p : Prf} (h : p.ok) : p.cells[0 + 32]? = some (.int .u8 p.kind) := by
  have := h.key
  simp [Prf.cells, List.getElem?_append, h.key]
theorem Prf.f2 {p : Prf} (h : p.ok) : (p.cells.drop (0 + 33)).take 32 = bvs p.other := by
  have := h.key
  have := h.other
  simp [Prf.cells, List.drop_append, List.take_append, h.key, h.other, List.drop_of_length_le]
theorem Prf.f3 {p : Prf} (h : p.ok) : p.cells[0 + 65]? = some (.slice p.va p.vl.length p.vc) := by
  simp [Prf.cells, List.getElem?_append, h.key, h.other]
theorem Prf.f4 {p : Prf} (h : p.ok) : p.cells[0 + 66]? = some (.slice p.pa p.pl.length p.pc) := by
  simp [Prf.cells, List.getElem?_append, h.key, h.other]
def zero32 : List UInt8 := List.replicate 32 0
/-- It may be one. -/
noncomputable def Prf.may1 (p : Prf) : Bool := (if p.kind = 0 then decide (p.other = zero32) && decide (p.vl.length = 0) else if p.kind = 1 then decide (p.other = zero32) && okVal p.vl.length else if p.kind = 2 then okVal p.vl.length && (decide (p.other ≠ p.key) && decide (p.pl.length ≤ sh p.other p.key)) else false)
noncomputable def Prf.may (p : Prf) : Bool := decide (p.pl.length ≤ 256) && p.may1

end Go.Proofs.YtbgokghmedmhaaaDoor
namespace Go.Proofs.YtbgokghmedmhaaaDoor
open Go Go.RowKit
set_option linter.unusedVariables false
set_option linter.unusedSimpArgs false

end Go.Proofs.YtbgokghmedmhaaaDoor
namespace Go.Proofs.YtbgokghmedmhaaaDoor
open Go Go.RowKit
set_option linter.unusedVariables false
set_option linter.unusedSimpArgs false

/-- What holds of a proof's parts whatever their lengths. -/
structure Prf.ok0 (p : Prf) : Prop where
  key : p.key.length = 32
  kind : p.kind < 256
  other : p.other.length = 32
  dg : Dg p.pl
theorem Prf.ok.ok0 {p : Prf} (h : p.ok) : p.ok0 := ⟨h.key, h.kind, h.other, h.dg⟩
theorem Prf.ok0.len {p : Prf} (h : p.ok0) : p.cells.length = 67 := by simp [Prf.cells, h.key, h.other]
theorem Prf.ok0.f3 {p : Prf} (h : p.ok0) : p.cells[0 + 65]? = some (.slice p.va p.vl.length p.vc) := by
  simp [Prf.cells, List.getElem?_append, h.key, h.other]
theorem Prf.ok0.f4 {p : Prf} (h : p.ok0) : p.cells[0 + 66]? = some (.slice p.pa p.pl.length p.pc) := by
  simp [Prf.cells, List.getElem?_append, h.key, h.other]
/-- It tells a value; the value. -/
noncomputable def Prf.isT (p : Prf) : Bool := p.may && decide (p.kind = 1)
noncomputable def Prf.tl (p : Prf) : List UInt8 := if p.isT then p.vl else []
end Go.Proofs.YtbgokghmedmhaaaDoor
namespace Go.Proofs.YtbgokghmedmhaaaDoor
open Go Go.RowKit
set_option linter.unusedVariables false
set_option linter.unusedSimpArgs false

end Go.Proofs.YtbgokghmedmhaaaDoor
namespace Go.Proofs.YtbgokghmedmhaaaDoor
open Go Go.RowKit
set_option linter.unusedVariables false
set_option linter.unusedSimpArgs false

set_option maxRecDepth 100000 in
theorem samep_vc (w0 : World) (L : List Asn) (p q : Prf) (h : p.ok) (k : q.ok) [hr : RdC w0 L p.va (bvs p.vl)] [hq : RdC w0 L q.va (bvs q.vl)] [hr2 : RdC w0 L p.pa (bvs p.pl.flatten)] [hq2 : RdC w0 L q.pa (bvs q.pl.flatten)] :
    VC Tryd.prog w0 151 [.agg p.cells.toArray, .agg q.cells.toArray] L fun v L' => v = .bool (decide (p.key = q.key ∧ p.kind = q.kind ∧ p.other = q.other ∧ p.vl = q.vl ∧ p.pl = q.pl)) ∧ L' = L := by
  have f0 := Prf.f0 h
  have f1 := Prf.f1 h
  have f2 := Prf.f2 h
  have f3 := Prf.f3 h
  have f4 := Prf.f4 h
  have hlk := h.key
  have hlo := h.other
  have g0 := Prf.f0 k
  have g1 := Prf.f1 k
  have g2 := Prf.f2 k
  have g3 := Prf.f3 k
  have g4 := Prf.f4 k
  have glk := k.key
  have glo := k.other
  refine vc_ent ?_
  refine vc_in rfl rfl ?_
  repeat' (first | (refine go1 ?_; intros) | (refine vl_caseG rfl rfl rfl rfl ?_ ?_ <;> (intro hb; (try simp only [decide_eq_true_eq, decide_eq_false_iff_not, Bool.not_eq_true', Bool.not_eq_false', ne_eq, Decidable.not_not, Option.isNone_iff_eq_none, not_true_eq_false, not_false_eq_true] at hb); try (exfalso; omega))) | (refine v_cond rfl ?_ ?_ <;> (intro hb; (try simp only [decide_eq_true_eq, decide_eq_false_iff_not, Bool.not_eq_true', Bool.not_eq_false', ne_eq, Decidable.not_not, Option.isNone_iff_eq_none, not_true_eq_false, not_false_eq_true] at hb); try (exfalso; omega))) | fail)
  · have hkk : p.kind = q.kind := by omega
    rename_i hb1 hb2
    refine vl_o rfl (vo_call rfl rfl ?_)
    refine vc_mono (eqB_vc w0 _ p.va p.vc p.vl q.va q.vc q.vl rfl rfl h.vl) ?_
    rintro v L' ⟨rfl, rfl⟩
    by_cases hv : p.vl = q.vl
    · rw [decide_eq_true hv]
      repeat' (first | (refine go1 ?_; intros) | (refine vl_caseG rfl rfl rfl rfl ?_ ?_ <;> (intro hb; (try simp only [decide_eq_true_eq, decide_eq_false_iff_not, Bool.not_eq_true', Bool.not_eq_false', ne_eq, Decidable.not_not, Option.isNone_iff_eq_none, not_true_eq_false, not_false_eq_true] at hb); try (exfalso; omega))) | (refine v_cond rfl ?_ ?_ <;> (intro hb; (try simp only [decide_eq_true_eq, decide_eq_false_iff_not, Bool.not_eq_true', Bool.not_eq_false', ne_eq, Decidable.not_not, Option.isNone_iff_eq_none, not_true_eq_false, not_false_eq_true] at hb); try (exfalso; omega))) | fail)
      refine vl_o rfl (vo_call rfl rfl ?_)
      refine vc_mono (eqD_vc w0 _ p.pa p.pc p.pl q.pa q.pc q.pl rfl rfl h.dg k.dg h.pl) ?_
      rintro v L' ⟨rfl, rfl⟩
      repeat' (first | (refine go1 ?_; intros) | (refine vl_caseG rfl rfl rfl rfl ?_ ?_ <;> (intro hb; (try simp only [decide_eq_true_eq, decide_eq_false_iff_not, Bool.not_eq_true', Bool.not_eq_false', ne_eq, Decidable.not_not, Option.isNone_iff_eq_none, not_true_eq_false, not_false_eq_true] at hb); try (exfalso; omega))) | (refine v_cond rfl ?_ ?_ <;> (intro hb; (try simp only [decide_eq_true_eq, decide_eq_false_iff_not, Bool.not_eq_true', Bool.not_eq_false', ne_eq, Decidable.not_not, Option.isNone_iff_eq_none, not_true_eq_false, not_false_eq_true] at hb); try (exfalso; omega))) | fail)
      refine ⟨_, ((se_drop _ _).trans (se_drop _ _)).ent w0, ?_, rfl⟩
      simp [hb1, hkk, hb, hv]
    · rw [decide_eq_false hv]
      repeat' (first | (refine go1 ?_; intros) | (refine vl_caseG rfl rfl rfl rfl ?_ ?_ <;> (intro hb; (try simp only [decide_eq_true_eq, decide_eq_false_iff_not, Bool.not_eq_true', Bool.not_eq_false', ne_eq, Decidable.not_not, Option.isNone_iff_eq_none, not_true_eq_false, not_false_eq_true] at hb); try (exfalso; omega))) | (refine v_cond rfl ?_ ?_ <;> (intro hb; (try simp only [decide_eq_true_eq, decide_eq_false_iff_not, Bool.not_eq_true', Bool.not_eq_false', ne_eq, Decidable.not_not, Option.isNone_iff_eq_none, not_true_eq_false, not_false_eq_true] at hb); try (exfalso; omega))) | fail)
      refine ⟨_, ((se_drop _ _).trans (se_drop _ _)).ent w0, ?_, rfl⟩
      simp [hv]
  · refine ⟨_, ((se_drop _ _).trans (se_drop _ _)).ent w0, ?_, rfl⟩
    simp [hb]
  · refine ⟨_, ((se_drop _ _).trans (se_drop _ _)).ent w0, ?_, rfl⟩
    simp [show ¬ p.kind = q.kind by omega]
  · refine ⟨_, ((se_drop _ _).trans (se_drop _ _)).ent w0, ?_, rfl⟩
    simp [hb]
end Go.Proofs.YtbgokghmedmhaaaDoor
