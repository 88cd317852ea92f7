/-
  Two proofs of any two keys: whether they tell unlike things, and the first unlike inputs, by the document.
-/
import Derived.Test.YtnoihibaoalkaaaDoorGT
import Derived.Test.YtnoihibaoalkaaaDoorGV
set_option linter.unusedVariables false
set_option linter.unusedSimpArgs false
namespace Go.Proofs.YtnoihibaoalkaaaDoor
open Go Go.RowKit
set_option linter.unusedVariables false
set_option linter.unusedSimpArgs false
open Classical

/-- Two proofs tell unlike things of one key. -/
noncomputable def unC (a b : Prf) : Bool := decide (a.key = b.key) && unB a b
set_option maxRecDepth 100000 in
set_option maxHeartbeats 1000000 in
theorem cunlikeG_vc (w0 : World) (L : List Asn) (a b : Prf) (h : a.ok) (k : b.ok) [hr : RdC w0 L a.va (bvs a.vl)] [hs : RdC w0 L b.va (bvs b.vl)] :
    VC Tryd.prog w0 54 [.agg a.cells.toArray, .agg b.cells.toArray] L fun v L' => v = .bool (unC a b) ∧ L' = L := by
  unfold unC
  by_cases hkey : a.key = b.key
  · rw [decide_eq_true hkey, Bool.true_and]
    exact cunlike_vc w0 L a b h k hkey
  · rw [decide_eq_false hkey, Bool.false_and]
    have f0 := Prf.f0 h
    have g0 := Prf.f0 k
    have ho := h.key
    have ko := k.key
    have hlk : a.key.length = b.key.length := by rw [ho, ko]
    have hcl := Prf.len h
    have kcl := Prf.len k
    refine vc_ent ?_
    refine vc_in rfl rfl ?_
    repeat' (first | (refine go1 ?_; intros) | (refine vl_caseG rfl rfl rfl rfl ?_ ?_ <;> (intro hb; (try simp only [decide_eq_true_eq, decide_eq_false_iff_not, Bool.not_eq_true', Bool.not_eq_false', ne_eq, Decidable.not_not, Option.isNone_iff_eq_none, not_true_eq_false, not_false_eq_true] at hb); try (exfalso; omega))) | (refine v_cond rfl ?_ ?_ <;> (intro hb; (try simp only [decide_eq_true_eq, decide_eq_false_iff_not, Bool.not_eq_true', Bool.not_eq_false', ne_eq, Decidable.not_not, Option.isNone_iff_eq_none, not_true_eq_false, not_false_eq_true] at hb); try (exfalso; omega))) | fail)
    refine vl_o rfl (vo_call rfl rfl ?_)
    refine vc_mono (told_vc w0 _ a h) ?_
    rintro v L' ⟨a1, c1, rfl, rfl⟩
    repeat' (first | (refine go1 ?_; intros) | (refine vl_caseG rfl rfl rfl rfl ?_ ?_ <;> (intro hb; (try simp only [decide_eq_true_eq, decide_eq_false_iff_not, Bool.not_eq_true', Bool.not_eq_false', ne_eq, Decidable.not_not, Option.isNone_iff_eq_none, not_true_eq_false, not_false_eq_true] at hb); try (exfalso; omega))) | (refine v_cond rfl ?_ ?_ <;> (intro hb; (try simp only [decide_eq_true_eq, decide_eq_false_iff_not, Bool.not_eq_true', Bool.not_eq_false', ne_eq, Decidable.not_not, Option.isNone_iff_eq_none, not_true_eq_false, not_false_eq_true] at hb); try (exfalso; omega))) | fail)
    refine vl_o rfl (vo_call rfl rfl ?_)
    refine vc_mono (told_vc w0 _ b k) ?_
    rintro v L' ⟨a2, c2, rfl, rfl⟩
    generalize a.cells = ac at *
    generalize b.cells = bc at *
    repeat' (first | (refine goU ?_; intros) | (refine vl_caseG rfl rfl rfl rfl ?_ ?_ <;> (intro hb; (try simp only [decide_eq_true_eq, decide_eq_false_iff_not, Bool.not_eq_true', Bool.not_eq_false', ne_eq, Decidable.not_not, Option.isNone_iff_eq_none, not_true_eq_false, not_false_eq_true] at hb); try (exfalso; omega))) | (refine v_cond rfl ?_ ?_ <;> (intro hb; (try simp only [decide_eq_true_eq, decide_eq_false_iff_not, Bool.not_eq_true', Bool.not_eq_false', ne_eq, Decidable.not_not, Option.isNone_iff_eq_none, not_true_eq_false, not_false_eq_true] at hb); try (exfalso; omega))) | fail)
    all_goals first | exact absurd (by assumption) hkey | exact ⟨L, sei _ _ _, rfl, rfl⟩
end Go.Proofs.YtnoihibaoalkaaaDoor
