/-
  Whether a request may be: one kind of them.
-/
import Derived.Test.YtnoihibaoalkaaaDoorWirB0
set_option linter.unusedVariables false
set_option linter.unusedSimpArgs false
namespace Go.Proofs.YtnoihibaoalkaaaDoor
open Go Go.RowKit
set_option linter.unusedVariables false
set_option linter.unusedSimpArgs false
open Classical

set_option maxRecDepth 100000 in
set_option maxHeartbeats 2000000 in
theorem rmayAsk_k0 (w0 : World) (L : List Asn) (a : Ask) (h : a.ok) (k1 : ¬ a.kind.toNat = 1) (k2 : ¬ (a.kind.toNat = 2 ∨ a.kind.toNat = 3)) (k4 : ¬ a.kind.toNat = 4) (k7 : ¬ (a.kind.toNat = 7 ∨ a.kind.toNat = 8)) (k5 : ¬ (a.kind.toNat = 5 ∨ a.kind.toNat = 6)) :
    VC Tryd.prog w0 77 [.agg a.cells.toArray] L fun v L' => v = .bool (mayA a) ∧ L' = L := by
  have hcl := Ask.len h
  have f0 := Ask.f0 h
  have f1 := Ask.f1 h
  have f2 := Ask.f2 h
  have f3 := Ask.f3 h
  have f4 := Ask.f4 h
  have txl := Tx.len h.tx
  have hkl := h.key
  have hz := zK_ok a.kind
  have hzl := Ask.len hz
  have hkb := a.kind.toNat_lt
  refine vc_ent ?_
  refine vc_in rfl rfl ?_
  repeat' (first | (refine goB ?_; intros) | (refine vl_caseG rfl rfl rfl rfl ?_ ?_ <;> (intro hb; (try simp only [decide_eq_true_eq, decide_eq_false_iff_not, Bool.not_eq_true', Bool.not_eq_false', ne_eq, Decidable.not_not, Option.isNone_iff_eq_none, not_true_eq_false, not_false_eq_true] at hb); try (exfalso; omega))) | (refine v_cond rfl ?_ ?_ <;> (intro hb; (try simp only [decide_eq_true_eq, decide_eq_false_iff_not, Bool.not_eq_true', Bool.not_eq_false', ne_eq, Decidable.not_not, Option.isNone_iff_eq_none, not_true_eq_false, not_false_eq_true] at hb); try (exfalso; omega))) | fail)
  refine vl_q rfl rfl rfl rfl (vq_buildP (cs := (zK a.kind).cells) rfl (by simp [okS, Value.cells]) (zA_fill a.kind)) ?_
  have hsg : a.kind.toNat = 1 → a.tx.sign = sgn a.tx := fun e => absurd e k1
  have hm : mayA a = false := decide_eq_false (fun e => by
    have := of_decide_eq_true e.1
    omega)
  rw [hm]
  haveI hoz : OC (zK a.kind).cells := oc_ask _
  generalize (zK a.kind).cells = zc at *
  repeat' (first | (refine go1 ?_; intros) | (refine vl_caseG rfl rfl rfl rfl ?_ ?_ <;> (intro hb; (try simp only [decide_eq_true_eq, decide_eq_false_iff_not, Bool.not_eq_true', Bool.not_eq_false', ne_eq, Decidable.not_not, Option.isNone_iff_eq_none, not_true_eq_false, not_false_eq_true] at hb); try (exfalso; omega))) | (refine v_cond rfl ?_ ?_ <;> (intro hb; (try simp only [decide_eq_true_eq, decide_eq_false_iff_not, Bool.not_eq_true', Bool.not_eq_false', ne_eq, Decidable.not_not, Option.isNone_iff_eq_none, not_true_eq_false, not_false_eq_true] at hb); try (exfalso; omega))) | fail)
  all_goals first | (exfalso; omega) | exact ⟨L, sei _ _ _, rfl, rfl⟩
end Go.Proofs.YtnoihibaoalkaaaDoor
