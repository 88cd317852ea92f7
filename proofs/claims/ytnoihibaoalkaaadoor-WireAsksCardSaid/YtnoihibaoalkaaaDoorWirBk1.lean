/-
  Whether a request may be: one kind of them.
-/
import Derived.Test.YtnoihibaoalkaaaDoorWirB0
set_option linter.unusedVariables false
set_option linter.unusedSimpArgs false
namespace Go.Proofs.YtnoihibaoalkaaaDoor
open Go Go.RowKit
set_option linter.unusedVariables false
set_option linter.unusedSimpArgs false
open Classical

set_option maxRecDepth 100000 in
set_option maxHeartbeats 2000000 in
theorem rmayAsk_k1 (w0 : World) (L : List Asn) (a : Ask) (h : a.ok) (k1 : a.kind.toNat = 1) :
    VC Tryd.prog w0 77 [.agg a.cells.toArray] L fun v L' => v = .bool (mayA a) ∧ L' = L := by
  have hcl := Ask.len h
  have f0 := Ask.f0 h
  have f1 := Ask.f1 h
  have f2 := Ask.f2 h
  have f3 := Ask.f3 h
  have f4 := Ask.f4 h
  have txl := Tx.len h.tx
  have hkl := h.key
  have hz := zK_ok a.kind
  have hzl := Ask.len hz
  have hkb := a.kind.toNat_lt
  refine vc_ent ?_
  refine vc_in rfl rfl ?_
  repeat' (first | (refine goB ?_; intros) | (refine vl_caseG rfl rfl rfl rfl ?_ ?_ <;> (intro hb; (try simp only [decide_eq_true_eq, decide_eq_false_iff_not, Bool.not_eq_true', Bool.not_eq_false', ne_eq, Decidable.not_not, Option.isNone_iff_eq_none, not_true_eq_false, not_false_eq_true] at hb); try (exfalso; omega))) | (refine v_cond rfl ?_ ?_ <;> (intro hb; (try simp only [decide_eq_true_eq, decide_eq_false_iff_not, Bool.not_eq_true', Bool.not_eq_false', ne_eq, Decidable.not_not, Option.isNone_iff_eq_none, not_true_eq_false, not_false_eq_true] at hb); try (exfalso; omega))) | fail)
  refine vl_q rfl rfl rfl rfl (vq_buildP (cs := (zK a.kind).cells) rfl (by simp [okS, Value.cells]) (zA_fill a.kind)) ?_
  obtain ⟨B, hbare⟩ : ∃ B, bareA a = B := ⟨_, rfl⟩
  have hB : B.ok := by rw [← hbare]; exact bareA_ok h
  have eB : B = { zK a.kind with tx := a.tx } := by rw [← hbare]; unfold bareA; rw [if_pos k1]; rfl
  have hset : splice (zK a.kind).cells (0 + 1) a.tx.cells = B.cells := by rw [eB]; exact Ask.set1 hz a.tx h.tx
  have hok : okK a.kind = true := decide_eq_true (by omega)
  have hBl := Ask.len hB
  obtain ⟨bc, hbc⟩ : ∃ bc, bc = B.cells := ⟨_, rfl⟩
  haveI hob : OC bc := by rw [hbc]; exact oc_ask _
  rw [← hbc] at hBl hset
  haveI hoz : OC (zK a.kind).cells := oc_ask _
  generalize (zK a.kind).cells = zc at *
  repeat' (first | (refine go1 ?_; intros) | (refine vl_caseG rfl rfl rfl rfl ?_ ?_ <;> (intro hb; (try simp only [decide_eq_true_eq, decide_eq_false_iff_not, Bool.not_eq_true', Bool.not_eq_false', ne_eq, Decidable.not_not, Option.isNone_iff_eq_none, not_true_eq_false, not_false_eq_true] at hb); try (exfalso; omega))) | (refine v_cond rfl ?_ ?_ <;> (intro hb; (try simp only [decide_eq_true_eq, decide_eq_false_iff_not, Bool.not_eq_true', Bool.not_eq_false', ne_eq, Decidable.not_not, Option.isNone_iff_eq_none, not_true_eq_false, not_false_eq_true] at hb); try (exfalso; omega))) | fail)
  refine vl_o rfl (vo_stB rfl rfl rfl txl (by omega) hset ?_)
  repeat' (first | (refine go1 ?_; intros) | (refine vl_caseG rfl rfl rfl rfl ?_ ?_ <;> (intro hb; (try simp only [decide_eq_true_eq, decide_eq_false_iff_not, Bool.not_eq_true', Bool.not_eq_false', ne_eq, Decidable.not_not, Option.isNone_iff_eq_none, not_true_eq_false, not_false_eq_true] at hb); try (exfalso; omega))) | (refine v_cond rfl ?_ ?_ <;> (intro hb; (try simp only [decide_eq_true_eq, decide_eq_false_iff_not, Bool.not_eq_true', Bool.not_eq_false', ne_eq, Decidable.not_not, Option.isNone_iff_eq_none, not_true_eq_false, not_false_eq_true] at hb); try (exfalso; omega))) | fail)
  refine vl_o rfl (vo_call rfl rfl ?_)
  refine vc_mono (rCheck_vc w0 _ a.tx h.tx) ?_
  rintro v L' ⟨rfl, rfl⟩
  by_cases hs : a.tx.sign = sgn a.tx
  · have hsg : a.kind.toNat = 1 → a.tx.sign = sgn a.tx := fun _ => hs
    rw [if_pos hs]
    repeat' (first | (refine go1 ?_; intros) | (refine vl_caseG rfl rfl rfl rfl ?_ ?_ <;> (intro hb; (try simp only [decide_eq_true_eq, decide_eq_false_iff_not, Bool.not_eq_true', Bool.not_eq_false', ne_eq, Decidable.not_not, Option.isNone_iff_eq_none, not_true_eq_false, not_false_eq_true] at hb); try (exfalso; omega))) | (refine v_cond rfl ?_ ?_ <;> (intro hb; (try simp only [decide_eq_true_eq, decide_eq_false_iff_not, Bool.not_eq_true', Bool.not_eq_false', ne_eq, Decidable.not_not, Option.isNone_iff_eq_none, not_true_eq_false, not_false_eq_true] at hb); try (exfalso; omega))) | fail)
    rw [hbc]
    refine vl_q rfl rfl rfl rfl (vq_eqAsk rfl rfl h hB) ?_
    by_cases he : a = B
    · by_cases hrg : rngA a
      · have hm : mayA a = true := mayA_of hok hsg (he.trans hbare.symm) hrg
        obtain ⟨r1, r2, r3, r4⟩ := hrg
        rw [decide_eq_true he, hm]
        repeat' (first | (refine go1 ?_; intros) | (refine vl_caseG rfl rfl rfl rfl ?_ ?_ <;> (intro hb; (try simp only [decide_eq_true_eq, decide_eq_false_iff_not, Bool.not_eq_true', Bool.not_eq_false', ne_eq, Decidable.not_not, Option.isNone_iff_eq_none, not_true_eq_false, not_false_eq_true] at hb); try (exfalso; omega))) | (refine v_cond rfl ?_ ?_ <;> (intro hb; (try simp only [decide_eq_true_eq, decide_eq_false_iff_not, Bool.not_eq_true', Bool.not_eq_false', ne_eq, Decidable.not_not, Option.isNone_iff_eq_none, not_true_eq_false, not_false_eq_true] at hb); try (exfalso; omega))) | fail)
        all_goals first | (exfalso; omega) | (refine ⟨L, sei _ _ _, ?_, rfl⟩; first | rfl | (simp; omega))
      · have hm : mayA a = false := decide_eq_false (fun e => hrg e.2.2.2)
        rw [decide_eq_true he, hm]
        unfold rngA at hrg
        repeat' (first | (refine go1 ?_; intros) | (refine vl_caseG rfl rfl rfl rfl ?_ ?_ <;> (intro hb; (try simp only [decide_eq_true_eq, decide_eq_false_iff_not, Bool.not_eq_true', Bool.not_eq_false', ne_eq, Decidable.not_not, Option.isNone_iff_eq_none, not_true_eq_false, not_false_eq_true] at hb); try (exfalso; omega))) | (refine v_cond rfl ?_ ?_ <;> (intro hb; (try simp only [decide_eq_true_eq, decide_eq_false_iff_not, Bool.not_eq_true', Bool.not_eq_false', ne_eq, Decidable.not_not, Option.isNone_iff_eq_none, not_true_eq_false, not_false_eq_true] at hb); try (exfalso; omega))) | fail)
        all_goals first | (exfalso; omega) | (refine ⟨L, sei _ _ _, ?_, rfl⟩; first | rfl | (simp; omega))
    · have hm : mayA a = false := decide_eq_false (fun e => he (e.2.2.1.trans hbare))
      rw [decide_eq_false he, hm]
      repeat' (first | (refine go1 ?_; intros) | (refine vl_caseG rfl rfl rfl rfl ?_ ?_ <;> (intro hb; (try simp only [decide_eq_true_eq, decide_eq_false_iff_not, Bool.not_eq_true', Bool.not_eq_false', ne_eq, Decidable.not_not, Option.isNone_iff_eq_none, not_true_eq_false, not_false_eq_true] at hb); try (exfalso; omega))) | (refine v_cond rfl ?_ ?_ <;> (intro hb; (try simp only [decide_eq_true_eq, decide_eq_false_iff_not, Bool.not_eq_true', Bool.not_eq_false', ne_eq, Decidable.not_not, Option.isNone_iff_eq_none, not_true_eq_false, not_false_eq_true] at hb); try (exfalso; omega))) | fail)
      exact ⟨L, sei _ _ _, rfl, rfl⟩
  · have hm : mayA a = false := decide_eq_false (fun e => hs (e.2.1 k1))
    rw [if_neg hs, hm]
    repeat' (first | (refine go1 ?_; intros) | (refine vl_caseG rfl rfl rfl rfl ?_ ?_ <;> (intro hb; (try simp only [decide_eq_true_eq, decide_eq_false_iff_not, Bool.not_eq_true', Bool.not_eq_false', ne_eq, Decidable.not_not, Option.isNone_iff_eq_none, not_true_eq_false, not_false_eq_true] at hb); try (exfalso; omega))) | (refine v_cond rfl ?_ ?_ <;> (intro hb; (try simp only [decide_eq_true_eq, decide_eq_false_iff_not, Bool.not_eq_true', Bool.not_eq_false', ne_eq, Decidable.not_not, Option.isNone_iff_eq_none, not_true_eq_false, not_false_eq_true] at hb); try (exfalso; omega))) | fail)
    exact ⟨L, sei _ _ _, rfl, rfl⟩
end Go.Proofs.YtnoihibaoalkaaaDoor
