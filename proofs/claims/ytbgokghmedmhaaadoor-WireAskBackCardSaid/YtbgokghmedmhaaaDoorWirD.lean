/-
  What is left of a frame: so many bytes are taken of it.
-/
import Derived.Test.YtbgokghmedmhaaaDoorWirA
import Derived.Test.YtbgokghmedmhaaaDoorVCallM
set_option linter.unusedVariables false
set_option linter.unusedSimpArgs false
namespace Go.Proofs.YtbgokghmedmhaaaDoor
open Go Go.RowKit
set_option linter.unusedVariables false
set_option linter.unusedSimpArgs false
open Classical

set_option maxRecDepth 100000 in
set_option maxHeartbeats 1000000 in
theorem wtake_vc (w0 : World) (L L0 : List Asn) (kL : SEI L L0) (gr : Nat) (ar : Option Addr) (cr : Nat) (R : List UInt8) (bad : Bool) (n : Nat) (hn : 0 < n) (hn2 : n ≤ 1000) (hc : R.length ≤ cr) (hl : R.length ≤ 1000000) (hr : RdC w0 L0 ar (bvs R)) :
    VC Tryd.prog w0 132 [.pointer (some ⟨gr, 0, none⟩), .int .i64 n] (blk gr 151 [.slice ar R.length cr, .bool bad] :: L) fun v L' => ∃ a' c' az cz Z ar' cr', v = .slice a' n c' ∧ n ≤ c' ∧ (dropX n R).length ≤ cr' ∧ RdC w0 (ownB az cz Z :: L0) a' (bvs (takeX n R)) ∧ RdC w0 L0 ar' (bvs (dropX n R)) ∧ L' = ownB az cz Z :: blk gr 151 [.slice ar' (dropX n R).length cr', .bool (bad || decide (R.length < n))] :: L := by
  haveI hr1 : RdC w0 L ar (bvs R) := rdC_sei hr kL
  refine vc_ent ?_
  refine vc_in rfl rfl ?_
  by_cases h : R.length < n
  · have e1 : takeX n R = List.replicate n 0 := by unfold takeX; rw [if_pos h]
    have e2 : dropX n R = [] := by unfold dropX; rw [if_pos h]
    rw [e1, e2, decide_eq_true h, Bool.or_true]
    repeat' (first | (refine go1 ?_; intros) | (refine vl_caseG rfl rfl rfl rfl ?_ ?_ <;> (intro hb; (try simp only [decide_eq_true_eq, decide_eq_false_iff_not, Bool.not_eq_true', Bool.not_eq_false', ne_eq, Decidable.not_not, Option.isNone_iff_eq_none, not_true_eq_false, not_false_eq_true] at hb); try (exfalso; omega))) | (refine v_cond rfl ?_ ?_ <;> (intro hb; (try simp only [decide_eq_true_eq, decide_eq_false_iff_not, Bool.not_eq_true', Bool.not_eq_false', ne_eq, Decidable.not_not, Option.isNone_iff_eq_none, not_true_eq_false, not_false_eq_true] at hb); try (exfalso; omega))) | fail)
    all_goals first | (exfalso; omega) | skip
    refine vl_o rfl (vo_make (m := n) rfl rfl rfl (by omega) (by omega) rfl ?_)
    intro g
    repeat' (first | (refine go1 ?_; intros) | (refine vl_caseG rfl rfl rfl rfl ?_ ?_ <;> (intro hb; (try simp only [decide_eq_true_eq, decide_eq_false_iff_not, Bool.not_eq_true', Bool.not_eq_false', ne_eq, Decidable.not_not, Option.isNone_iff_eq_none, not_true_eq_false, not_false_eq_true] at hb); try (exfalso; omega))) | (refine v_cond rfl ?_ ?_ <;> (intro hb; (try simp only [decide_eq_true_eq, decide_eq_false_iff_not, Bool.not_eq_true', Bool.not_eq_false', ne_eq, Decidable.not_not, Option.isNone_iff_eq_none, not_true_eq_false, not_false_eq_true] at hb); try (exfalso; omega))) | fail)
    refine ⟨ownB (some ⟨g, 0, none⟩) n (List.replicate n 0) :: blk gr 151 [.slice none 0 0, .bool true] :: L, ?_, some ⟨g, 0, none⟩, n, some ⟨g, 0, none⟩, n, List.replicate n 0, none, 0, rfl, Nat.le_refl _, by simp, inferInstance, rdC_nil _ _ _, rfl⟩
    unfold ownB
    rw [List.length_replicate, ← madeB]
    exact Ent.refl _ _
  · have e1 : takeX n R = R.take n := by unfold takeX; rw [if_neg h]
    have e2 : dropX n R = R.drop n := by unfold dropX; rw [if_neg h]
    rw [e1, e2, decide_eq_false h, Bool.or_false]
    repeat' (first | (refine go1 ?_; intros) | (refine vl_caseG rfl rfl rfl rfl ?_ ?_ <;> (intro hb; (try simp only [decide_eq_true_eq, decide_eq_false_iff_not, Bool.not_eq_true', Bool.not_eq_false', ne_eq, Decidable.not_not, Option.isNone_iff_eq_none, not_true_eq_false, not_false_eq_true] at hb); try (exfalso; omega))) | (refine v_cond rfl ?_ ?_ <;> (intro hb; (try simp only [decide_eq_true_eq, decide_eq_false_iff_not, Bool.not_eq_true', Bool.not_eq_false', ne_eq, Decidable.not_not, Option.isNone_iff_eq_none, not_true_eq_false, not_false_eq_true] at hb); try (exfalso; omega))) | fail)
    all_goals first | (exfalso; omega) | skip
    haveI := hr
    have q1 := rd_cut (w0 := w0) (L := L0) (a := ar) (l := R) 0 n n (Nat.le_refl _)
    have q2 := rd_drop (w0 := w0) (L := L0) (a := ar) (l := R) n cr hc
    haveI : RdC w0 L0 (subA ar 0 n 1) (bvs (R.take n)) := by simpa using q1
    refine ⟨ownB none 0 [] :: blk gr 151 [.slice (subA ar n cr 1) (R.drop n).length (cr - n), .bool bad] :: L, ?_, subA ar 0 n 1, n - 0, none, 0, [], subA ar n cr 1, cr - n, rfl, Nat.le_refl _, by simp; omega, inferInstance, q2, rfl⟩
    rw [List.length_drop]
    exact (se_own_nil 5 1 _).ent w0
end Go.Proofs.YtbgokghmedmhaaaDoor
