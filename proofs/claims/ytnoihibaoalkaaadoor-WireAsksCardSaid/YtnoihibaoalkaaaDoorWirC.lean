/-
  Requests: their bytes, by the document.
-/
import Derived.Test.YtnoihibaoalkaaaDoorWirA
set_option linter.unusedVariables false
set_option linter.unusedSimpArgs false
namespace Go.Proofs.YtnoihibaoalkaaaDoor
open Go Go.RowKit
set_option linter.unusedVariables false
set_option linter.unusedSimpArgs false
open Classical

set_option maxRecDepth 100000 in
set_option maxHeartbeats 2000000 in
theorem rofAsk_vc (w0 : World) (L : List Asn) (a : Ask) (h : a.ok) (hm : rngA a) :
    VC Tryd.prog w0 78 [.agg a.cells.toArray] L fun v L' => ∃ a' c', v = .slice a' (ofA a).length c' ∧ L' = ownB a' c' (ofA a) :: L := by
  have hcl := Ask.len h
  have f0 := Ask.f0 h
  have f1 := Ask.f1 h
  have f2 := Ask.f2 h
  have f3 := Ask.f3 h
  have f4 := Ask.f4 h
  have hkl := h.key
  have hkb := a.kind.toNat_lt
  obtain ⟨r1, r2, r3, r4⟩ := hm
  haveI hoc : OC a.cells := oc_ask _
  have txl := Tx.len h.tx
  refine vc_ent ?_
  refine vc_in rfl rfl ?_
  generalize a.cells = cs at *
  haveI r2' : ∀ g M, RdC w0 (blk g 69 cs :: M) (some ⟨g, 0 + 100, none⟩) (bvs a.key) := fun g M => rdC_part (0 + 100) 32 f2
  have hkl2 : a.key.length = 32 * 1 := hkl
  have fin : ∀ (T : List UInt8) (m : Nat) (a3 : Option Addr) (c3 : Nat), T.length = m → ownB a3 c3 (a.kind :: T) = own 5 1 a3 (1 + m) c3 ([.int .u8 (a.kind.toNat : Nat)] ++ bvs T) := fun T m a3 c3 hT => by
    unfold ownB
    rw [List.length_cons, hT, Nat.add_comm]
    rfl
  by_cases k1 : a.kind.toNat = 1
  · have e : ofA a = a.kind :: txBytes a.tx := by unfold ofA; rw [if_pos k1]
    have tl : (txBytes a.tx).length = 120 := by
      have := h.tx
      simp [txBytes, txBody, digs_length, this.pub, this.to, this.sign]
    rw [e]
    repeat' (first | (refine go1 ?_; intros) | (refine vl_caseG rfl rfl rfl rfl ?_ ?_ <;> (intro hb; (try simp only [decide_eq_true_eq, decide_eq_false_iff_not, Bool.not_eq_true', Bool.not_eq_false', ne_eq, Decidable.not_not, Option.isNone_iff_eq_none, not_true_eq_false, not_false_eq_true] at hb); try (exfalso; omega))) | (refine v_cond rfl ?_ ?_ <;> (intro hb; (try simp only [decide_eq_true_eq, decide_eq_false_iff_not, Bool.not_eq_true', Bool.not_eq_false', ne_eq, Decidable.not_not, Option.isNone_iff_eq_none, not_true_eq_false, not_false_eq_true] at hb); try (exfalso; omega))) | fail)
    all_goals first | (exfalso; omega) | skip
    refine vl_o rfl (vo_call rfl rfl ?_)
    refine vc_mono (txrbytes_vc w0 _ a.tx h.tx) ?_
    rintro v L' ⟨a2, c2, rfl, hc2, rfl⟩
    generalize txBytes a.tx = T at *
    repeat' (first | (refine go1 ?_; intros) | (refine vl_caseG rfl rfl rfl rfl ?_ ?_ <;> (intro hb; (try simp only [decide_eq_true_eq, decide_eq_false_iff_not, Bool.not_eq_true', Bool.not_eq_false', ne_eq, Decidable.not_not, Option.isNone_iff_eq_none, not_true_eq_false, not_false_eq_true] at hb); try (exfalso; omega))) | (refine v_cond rfl ?_ ?_ <;> (intro hb; (try simp only [decide_eq_true_eq, decide_eq_false_iff_not, Bool.not_eq_true', Bool.not_eq_false', ne_eq, Decidable.not_not, Option.isNone_iff_eq_none, not_true_eq_false, not_false_eq_true] at hb); try (exfalso; omega))) | fail)
    rename_i a3 c3 _ _
    refine ⟨ownB a3 c3 (a.kind :: T) :: L, ?_, a3, c3, by rw [List.length_cons, tl], rfl⟩
    rw [fin T 120 a3 c3 tl]
    exact sei _ _ _
  by_cases k2 : a.kind.toNat = 2 ∨ a.kind.toNat = 3
  · have e : ofA a = a.kind :: a.key := by unfold ofA; rw [if_neg k1, if_pos k2]
    rw [e]
    repeat' (first | (refine go1 ?_; intros) | (refine vl_caseG rfl rfl rfl rfl ?_ ?_ <;> (intro hb; (try simp only [decide_eq_true_eq, decide_eq_false_iff_not, Bool.not_eq_true', Bool.not_eq_false', ne_eq, Decidable.not_not, Option.isNone_iff_eq_none, not_true_eq_false, not_false_eq_true] at hb); try (exfalso; omega))) | (refine v_cond rfl ?_ ?_ <;> (intro hb; (try simp only [decide_eq_true_eq, decide_eq_false_iff_not, Bool.not_eq_true', Bool.not_eq_false', ne_eq, Decidable.not_not, Option.isNone_iff_eq_none, not_true_eq_false, not_false_eq_true] at hb); try (exfalso; omega))) | fail)
    all_goals first | (exfalso; omega) | skip
    · repeat' (first | (refine go1 ?_; intros) | (refine vl_caseG rfl rfl rfl rfl ?_ ?_ <;> (intro hb; (try simp only [decide_eq_true_eq, decide_eq_false_iff_not, Bool.not_eq_true', Bool.not_eq_false', ne_eq, Decidable.not_not, Option.isNone_iff_eq_none, not_true_eq_false, not_false_eq_true] at hb); try (exfalso; omega))) | (refine v_cond rfl ?_ ?_ <;> (intro hb; (try simp only [decide_eq_true_eq, decide_eq_false_iff_not, Bool.not_eq_true', Bool.not_eq_false', ne_eq, Decidable.not_not, Option.isNone_iff_eq_none, not_true_eq_false, not_false_eq_true] at hb); try (exfalso; omega))) | fail)
      rename_i a3 c3 _ _
      refine ⟨ownB a3 c3 (a.kind :: a.key) :: L, ?_, a3, c3, by rw [List.length_cons, hkl], rfl⟩
      rw [fin a.key 32 a3 c3 hkl]
      exact sei _ _ _
    · repeat' (first | (refine go1 ?_; intros) | (refine vl_caseG rfl rfl rfl rfl ?_ ?_ <;> (intro hb; (try simp only [decide_eq_true_eq, decide_eq_false_iff_not, Bool.not_eq_true', Bool.not_eq_false', ne_eq, Decidable.not_not, Option.isNone_iff_eq_none, not_true_eq_false, not_false_eq_true] at hb); try (exfalso; omega))) | (refine v_cond rfl ?_ ?_ <;> (intro hb; (try simp only [decide_eq_true_eq, decide_eq_false_iff_not, Bool.not_eq_true', Bool.not_eq_false', ne_eq, Decidable.not_not, Option.isNone_iff_eq_none, not_true_eq_false, not_false_eq_true] at hb); try (exfalso; omega))) | fail)
      rename_i a3 c3 _ _
      refine ⟨ownB a3 c3 (a.kind :: a.key) :: L, ?_, a3, c3, by rw [List.length_cons, hkl], rfl⟩
      rw [fin a.key 32 a3 c3 hkl]
      exact sei _ _ _
  by_cases k4 : a.kind.toNat = 4
  · have e : ofA a = a.kind :: (digs a.height.toNat 8 ++ a.key) := by unfold ofA; rw [if_neg k1, if_neg k2, if_pos k4]
    rw [e]
    repeat' (first | (refine go1 ?_; intros) | (refine vl_caseG rfl rfl rfl rfl ?_ ?_ <;> (intro hb; (try simp only [decide_eq_true_eq, decide_eq_false_iff_not, Bool.not_eq_true', Bool.not_eq_false', ne_eq, Decidable.not_not, Option.isNone_iff_eq_none, not_true_eq_false, not_false_eq_true] at hb); try (exfalso; omega))) | (refine v_cond rfl ?_ ?_ <;> (intro hb; (try simp only [decide_eq_true_eq, decide_eq_false_iff_not, Bool.not_eq_true', Bool.not_eq_false', ne_eq, Decidable.not_not, Option.isNone_iff_eq_none, not_true_eq_false, not_false_eq_true] at hb); try (exfalso; omega))) | fail)
    all_goals first | (exfalso; omega) | skip
    refine vl_o rfl (vo_call rfl rfl ?_)
    refine vc_mono (rnumber22_vc w0 _ a.height 8 r1 (by omega) (by decide) (by decide)) ?_
    rintro v L' ⟨a2, c2, rfl, rfl⟩
    have dl := digs_length a.height.toNat 8
    generalize digs a.height.toNat 8 = D at *
    repeat' (first | (refine go1 ?_; intros) | (refine vl_caseG rfl rfl rfl rfl ?_ ?_ <;> (intro hb; (try simp only [decide_eq_true_eq, decide_eq_false_iff_not, Bool.not_eq_true', Bool.not_eq_false', ne_eq, Decidable.not_not, Option.isNone_iff_eq_none, not_true_eq_false, not_false_eq_true] at hb); try (exfalso; omega))) | (refine v_cond rfl ?_ ?_ <;> (intro hb; (try simp only [decide_eq_true_eq, decide_eq_false_iff_not, Bool.not_eq_true', Bool.not_eq_false', ne_eq, Decidable.not_not, Option.isNone_iff_eq_none, not_true_eq_false, not_false_eq_true] at hb); try (exfalso; omega))) | fail)
    rename_i a3 c3 _ _
    refine ⟨ownB a3 c3 (a.kind :: (D ++ a.key)) :: L, ?_, a3, c3, by simp [dl, hkl], rfl⟩
    rw [fin (D ++ a.key) (8 + 32) a3 c3 (by simp [dl, hkl]), bvs_append, ← List.append_assoc, ← Nat.add_assoc]
    exact sei _ _ _
  by_cases k7 : a.kind.toNat = 7 ∨ a.kind.toNat = 8
  · have e : ofA a = a.kind :: digs a.sub.toNat 4 := by unfold ofA; rw [if_neg k1, if_neg k2, if_neg k4, if_pos k7]
    rw [e]
    repeat' (first | (refine go1 ?_; intros) | (refine vl_caseG rfl rfl rfl rfl ?_ ?_ <;> (intro hb; (try simp only [decide_eq_true_eq, decide_eq_false_iff_not, Bool.not_eq_true', Bool.not_eq_false', ne_eq, Decidable.not_not, Option.isNone_iff_eq_none, not_true_eq_false, not_false_eq_true] at hb); try (exfalso; omega))) | (refine v_cond rfl ?_ ?_ <;> (intro hb; (try simp only [decide_eq_true_eq, decide_eq_false_iff_not, Bool.not_eq_true', Bool.not_eq_false', ne_eq, Decidable.not_not, Option.isNone_iff_eq_none, not_true_eq_false, not_false_eq_true] at hb); try (exfalso; omega))) | fail)
    all_goals first | (exfalso; omega) | skip
    · refine vl_o rfl (vo_call rfl rfl ?_)
      refine vc_mono (rnumber22_vc w0 _ a.sub 4 r3 (by omega) (by decide) (by decide)) ?_
      rintro v L' ⟨a2, c2, rfl, rfl⟩
      have dl := digs_length a.sub.toNat 4
      generalize digs a.sub.toNat 4 = D at *
      repeat' (first | (refine go1 ?_; intros) | (refine vl_caseG rfl rfl rfl rfl ?_ ?_ <;> (intro hb; (try simp only [decide_eq_true_eq, decide_eq_false_iff_not, Bool.not_eq_true', Bool.not_eq_false', ne_eq, Decidable.not_not, Option.isNone_iff_eq_none, not_true_eq_false, not_false_eq_true] at hb); try (exfalso; omega))) | (refine v_cond rfl ?_ ?_ <;> (intro hb; (try simp only [decide_eq_true_eq, decide_eq_false_iff_not, Bool.not_eq_true', Bool.not_eq_false', ne_eq, Decidable.not_not, Option.isNone_iff_eq_none, not_true_eq_false, not_false_eq_true] at hb); try (exfalso; omega))) | fail)
      rename_i a3 c3 _ _
      refine ⟨ownB a3 c3 (a.kind :: D) :: L, ?_, a3, c3, by rw [List.length_cons, dl], rfl⟩
      rw [fin D 4 a3 c3 dl]
      exact sei _ _ _
    · refine vl_o rfl (vo_call rfl rfl ?_)
      refine vc_mono (rnumber22_vc w0 _ a.sub 4 r3 (by omega) (by decide) (by decide)) ?_
      rintro v L' ⟨a2, c2, rfl, rfl⟩
      have dl := digs_length a.sub.toNat 4
      generalize digs a.sub.toNat 4 = D at *
      repeat' (first | (refine go1 ?_; intros) | (refine vl_caseG rfl rfl rfl rfl ?_ ?_ <;> (intro hb; (try simp only [decide_eq_true_eq, decide_eq_false_iff_not, Bool.not_eq_true', Bool.not_eq_false', ne_eq, Decidable.not_not, Option.isNone_iff_eq_none, not_true_eq_false, not_false_eq_true] at hb); try (exfalso; omega))) | (refine v_cond rfl ?_ ?_ <;> (intro hb; (try simp only [decide_eq_true_eq, decide_eq_false_iff_not, Bool.not_eq_true', Bool.not_eq_false', ne_eq, Decidable.not_not, Option.isNone_iff_eq_none, not_true_eq_false, not_false_eq_true] at hb); try (exfalso; omega))) | fail)
      rename_i a3 c3 _ _
      refine ⟨ownB a3 c3 (a.kind :: D) :: L, ?_, a3, c3, by rw [List.length_cons, dl], rfl⟩
      rw [fin D 4 a3 c3 dl]
      exact sei _ _ _
  · have e : ofA a = [a.kind] := by unfold ofA; rw [if_neg k1, if_neg k2, if_neg k4, if_neg k7]
    rw [e]
    repeat' (first | (refine go1 ?_; intros) | (refine vl_caseG rfl rfl rfl rfl ?_ ?_ <;> (intro hb; (try simp only [decide_eq_true_eq, decide_eq_false_iff_not, Bool.not_eq_true', Bool.not_eq_false', ne_eq, Decidable.not_not, Option.isNone_iff_eq_none, not_true_eq_false, not_false_eq_true] at hb); try (exfalso; omega))) | (refine v_cond rfl ?_ ?_ <;> (intro hb; (try simp only [decide_eq_true_eq, decide_eq_false_iff_not, Bool.not_eq_true', Bool.not_eq_false', ne_eq, Decidable.not_not, Option.isNone_iff_eq_none, not_true_eq_false, not_false_eq_true] at hb); try (exfalso; omega))) | fail)
    all_goals first | (exfalso; omega) | exact ⟨own 5 1 _ 1 1 [.int .u8 (a.kind.toNat : Nat)] :: L, sei _ _ _, _, _, rfl, rfl⟩
end Go.Proofs.YtnoihibaoalkaaaDoor
