/-
  The chapter's examples (requests and replies).
-/
import Derived.Test.YtbgokghmedmhaaaDoorWirT
import Derived.Test.YtbgokghmedmhaaaDoorWirG
import Derived.Test.YtbgokghmedmhaaaDoorWirQ
set_option linter.unusedVariables false
set_option linter.unusedSimpArgs false
namespace Go.Proofs.YtbgokghmedmhaaaDoor
open Go Go.RowKit
set_option linter.unusedVariables false
set_option linter.unusedSimpArgs false
open Classical

set_option maxRecDepth 100000 in
set_option maxHeartbeats 4000000 in
theorem replyBad_vc (w0 : World) (L : List Asn) (r : Rp) (h : r.ok) (hin : r.inR = false) :
    VC Tryd.prog w0 41 [.agg r.cells.toArray] L fun v L' => v = .tuple #[.slice none 0 0, .int .i64 8] ∧ L' = L := by
  have hcl := Rp.len h
  refine vc_ent ?_
  refine vc_in rfl rfl ?_
  have hoc : OC r.cells := oc_rp r
  obtain ⟨rcs, hrcs⟩ : ∃ rcs, rcs = r.cells := ⟨_, rfl⟩
  rw [← hrcs] at hcl hoc ⊢
  repeat' (first | (refine go1 ?_; intros) | (refine vl_caseG rfl rfl rfl rfl ?_ ?_ <;> (intro hb; (try simp only [decide_eq_true_eq, decide_eq_false_iff_not, Bool.not_eq_true', Bool.not_eq_false', ne_eq, Decidable.not_not, Option.isNone_iff_eq_none, not_true_eq_false, not_false_eq_true] at hb); try (exfalso; omega))) | (refine v_cond rfl ?_ ?_ <;> (intro hb; (try simp only [decide_eq_true_eq, decide_eq_false_iff_not, Bool.not_eq_true', Bool.not_eq_false', ne_eq, Decidable.not_not, Option.isNone_iff_eq_none, not_true_eq_false, not_false_eq_true] at hb); try (exfalso; omega))) | fail)
  refine vl_o rfl (vo_call rfl rfl ?_)
  rw [hrcs]
  refine vc_mono (within_vc w0 _ r h) ?_
  rintro v L' ⟨rfl, rfl⟩
  rw [← hrcs, hin]
  repeat' (first | (refine go1 ?_; intros) | (refine vl_caseG rfl rfl rfl rfl ?_ ?_ <;> (intro hb; (try simp only [decide_eq_true_eq, decide_eq_false_iff_not, Bool.not_eq_true', Bool.not_eq_false', ne_eq, Decidable.not_not, Option.isNone_iff_eq_none, not_true_eq_false, not_false_eq_true] at hb); try (exfalso; omega))) | (refine v_cond rfl ?_ ?_ <;> (intro hb; (try simp only [decide_eq_true_eq, decide_eq_false_iff_not, Bool.not_eq_true', Bool.not_eq_false', ne_eq, Decidable.not_not, Option.isNone_iff_eq_none, not_true_eq_false, not_false_eq_true] at hb); try (exfalso; omega))) | fail)
  exact ⟨_, sei _ _ L, rfl, rfl⟩
def aX : Ask := { zA with kind := 5, sub := 1 }
theorem aX_ok : aX.ok := ⟨zA_ok.tx, zA_ok.key, zA_ok.h1, zA_ok.h2, by decide, by decide⟩
theorem bare5 (a : Ask) (h : a.kind.toNat = 5) : bareA a = { zA with kind := a.kind } := by
  unfold bareA; rw [if_neg (by omega), if_neg (by omega), if_neg (by omega), if_neg (by omega)]
theorem aX_may : ¬ mayA aX = true := by
  intro e
  have e2 := (of_decide_eq_true e).2.2.1
  rw [bare5 aX (by decide)] at e2
  have := congrArg Ask.sub e2
  exact absurd this (by decide)
theorem read50 : readP [5, 0] = (zA, 220) := by
  have hk : ¬ ((5 : UInt8).toNat = 1 ∧ [(0 : UInt8)].length = 120 ∧ (txRead [0]).2 ≠ 0) := fun e => absurd e.1 (by decide)
  have hp : ptsOf 5 = [] := by unfold ptsOf; rw [if_neg (by decide), if_neg (by decide), if_neg (by decide), if_neg (by decide)]
  rw [readP, if_neg hk, hp]
  rw [if_neg]
  intro e
  exact absurd e.2.2 (by decide)
theorem read9 : readP [9] = (zA, 220) := by
  have hk : ¬ ((9 : UInt8).toNat = 1 ∧ ([] : List UInt8).length = 120 ∧ (txRead []).2 ≠ 0) := fun e => absurd e.1 (by decide)
  rw [readP, if_neg hk, if_neg]
  intro e
  exact absurd e.1 (by decide)
set_option maxRecDepth 100000 in
theorem txOf0 : txOf (List.replicate 120 0) = zeroTx := by decide
theorem txRead120' : txRead (List.replicate 120 0) = (zeroTx, 110) := by
  unfold txRead
  rw [if_neg (by simp), if_neg (by simp), txOf0, if_neg zero_unsigned]
theorem readZ : readP (1 :: List.replicate 120 0) = (zA, 110) := by
  rw [readP, txRead120', if_pos ⟨by decide, by simp, by decide⟩]
theorem rp0_in : rp0.inR = false := by
  unfold Rp.inR
  rw [decide_eq_false]
  · rfl
  · rintro ⟨_, h, _⟩
    rcases h with h | h
    · exact absurd h (by decide)
    · exact h rfl
set_option maxRecDepth 100000 in
set_option maxHeartbeats 8000000 in
theorem wireNames_vc (w0 : World) [hK : RdA w0 (some ⟨0, 0, none⟩) (wds K64)] :
    VC Tryd.prog w0 7 [] [] fun v L' => v = .bool true := by
  have hzl := Ask.len zA_ok
  haveI hzc : OC zA.cells := oc_ask _
  have hpl := Rp.len rp0_ok
  haveI hpc : OC rp0.cells := oc_rp _
  refine vc_in rfl rfl ?_
  haveI rn : ∀ M, RdC w0 M none (bvs ([] : List UInt8)) := fun M => rdC_nil _ _ _
  repeat' (first | (refine go1 ?_; intros) | (refine vl_caseG rfl rfl rfl rfl ?_ ?_ <;> (intro hb; (try simp only [decide_eq_true_eq, decide_eq_false_iff_not, Bool.not_eq_true', Bool.not_eq_false', ne_eq, Decidable.not_not, Option.isNone_iff_eq_none, not_true_eq_false, not_false_eq_true] at hb); try (exfalso; omega))) | (refine v_cond rfl ?_ ?_ <;> (intro hb; (try simp only [decide_eq_true_eq, decide_eq_false_iff_not, Bool.not_eq_true', Bool.not_eq_false', ne_eq, Decidable.not_not, Option.isNone_iff_eq_none, not_true_eq_false, not_false_eq_true] at hb); try (exfalso; omega))) | fail)
  refine vl_o rfl (vo_call rfl rfl ?_)
  refine vc_mono (wreadAsk_vc w0 _ none 0 [] rfl (Nat.zero_le _) (by decide)) ?_
  rintro v L' ⟨rfl, rfl⟩
  rw [show readP [] = (zA, 220) from rfl]
  repeat' (first | (refine go1 ?_; intros) | (refine vl_caseG rfl rfl rfl rfl ?_ ?_ <;> (intro hb; (try simp only [decide_eq_true_eq, decide_eq_false_iff_not, Bool.not_eq_true', Bool.not_eq_false', ne_eq, Decidable.not_not, Option.isNone_iff_eq_none, not_true_eq_false, not_false_eq_true] at hb); try (exfalso; omega))) | (refine v_cond rfl ?_ ?_ <;> (intro hb; (try simp only [decide_eq_true_eq, decide_eq_false_iff_not, Bool.not_eq_true', Bool.not_eq_false', ne_eq, Decidable.not_not, Option.isNone_iff_eq_none, not_true_eq_false, not_false_eq_true] at hb); try (exfalso; omega))) | fail)
  rw [show ([.int .u8 5, .int .u8 0] : List Value) = bvs [5, 0] from rfl]
  refine vl_o rfl (vo_call rfl rfl ?_)
  refine vc_mono (wreadAsk_vc w0 _ _ 2 [5, 0] rfl (by decide) (by decide)) ?_
  rintro v L' ⟨rfl, rfl⟩
  rw [read50]
  repeat' (first | (refine go1 ?_; intros) | (refine vl_caseG rfl rfl rfl rfl ?_ ?_ <;> (intro hb; (try simp only [decide_eq_true_eq, decide_eq_false_iff_not, Bool.not_eq_true', Bool.not_eq_false', ne_eq, Decidable.not_not, Option.isNone_iff_eq_none, not_true_eq_false, not_false_eq_true] at hb); try (exfalso; omega))) | (refine v_cond rfl ?_ ?_ <;> (intro hb; (try simp only [decide_eq_true_eq, decide_eq_false_iff_not, Bool.not_eq_true', Bool.not_eq_false', ne_eq, Decidable.not_not, Option.isNone_iff_eq_none, not_true_eq_false, not_false_eq_true] at hb); try (exfalso; omega))) | fail)
  rw [show ([.int .u8 9] : List Value) = bvs [9] from rfl]
  refine vl_o rfl (vo_call rfl rfl ?_)
  refine vc_mono (wreadAsk_vc w0 _ _ 1 [9] rfl (by decide) (by decide)) ?_
  rintro v L' ⟨rfl, rfl⟩
  rw [read9]
  repeat' (first | (refine go1 ?_; intros) | (refine vl_caseG rfl rfl rfl rfl ?_ ?_ <;> (intro hb; (try simp only [decide_eq_true_eq, decide_eq_false_iff_not, Bool.not_eq_true', Bool.not_eq_false', ne_eq, Decidable.not_not, Option.isNone_iff_eq_none, not_true_eq_false, not_false_eq_true] at hb); try (exfalso; omega))) | (refine v_cond rfl ?_ ?_ <;> (intro hb; (try simp only [decide_eq_true_eq, decide_eq_false_iff_not, Bool.not_eq_true', Bool.not_eq_false', ne_eq, Decidable.not_not, Option.isNone_iff_eq_none, not_true_eq_false, not_false_eq_true] at hb); try (exfalso; omega))) | fail)
  refine vl_o rfl (vo_make (m := 121) rfl rfl rfl (by omega) (by omega) rfl ?_)
  intro g1
  rw [madeB 121]
  repeat' (first | (refine go1 ?_; intros) | (refine vl_caseG rfl rfl rfl rfl ?_ ?_ <;> (intro hb; (try simp only [decide_eq_true_eq, decide_eq_false_iff_not, Bool.not_eq_true', Bool.not_eq_false', ne_eq, Decidable.not_not, Option.isNone_iff_eq_none, not_true_eq_false, not_false_eq_true] at hb); try (exfalso; omega))) | (refine v_cond rfl ?_ ?_ <;> (intro hb; (try simp only [decide_eq_true_eq, decide_eq_false_iff_not, Bool.not_eq_true', Bool.not_eq_false', ne_eq, Decidable.not_not, Option.isNone_iff_eq_none, not_true_eq_false, not_false_eq_true] at hb); try (exfalso; omega))) | fail)
  rw [show splice (bvs (List.replicate 121 0)) 0 [.int .u8 1] = bvs (1 :: List.replicate 120 0) from rfl]
  repeat' (first | (refine go1 ?_; intros) | (refine vl_caseG rfl rfl rfl rfl ?_ ?_ <;> (intro hb; (try simp only [decide_eq_true_eq, decide_eq_false_iff_not, Bool.not_eq_true', Bool.not_eq_false', ne_eq, Decidable.not_not, Option.isNone_iff_eq_none, not_true_eq_false, not_false_eq_true] at hb); try (exfalso; omega))) | (refine v_cond rfl ?_ ?_ <;> (intro hb; (try simp only [decide_eq_true_eq, decide_eq_false_iff_not, Bool.not_eq_true', Bool.not_eq_false', ne_eq, Decidable.not_not, Option.isNone_iff_eq_none, not_true_eq_false, not_false_eq_true] at hb); try (exfalso; omega))) | fail)
  refine vl_o rfl (vo_call rfl rfl ?_)
  refine vc_mono (wreadAsk_vc w0 _ _ 121 (1 :: List.replicate 120 0) (by simp) (by simp) (by simp)) ?_
  rintro v L' ⟨rfl, rfl⟩
  rw [readZ]
  repeat' (first | (refine goB ?_; intros) | (refine vl_caseG rfl rfl rfl rfl ?_ ?_ <;> (intro hb; (try simp only [decide_eq_true_eq, decide_eq_false_iff_not, Bool.not_eq_true', Bool.not_eq_false', ne_eq, Decidable.not_not, Option.isNone_iff_eq_none, not_true_eq_false, not_false_eq_true] at hb); try (exfalso; omega))) | (refine v_cond rfl ?_ ?_ <;> (intro hb; (try simp only [decide_eq_true_eq, decide_eq_false_iff_not, Bool.not_eq_true', Bool.not_eq_false', ne_eq, Decidable.not_not, Option.isNone_iff_eq_none, not_true_eq_false, not_false_eq_true] at hb); try (exfalso; omega))) | fail)
  rw [rp0_cells]
  repeat' (first | (refine go1 ?_; intros) | (refine vl_caseG rfl rfl rfl rfl ?_ ?_ <;> (intro hb; (try simp only [decide_eq_true_eq, decide_eq_false_iff_not, Bool.not_eq_true', Bool.not_eq_false', ne_eq, Decidable.not_not, Option.isNone_iff_eq_none, not_true_eq_false, not_false_eq_true] at hb); try (exfalso; omega))) | (refine v_cond rfl ?_ ?_ <;> (intro hb; (try simp only [decide_eq_true_eq, decide_eq_false_iff_not, Bool.not_eq_true', Bool.not_eq_false', ne_eq, Decidable.not_not, Option.isNone_iff_eq_none, not_true_eq_false, not_false_eq_true] at hb); try (exfalso; omega))) | fail)
  refine vl_o rfl (vo_call rfl rfl ?_)
  refine vc_mono (replyBad_vc w0 _ rp0 rp0_ok rp0_in) ?_
  rintro v L' ⟨rfl, rfl⟩
  repeat' (first | (refine goB ?_; intros) | (refine vl_caseG rfl rfl rfl rfl ?_ ?_ <;> (intro hb; (try simp only [decide_eq_true_eq, decide_eq_false_iff_not, Bool.not_eq_true', Bool.not_eq_false', ne_eq, Decidable.not_not, Option.isNone_iff_eq_none, not_true_eq_false, not_false_eq_true] at hb); try (exfalso; omega))) | (refine v_cond rfl ?_ ?_ <;> (intro hb; (try simp only [decide_eq_true_eq, decide_eq_false_iff_not, Bool.not_eq_true', Bool.not_eq_false', ne_eq, Decidable.not_not, Option.isNone_iff_eq_none, not_true_eq_false, not_false_eq_true] at hb); try (exfalso; omega))) | fail)
  refine vl_q rfl rfl rfl rfl (vq_buildP (cs := aX.cells) rfl (by simp [okS, Value.cells]) rfl) ?_
  repeat' (first | (refine go1 ?_; intros) | (refine vl_caseG rfl rfl rfl rfl ?_ ?_ <;> (intro hb; (try simp only [decide_eq_true_eq, decide_eq_false_iff_not, Bool.not_eq_true', Bool.not_eq_false', ne_eq, Decidable.not_not, Option.isNone_iff_eq_none, not_true_eq_false, not_false_eq_true] at hb); try (exfalso; omega))) | (refine v_cond rfl ?_ ?_ <;> (intro hb; (try simp only [decide_eq_true_eq, decide_eq_false_iff_not, Bool.not_eq_true', Bool.not_eq_false', ne_eq, Decidable.not_not, Option.isNone_iff_eq_none, not_true_eq_false, not_false_eq_true] at hb); try (exfalso; omega))) | fail)
  refine vl_o rfl (vo_call rfl rfl ?_)
  refine vc_mono (waskAsk_vc w0 _ aX aX_ok) ?_
  rw [if_neg aX_may, if_neg aX_may]
  rintro v L' ⟨b2, c2, rfl, rfl⟩
  repeat' (first | (refine go1 ?_; intros) | (refine vl_caseG rfl rfl rfl rfl ?_ ?_ <;> (intro hb; (try simp only [decide_eq_true_eq, decide_eq_false_iff_not, Bool.not_eq_true', Bool.not_eq_false', ne_eq, Decidable.not_not, Option.isNone_iff_eq_none, not_true_eq_false, not_false_eq_true] at hb); try (exfalso; omega))) | (refine v_cond rfl ?_ ?_ <;> (intro hb; (try simp only [decide_eq_true_eq, decide_eq_false_iff_not, Bool.not_eq_true', Bool.not_eq_false', ne_eq, Decidable.not_not, Option.isNone_iff_eq_none, not_true_eq_false, not_false_eq_true] at hb); try (exfalso; omega))) | fail)
  refine vl_o rfl (vo_call rfl rfl ?_)
  refine vc_mono (alive22_vc w0 _) ?_
  rintro v L' ⟨rfl, rfl⟩
  repeat' (first | (refine go1 ?_; intros) | (refine vl_caseG rfl rfl rfl rfl ?_ ?_ <;> (intro hb; (try simp only [decide_eq_true_eq, decide_eq_false_iff_not, Bool.not_eq_true', Bool.not_eq_false', ne_eq, Decidable.not_not, Option.isNone_iff_eq_none, not_true_eq_false, not_false_eq_true] at hb); try (exfalso; omega))) | (refine v_cond rfl ?_ ?_ <;> (intro hb; (try simp only [decide_eq_true_eq, decide_eq_false_iff_not, Bool.not_eq_true', Bool.not_eq_false', ne_eq, Decidable.not_not, Option.isNone_iff_eq_none, not_true_eq_false, not_false_eq_true] at hb); try (exfalso; omega))) | fail)
  exact rfl
end Go.Proofs.YtbgokghmedmhaaaDoor
