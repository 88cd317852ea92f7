/-
  A request's bytes and reading, by the document.
-/
import Derived.Test.YtnoihibaoalkaaaDoorWirB
import Derived.Test.YtnoihibaoalkaaaDoorWirC
set_option linter.unusedVariables false
set_option linter.unusedSimpArgs false
namespace Go.Proofs.YtnoihibaoalkaaaDoor
open Go Go.RowKit
set_option linter.unusedVariables false
set_option linter.unusedSimpArgs false
open Classical

theorem raskAsk_vc (w0 : World) (L : List Asn) (a : Ask) (h : a.ok) :
    VC Tryd.prog w0 38 [.agg a.cells.toArray] L fun v L' => ∃ a' c', v = .tuple #[.slice a' (if mayA a = true then ofA a else []).length c', .int .i64 (if mayA a = true then 0 else 8)] ∧ L' = ownB a' c' (if mayA a = true then ofA a else []) :: L := by
  have hcl := Ask.len h
  haveI hoc : OC a.cells := oc_ask _
  refine vc_ent ?_
  refine vc_in rfl rfl ?_
  repeat' (first | (refine go1 ?_; intros) | (refine vl_caseG rfl rfl rfl rfl ?_ ?_ <;> (intro hb; (try simp only [decide_eq_true_eq, decide_eq_false_iff_not, Bool.not_eq_true', Bool.not_eq_false', ne_eq, Decidable.not_not, Option.isNone_iff_eq_none, not_true_eq_false, not_false_eq_true] at hb); try (exfalso; omega))) | (refine v_cond rfl ?_ ?_ <;> (intro hb; (try simp only [decide_eq_true_eq, decide_eq_false_iff_not, Bool.not_eq_true', Bool.not_eq_false', ne_eq, Decidable.not_not, Option.isNone_iff_eq_none, not_true_eq_false, not_false_eq_true] at hb); try (exfalso; omega))) | fail)
  refine vl_o rfl (vo_call rfl rfl ?_)
  refine vc_mono (rmayAsk_vc w0 _ a h) ?_
  rintro v L' ⟨rfl, rfl⟩
  cases hm : mayA a
  · repeat' (first | (refine go1 ?_; intros) | (refine vl_caseG rfl rfl rfl rfl ?_ ?_ <;> (intro hb; (try simp only [decide_eq_true_eq, decide_eq_false_iff_not, Bool.not_eq_true', Bool.not_eq_false', ne_eq, Decidable.not_not, Option.isNone_iff_eq_none, not_true_eq_false, not_false_eq_true] at hb); try (exfalso; omega))) | (refine v_cond rfl ?_ ?_ <;> (intro hb; (try simp only [decide_eq_true_eq, decide_eq_false_iff_not, Bool.not_eq_true', Bool.not_eq_false', ne_eq, Decidable.not_not, Option.isNone_iff_eq_none, not_true_eq_false, not_false_eq_true] at hb); try (exfalso; omega))) | fail)
    exact ⟨ownB none 0 [] :: L, (SEI.out.trans (se_own_nil 5 1 L)).ent w0, none, 0, rfl, rfl⟩
  · repeat' (first | (refine go1 ?_; intros) | (refine vl_caseG rfl rfl rfl rfl ?_ ?_ <;> (intro hb; (try simp only [decide_eq_true_eq, decide_eq_false_iff_not, Bool.not_eq_true', Bool.not_eq_false', ne_eq, Decidable.not_not, Option.isNone_iff_eq_none, not_true_eq_false, not_false_eq_true] at hb); try (exfalso; omega))) | (refine v_cond rfl ?_ ?_ <;> (intro hb; (try simp only [decide_eq_true_eq, decide_eq_false_iff_not, Bool.not_eq_true', Bool.not_eq_false', ne_eq, Decidable.not_not, Option.isNone_iff_eq_none, not_true_eq_false, not_false_eq_true] at hb); try (exfalso; omega))) | fail)
    refine vl_o rfl (vo_call rfl rfl ?_)
    refine vc_mono (rofAsk_vc w0 _ a h (mayA_rng hm)) ?_
    rintro v L' ⟨a', c', rfl, rfl⟩
    repeat' (first | (refine go1 ?_; intros) | (refine vl_caseG rfl rfl rfl rfl ?_ ?_ <;> (intro hb; (try simp only [decide_eq_true_eq, decide_eq_false_iff_not, Bool.not_eq_true', Bool.not_eq_false', ne_eq, Decidable.not_not, Option.isNone_iff_eq_none, not_true_eq_false, not_false_eq_true] at hb); try (exfalso; omega))) | (refine v_cond rfl ?_ ?_ <;> (intro hb; (try simp only [decide_eq_true_eq, decide_eq_false_iff_not, Bool.not_eq_true', Bool.not_eq_false', ne_eq, Decidable.not_not, Option.isNone_iff_eq_none, not_true_eq_false, not_false_eq_true] at hb); try (exfalso; omega))) | fail)
    exact ⟨_, sei _ _ (ownB a' c' (ofA a) :: L), a', c', rfl, rfl⟩
set_option maxRecDepth 100000 in
set_option maxHeartbeats 4000000 in
theorem rreadAsk_vc (w0 : World) (L : List Asn) (ab : Option Addr) (cb : Nat) (B : List UInt8) {n : Nat} (hn : n = B.length) (hc : B.length ≤ cb) (hl : B.length ≤ 100000) [hr : RdC w0 L ab (bvs B)] :
    VC Tryd.prog w0 40 [.slice ab n cb] L fun v L' => v = .tuple #[.agg (readA B).1.cells.toArray, .int .i64 (readA B).2] ∧ L' = L := by
  subst hn
  refine vc_ent ?_
  refine vc_in rfl rfl ?_
  cases B with
  | nil =>
    have e : readA [] = (zA, 220) := rfl
    rw [e]
    repeat' (first | (refine go1 ?_; intros) | (refine vl_caseG rfl rfl rfl rfl ?_ ?_ <;> (intro hb; (try simp only [decide_eq_true_eq, decide_eq_false_iff_not, Bool.not_eq_true', Bool.not_eq_false', ne_eq, Decidable.not_not, Option.isNone_iff_eq_none, not_true_eq_false, not_false_eq_true] at hb); try (exfalso; omega))) | (refine v_cond rfl ?_ ?_ <;> (intro hb; (try simp only [decide_eq_true_eq, decide_eq_false_iff_not, Bool.not_eq_true', Bool.not_eq_false', ne_eq, Decidable.not_not, Option.isNone_iff_eq_none, not_true_eq_false, not_false_eq_true] at hb); try (exfalso; omega))) | fail)
    all_goals first | (exfalso; simp at *; done) | skip
    rw [zA_cells]
    exact ⟨L, sei _ _ _, rfl, rfl⟩
  | cons k t =>
    obtain ⟨m, hm⟩ : ∃ m, m = (k :: t).length := ⟨_, rfl⟩
    have hc0 := hc
    have hl0 := hl
    rw [← hm] at hc hl ⊢
    have hm' := hm
    rw [List.length_cons] at hm
    have hg' : (bvs (k :: t))[0]? = some (.int .u8 (k.toNat : Nat)) := rfl
    have hpos : 0 < (bvs (k :: t)).length := by simp
    have hkb := k.toNat_lt
    have htl : t.length ≤ 100000 := by omega
    have hzo := zK_ok k
    have hzl := Ask.len hzo
    have f0 : (zK k).cells[0 + 0]? = some (.int .u8 (k.toNat : Nat)) := rfl
    haveI hoz : OC (zK k).cells := oc_ask _
    have hraw := rawA_ok k t
    have hdg : ∀ i, dig22 (k :: t) (i + 1) = dig22 t i := fun i => rfl
    have hsm : ∀ i s, small22 (k :: t) (i + 1) s = small22 t i s := fun i s => by
      unfold small22
      rw [List.length_cons, show (k :: t).drop (i + 1) = t.drop i from rfl]
      by_cases h : t.length < i + s
      · rw [if_pos h, if_pos (by omega)]
      · rw [if_neg h, if_neg (by omega)]
    haveI hdr : RdC w0 L (subA ab 1 cb 1) (bvs t) := rd_drop (w0 := w0) (L := L) (a := ab) (l := k :: t) 1 cb hc0
    have hsame : ∀ (R : Ask), rawA k t = R → ¬ (k.toNat = 1 ∧ (txRead t).2 = 110) → readA (k :: t) = if mayA R = true ∧ ofA R = k :: t then (R, 0) else (zA, 220) := fun R e1 e2 => by rw [readA, if_neg e2, e1]
    obtain ⟨zc, hzc⟩ : ∃ zc, zc = (zK k).cells := ⟨_, rfl⟩
    have hfill := zA_fill k
    rw [← hzc] at f0 hzl hoz hfill
    repeat' (first | (refine goB ?_; intros) | (refine vl_caseG rfl rfl rfl rfl ?_ ?_ <;> (intro hb; (try simp only [decide_eq_true_eq, decide_eq_false_iff_not, Bool.not_eq_true', Bool.not_eq_false', ne_eq, Decidable.not_not, Option.isNone_iff_eq_none, not_true_eq_false, not_false_eq_true] at hb); try (exfalso; omega))) | (refine v_cond rfl ?_ ?_ <;> (intro hb; (try simp only [decide_eq_true_eq, decide_eq_false_iff_not, Bool.not_eq_true', Bool.not_eq_false', ne_eq, Decidable.not_not, Option.isNone_iff_eq_none, not_true_eq_false, not_false_eq_true] at hb); try (exfalso; omega))) | fail)
    refine vl_q rfl rfl rfl rfl (vq_buildP (cs := zc) rfl (by simp [okS, Value.cells]) hfill) ?_
    by_cases k1 : k.toNat = 1
    · repeat' (first | (refine go1 ?_; intros) | (refine vl_caseG rfl rfl rfl rfl ?_ ?_ <;> (intro hb; (try simp only [decide_eq_true_eq, decide_eq_false_iff_not, Bool.not_eq_true', Bool.not_eq_false', ne_eq, Decidable.not_not, Option.isNone_iff_eq_none, not_true_eq_false, not_false_eq_true] at hb); try (exfalso; omega))) | (refine v_cond rfl ?_ ?_ <;> (intro hb; (try simp only [decide_eq_true_eq, decide_eq_false_iff_not, Bool.not_eq_true', Bool.not_eq_false', ne_eq, Decidable.not_not, Option.isNone_iff_eq_none, not_true_eq_false, not_false_eq_true] at hb); try (exfalso; omega))) | fail)
      all_goals first | (exfalso; omega) | skip
      refine vl_o rfl (vo_call rfl rfl ?_)
      refine vc_mono (rtxread_vc w0 _ (subA ab 1 cb 1) (cb - 1) t (by omega) (by omega) (by omega)) ?_
      rintro v L' ⟨rfl, rfl⟩
      have hxo := txRead_ok t
      by_cases hE : (txRead t).2 = 110
      · have hread : readA (k :: t) = (zA, 110) := by rw [readA, if_pos ⟨k1, hE⟩]
        rw [hread, hE]
        generalize (txRead t).1 = x at *
        have hxl := Tx.len hxo
        repeat' (first | (refine go1 ?_; intros) | (refine vl_caseG rfl rfl rfl rfl ?_ ?_ <;> (intro hb; (try simp only [decide_eq_true_eq, decide_eq_false_iff_not, Bool.not_eq_true', Bool.not_eq_false', ne_eq, Decidable.not_not, Option.isNone_iff_eq_none, not_true_eq_false, not_false_eq_true] at hb); try (exfalso; omega))) | (refine v_cond rfl ?_ ?_ <;> (intro hb; (try simp only [decide_eq_true_eq, decide_eq_false_iff_not, Bool.not_eq_true', Bool.not_eq_false', ne_eq, Decidable.not_not, Option.isNone_iff_eq_none, not_true_eq_false, not_false_eq_true] at hb); try (exfalso; omega))) | fail)
        rw [zA_cells]
        exact ⟨L, sei _ _ _, rfl, rfl⟩
      · obtain ⟨R, hR⟩ : ∃ R, R = rawA k t := ⟨_, rfl⟩
        rw [← hR] at hraw
        have hRo := hraw
        have hread := hsame R hR.symm (fun e => hE e.2)
        have eR : R = { zK k with tx := (txRead t).1 } := by rw [hR]; unfold rawA; rw [if_pos k1]; rfl
        have hset : splice zc (0 + 1) (txRead t).1.cells = R.cells := by rw [hzc, eR]; exact Ask.set1 hzo _ hxo
        clear hsame eR hR
        generalize (txRead t).1 = x at *
        generalize (txRead t).2 = E at *
        have hxl := Tx.len hxo
        repeat' (first | (refine go1 ?_; intros) | (refine vl_caseG rfl rfl rfl rfl ?_ ?_ <;> (intro hb; (try simp only [decide_eq_true_eq, decide_eq_false_iff_not, Bool.not_eq_true', Bool.not_eq_false', ne_eq, Decidable.not_not, Option.isNone_iff_eq_none, not_true_eq_false, not_false_eq_true] at hb); try (exfalso; omega))) | (refine v_cond rfl ?_ ?_ <;> (intro hb; (try simp only [decide_eq_true_eq, decide_eq_false_iff_not, Bool.not_eq_true', Bool.not_eq_false', ne_eq, Decidable.not_not, Option.isNone_iff_eq_none, not_true_eq_false, not_false_eq_true] at hb); try (exfalso; omega))) | fail)
        all_goals first | (exfalso; omega) | skip
        refine vl_o rfl (vo_stB rfl rfl rfl hxl (by omega) hset ?_)
        have hRl := Ask.len hRo
        haveI hoR : OC R.cells := oc_ask _
        repeat' (first | (refine go1 ?_; intros) | (refine vl_caseG rfl rfl rfl rfl ?_ ?_ <;> (intro hb; (try simp only [decide_eq_true_eq, decide_eq_false_iff_not, Bool.not_eq_true', Bool.not_eq_false', ne_eq, Decidable.not_not, Option.isNone_iff_eq_none, not_true_eq_false, not_false_eq_true] at hb); try (exfalso; omega))) | (refine v_cond rfl ?_ ?_ <;> (intro hb; (try simp only [decide_eq_true_eq, decide_eq_false_iff_not, Bool.not_eq_true', Bool.not_eq_false', ne_eq, Decidable.not_not, Option.isNone_iff_eq_none, not_true_eq_false, not_false_eq_true] at hb); try (exfalso; omega))) | fail)
        refine vl_o rfl (vo_call rfl rfl ?_)
        refine vc_mono (rmayAsk_vc w0 _ R hRo) ?_
        rintro v L' ⟨rfl, rfl⟩
        rw [hread]
        cases hmy : mayA R
        · rw [if_neg (by simp)]
          repeat' (first | (refine go1 ?_; intros) | (refine vl_caseG rfl rfl rfl rfl ?_ ?_ <;> (intro hb; (try simp only [decide_eq_true_eq, decide_eq_false_iff_not, Bool.not_eq_true', Bool.not_eq_false', ne_eq, Decidable.not_not, Option.isNone_iff_eq_none, not_true_eq_false, not_false_eq_true] at hb); try (exfalso; omega))) | (refine v_cond rfl ?_ ?_ <;> (intro hb; (try simp only [decide_eq_true_eq, decide_eq_false_iff_not, Bool.not_eq_true', Bool.not_eq_false', ne_eq, Decidable.not_not, Option.isNone_iff_eq_none, not_true_eq_false, not_false_eq_true] at hb); try (exfalso; omega))) | fail)
          rw [zA_cells]
          exact ⟨L, sei _ _ _, rfl, rfl⟩
        · repeat' (first | (refine go1 ?_; intros) | (refine vl_caseG rfl rfl rfl rfl ?_ ?_ <;> (intro hb; (try simp only [decide_eq_true_eq, decide_eq_false_iff_not, Bool.not_eq_true', Bool.not_eq_false', ne_eq, Decidable.not_not, Option.isNone_iff_eq_none, not_true_eq_false, not_false_eq_true] at hb); try (exfalso; omega))) | (refine v_cond rfl ?_ ?_ <;> (intro hb; (try simp only [decide_eq_true_eq, decide_eq_false_iff_not, Bool.not_eq_true', Bool.not_eq_false', ne_eq, Decidable.not_not, Option.isNone_iff_eq_none, not_true_eq_false, not_false_eq_true] at hb); try (exfalso; omega))) | fail)
          refine vl_o rfl (vo_call rfl rfl ?_)
          refine vc_mono (rofAsk_vc w0 _ R hRo (mayA_rng hmy)) ?_
          rintro v L' ⟨a3, c3, rfl, rfl⟩
          repeat' (first | (refine go1 ?_; intros) | (refine vl_caseG rfl rfl rfl rfl ?_ ?_ <;> (intro hb; (try simp only [decide_eq_true_eq, decide_eq_false_iff_not, Bool.not_eq_true', Bool.not_eq_false', ne_eq, Decidable.not_not, Option.isNone_iff_eq_none, not_true_eq_false, not_false_eq_true] at hb); try (exfalso; omega))) | (refine v_cond rfl ?_ ?_ <;> (intro hb; (try simp only [decide_eq_true_eq, decide_eq_false_iff_not, Bool.not_eq_true', Bool.not_eq_false', ne_eq, Decidable.not_not, Option.isNone_iff_eq_none, not_true_eq_false, not_false_eq_true] at hb); try (exfalso; omega))) | fail)
          refine vl_o rfl (vo_call rfl rfl ?_)
          refine vc_mono (same_vc w0 _ a3 c3 (ofA R) ab cb (k :: t) rfl hm') ?_
          rintro v L' ⟨rfl, rfl⟩
          by_cases hb2 : ofA R = k :: t
          · rw [decide_eq_true hb2, if_pos ⟨rfl, hb2⟩]
            repeat' (first | (refine go1 ?_; intros) | (refine vl_caseG rfl rfl rfl rfl ?_ ?_ <;> (intro hb; (try simp only [decide_eq_true_eq, decide_eq_false_iff_not, Bool.not_eq_true', Bool.not_eq_false', ne_eq, Decidable.not_not, Option.isNone_iff_eq_none, not_true_eq_false, not_false_eq_true] at hb); try (exfalso; omega))) | (refine v_cond rfl ?_ ?_ <;> (intro hb; (try simp only [decide_eq_true_eq, decide_eq_false_iff_not, Bool.not_eq_true', Bool.not_eq_false', ne_eq, Decidable.not_not, Option.isNone_iff_eq_none, not_true_eq_false, not_false_eq_true] at hb); try (exfalso; omega))) | fail)
            exact ⟨L, sei _ _ _, rfl, rfl⟩
          · rw [decide_eq_false hb2, if_neg (fun e => hb2 e.2)]
            repeat' (first | (refine go1 ?_; intros) | (refine vl_caseG rfl rfl rfl rfl ?_ ?_ <;> (intro hb; (try simp only [decide_eq_true_eq, decide_eq_false_iff_not, Bool.not_eq_true', Bool.not_eq_false', ne_eq, Decidable.not_not, Option.isNone_iff_eq_none, not_true_eq_false, not_false_eq_true] at hb); try (exfalso; omega))) | (refine v_cond rfl ?_ ?_ <;> (intro hb; (try simp only [decide_eq_true_eq, decide_eq_false_iff_not, Bool.not_eq_true', Bool.not_eq_false', ne_eq, Decidable.not_not, Option.isNone_iff_eq_none, not_true_eq_false, not_false_eq_true] at hb); try (exfalso; omega))) | fail)
            rw [zA_cells]
            exact ⟨L, sei _ _ _, rfl, rfl⟩
    have hn : ¬ (k.toNat = 1 ∧ (txRead t).2 = 110) := fun e => k1 e.1
    obtain ⟨R, hR⟩ : ∃ R, R = rawA k t := ⟨_, rfl⟩
    rw [← hR] at hraw
    have hRo := hraw
    have hread := hsame R hR.symm hn
    clear hsame hn
    by_cases k2 : k.toNat = 2 ∨ k.toNat = 3
    · have hdl := dig22_len (k :: t) 1
      have eR : R = { zK k with key := dig22 (k :: t) 1 } := by rw [hR, hdg 0]; unfold rawA; rw [if_neg k1, if_pos k2]; rfl
      have hset : splice zc (0 + 100) (bvs (dig22 (k :: t) 1)) = R.cells := by rw [hzc, eR]; exact Ask.set2 hzo _ hdl
      clear eR hR
      repeat' (first | (refine go1 ?_; intros) | (refine vl_caseG rfl rfl rfl rfl ?_ ?_ <;> (intro hb; (try simp only [decide_eq_true_eq, decide_eq_false_iff_not, Bool.not_eq_true', Bool.not_eq_false', ne_eq, Decidable.not_not, Option.isNone_iff_eq_none, not_true_eq_false, not_false_eq_true] at hb); try (exfalso; omega))) | (refine v_cond rfl ?_ ?_ <;> (intro hb; (try simp only [decide_eq_true_eq, decide_eq_false_iff_not, Bool.not_eq_true', Bool.not_eq_false', ne_eq, Decidable.not_not, Option.isNone_iff_eq_none, not_true_eq_false, not_false_eq_true] at hb); try (exfalso; omega))) | fail)
      all_goals first | (exfalso; omega) | skip
      · refine vl_o rfl (vo_call rfl rfl ?_)
        refine vc_mono (rdigest22_vc w0 _ ab cb (k :: t) 1 hm' (by omega) (by decide)) ?_
        rintro v L' ⟨rfl, rfl⟩
        generalize dig22 (k :: t) 1 = D at *
        repeat' (first | (refine go1 ?_; intros) | (refine vl_caseG rfl rfl rfl rfl ?_ ?_ <;> (intro hb; (try simp only [decide_eq_true_eq, decide_eq_false_iff_not, Bool.not_eq_true', Bool.not_eq_false', ne_eq, Decidable.not_not, Option.isNone_iff_eq_none, not_true_eq_false, not_false_eq_true] at hb); try (exfalso; omega))) | (refine v_cond rfl ?_ ?_ <;> (intro hb; (try simp only [decide_eq_true_eq, decide_eq_false_iff_not, Bool.not_eq_true', Bool.not_eq_false', ne_eq, Decidable.not_not, Option.isNone_iff_eq_none, not_true_eq_false, not_false_eq_true] at hb); try (exfalso; omega))) | fail)
        refine vl_o rfl (vo_stB rfl rfl rfl (by simp [hdl]) (by simp [hdl]; omega) hset ?_)
        have hRl := Ask.len hRo
        haveI hoR : OC R.cells := oc_ask _
        repeat' (first | (refine go1 ?_; intros) | (refine vl_caseG rfl rfl rfl rfl ?_ ?_ <;> (intro hb; (try simp only [decide_eq_true_eq, decide_eq_false_iff_not, Bool.not_eq_true', Bool.not_eq_false', ne_eq, Decidable.not_not, Option.isNone_iff_eq_none, not_true_eq_false, not_false_eq_true] at hb); try (exfalso; omega))) | (refine v_cond rfl ?_ ?_ <;> (intro hb; (try simp only [decide_eq_true_eq, decide_eq_false_iff_not, Bool.not_eq_true', Bool.not_eq_false', ne_eq, Decidable.not_not, Option.isNone_iff_eq_none, not_true_eq_false, not_false_eq_true] at hb); try (exfalso; omega))) | fail)
        refine vl_o rfl (vo_call rfl rfl ?_)
        refine vc_mono (rmayAsk_vc w0 _ R hRo) ?_
        rintro v L' ⟨rfl, rfl⟩
        rw [hread]
        cases hmy : mayA R
        · rw [if_neg (by simp)]
          repeat' (first | (refine go1 ?_; intros) | (refine vl_caseG rfl rfl rfl rfl ?_ ?_ <;> (intro hb; (try simp only [decide_eq_true_eq, decide_eq_false_iff_not, Bool.not_eq_true', Bool.not_eq_false', ne_eq, Decidable.not_not, Option.isNone_iff_eq_none, not_true_eq_false, not_false_eq_true] at hb); try (exfalso; omega))) | (refine v_cond rfl ?_ ?_ <;> (intro hb; (try simp only [decide_eq_true_eq, decide_eq_false_iff_not, Bool.not_eq_true', Bool.not_eq_false', ne_eq, Decidable.not_not, Option.isNone_iff_eq_none, not_true_eq_false, not_false_eq_true] at hb); try (exfalso; omega))) | fail)
          rw [zA_cells]
          exact ⟨L, sei _ _ _, rfl, rfl⟩
        · repeat' (first | (refine go1 ?_; intros) | (refine vl_caseG rfl rfl rfl rfl ?_ ?_ <;> (intro hb; (try simp only [decide_eq_true_eq, decide_eq_false_iff_not, Bool.not_eq_true', Bool.not_eq_false', ne_eq, Decidable.not_not, Option.isNone_iff_eq_none, not_true_eq_false, not_false_eq_true] at hb); try (exfalso; omega))) | (refine v_cond rfl ?_ ?_ <;> (intro hb; (try simp only [decide_eq_true_eq, decide_eq_false_iff_not, Bool.not_eq_true', Bool.not_eq_false', ne_eq, Decidable.not_not, Option.isNone_iff_eq_none, not_true_eq_false, not_false_eq_true] at hb); try (exfalso; omega))) | fail)
          refine vl_o rfl (vo_call rfl rfl ?_)
          refine vc_mono (rofAsk_vc w0 _ R hRo (mayA_rng hmy)) ?_
          rintro v L' ⟨a3, c3, rfl, rfl⟩
          repeat' (first | (refine go1 ?_; intros) | (refine vl_caseG rfl rfl rfl rfl ?_ ?_ <;> (intro hb; (try simp only [decide_eq_true_eq, decide_eq_false_iff_not, Bool.not_eq_true', Bool.not_eq_false', ne_eq, Decidable.not_not, Option.isNone_iff_eq_none, not_true_eq_false, not_false_eq_true] at hb); try (exfalso; omega))) | (refine v_cond rfl ?_ ?_ <;> (intro hb; (try simp only [decide_eq_true_eq, decide_eq_false_iff_not, Bool.not_eq_true', Bool.not_eq_false', ne_eq, Decidable.not_not, Option.isNone_iff_eq_none, not_true_eq_false, not_false_eq_true] at hb); try (exfalso; omega))) | fail)
          refine vl_o rfl (vo_call rfl rfl ?_)
          refine vc_mono (same_vc w0 _ a3 c3 (ofA R) ab cb (k :: t) rfl hm') ?_
          rintro v L' ⟨rfl, rfl⟩
          by_cases hb2 : ofA R = k :: t
          · rw [decide_eq_true hb2, if_pos ⟨rfl, hb2⟩]
            repeat' (first | (refine go1 ?_; intros) | (refine vl_caseG rfl rfl rfl rfl ?_ ?_ <;> (intro hb; (try simp only [decide_eq_true_eq, decide_eq_false_iff_not, Bool.not_eq_true', Bool.not_eq_false', ne_eq, Decidable.not_not, Option.isNone_iff_eq_none, not_true_eq_false, not_false_eq_true] at hb); try (exfalso; omega))) | (refine v_cond rfl ?_ ?_ <;> (intro hb; (try simp only [decide_eq_true_eq, decide_eq_false_iff_not, Bool.not_eq_true', Bool.not_eq_false', ne_eq, Decidable.not_not, Option.isNone_iff_eq_none, not_true_eq_false, not_false_eq_true] at hb); try (exfalso; omega))) | fail)
            exact ⟨L, sei _ _ _, rfl, rfl⟩
          · rw [decide_eq_false hb2, if_neg (fun e => hb2 e.2)]
            repeat' (first | (refine go1 ?_; intros) | (refine vl_caseG rfl rfl rfl rfl ?_ ?_ <;> (intro hb; (try simp only [decide_eq_true_eq, decide_eq_false_iff_not, Bool.not_eq_true', Bool.not_eq_false', ne_eq, Decidable.not_not, Option.isNone_iff_eq_none, not_true_eq_false, not_false_eq_true] at hb); try (exfalso; omega))) | (refine v_cond rfl ?_ ?_ <;> (intro hb; (try simp only [decide_eq_true_eq, decide_eq_false_iff_not, Bool.not_eq_true', Bool.not_eq_false', ne_eq, Decidable.not_not, Option.isNone_iff_eq_none, not_true_eq_false, not_false_eq_true] at hb); try (exfalso; omega))) | fail)
            rw [zA_cells]
            exact ⟨L, sei _ _ _, rfl, rfl⟩
      · refine vl_o rfl (vo_call rfl rfl ?_)
        refine vc_mono (rdigest22_vc w0 _ ab cb (k :: t) 1 hm' (by omega) (by decide)) ?_
        rintro v L' ⟨rfl, rfl⟩
        generalize dig22 (k :: t) 1 = D at *
        repeat' (first | (refine go1 ?_; intros) | (refine vl_caseG rfl rfl rfl rfl ?_ ?_ <;> (intro hb; (try simp only [decide_eq_true_eq, decide_eq_false_iff_not, Bool.not_eq_true', Bool.not_eq_false', ne_eq, Decidable.not_not, Option.isNone_iff_eq_none, not_true_eq_false, not_false_eq_true] at hb); try (exfalso; omega))) | (refine v_cond rfl ?_ ?_ <;> (intro hb; (try simp only [decide_eq_true_eq, decide_eq_false_iff_not, Bool.not_eq_true', Bool.not_eq_false', ne_eq, Decidable.not_not, Option.isNone_iff_eq_none, not_true_eq_false, not_false_eq_true] at hb); try (exfalso; omega))) | fail)
        refine vl_o rfl (vo_stB rfl rfl rfl (by simp [hdl]) (by simp [hdl]; omega) hset ?_)
        have hRl := Ask.len hRo
        haveI hoR : OC R.cells := oc_ask _
        repeat' (first | (refine go1 ?_; intros) | (refine vl_caseG rfl rfl rfl rfl ?_ ?_ <;> (intro hb; (try simp only [decide_eq_true_eq, decide_eq_false_iff_not, Bool.not_eq_true', Bool.not_eq_false', ne_eq, Decidable.not_not, Option.isNone_iff_eq_none, not_true_eq_false, not_false_eq_true] at hb); try (exfalso; omega))) | (refine v_cond rfl ?_ ?_ <;> (intro hb; (try simp only [decide_eq_true_eq, decide_eq_false_iff_not, Bool.not_eq_true', Bool.not_eq_false', ne_eq, Decidable.not_not, Option.isNone_iff_eq_none, not_true_eq_false, not_false_eq_true] at hb); try (exfalso; omega))) | fail)
        refine vl_o rfl (vo_call rfl rfl ?_)
        refine vc_mono (rmayAsk_vc w0 _ R hRo) ?_
        rintro v L' ⟨rfl, rfl⟩
        rw [hread]
        cases hmy : mayA R
        · rw [if_neg (by simp)]
          repeat' (first | (refine go1 ?_; intros) | (refine vl_caseG rfl rfl rfl rfl ?_ ?_ <;> (intro hb; (try simp only [decide_eq_true_eq, decide_eq_false_iff_not, Bool.not_eq_true', Bool.not_eq_false', ne_eq, Decidable.not_not, Option.isNone_iff_eq_none, not_true_eq_false, not_false_eq_true] at hb); try (exfalso; omega))) | (refine v_cond rfl ?_ ?_ <;> (intro hb; (try simp only [decide_eq_true_eq, decide_eq_false_iff_not, Bool.not_eq_true', Bool.not_eq_false', ne_eq, Decidable.not_not, Option.isNone_iff_eq_none, not_true_eq_false, not_false_eq_true] at hb); try (exfalso; omega))) | fail)
          rw [zA_cells]
          exact ⟨L, sei _ _ _, rfl, rfl⟩
        · repeat' (first | (refine go1 ?_; intros) | (refine vl_caseG rfl rfl rfl rfl ?_ ?_ <;> (intro hb; (try simp only [decide_eq_true_eq, decide_eq_false_iff_not, Bool.not_eq_true', Bool.not_eq_false', ne_eq, Decidable.not_not, Option.isNone_iff_eq_none, not_true_eq_false, not_false_eq_true] at hb); try (exfalso; omega))) | (refine v_cond rfl ?_ ?_ <;> (intro hb; (try simp only [decide_eq_true_eq, decide_eq_false_iff_not, Bool.not_eq_true', Bool.not_eq_false', ne_eq, Decidable.not_not, Option.isNone_iff_eq_none, not_true_eq_false, not_false_eq_true] at hb); try (exfalso; omega))) | fail)
          refine vl_o rfl (vo_call rfl rfl ?_)
          refine vc_mono (rofAsk_vc w0 _ R hRo (mayA_rng hmy)) ?_
          rintro v L' ⟨a3, c3, rfl, rfl⟩
          repeat' (first | (refine go1 ?_; intros) | (refine vl_caseG rfl rfl rfl rfl ?_ ?_ <;> (intro hb; (try simp only [decide_eq_true_eq, decide_eq_false_iff_not, Bool.not_eq_true', Bool.not_eq_false', ne_eq, Decidable.not_not, Option.isNone_iff_eq_none, not_true_eq_false, not_false_eq_true] at hb); try (exfalso; omega))) | (refine v_cond rfl ?_ ?_ <;> (intro hb; (try simp only [decide_eq_true_eq, decide_eq_false_iff_not, Bool.not_eq_true', Bool.not_eq_false', ne_eq, Decidable.not_not, Option.isNone_iff_eq_none, not_true_eq_false, not_false_eq_true] at hb); try (exfalso; omega))) | fail)
          refine vl_o rfl (vo_call rfl rfl ?_)
          refine vc_mono (same_vc w0 _ a3 c3 (ofA R) ab cb (k :: t) rfl hm') ?_
          rintro v L' ⟨rfl, rfl⟩
          by_cases hb2 : ofA R = k :: t
          · rw [decide_eq_true hb2, if_pos ⟨rfl, hb2⟩]
            repeat' (first | (refine go1 ?_; intros) | (refine vl_caseG rfl rfl rfl rfl ?_ ?_ <;> (intro hb; (try simp only [decide_eq_true_eq, decide_eq_false_iff_not, Bool.not_eq_true', Bool.not_eq_false', ne_eq, Decidable.not_not, Option.isNone_iff_eq_none, not_true_eq_false, not_false_eq_true] at hb); try (exfalso; omega))) | (refine v_cond rfl ?_ ?_ <;> (intro hb; (try simp only [decide_eq_true_eq, decide_eq_false_iff_not, Bool.not_eq_true', Bool.not_eq_false', ne_eq, Decidable.not_not, Option.isNone_iff_eq_none, not_true_eq_false, not_false_eq_true] at hb); try (exfalso; omega))) | fail)
            exact ⟨L, sei _ _ _, rfl, rfl⟩
          · rw [decide_eq_false hb2, if_neg (fun e => hb2 e.2)]
            repeat' (first | (refine go1 ?_; intros) | (refine vl_caseG rfl rfl rfl rfl ?_ ?_ <;> (intro hb; (try simp only [decide_eq_true_eq, decide_eq_false_iff_not, Bool.not_eq_true', Bool.not_eq_false', ne_eq, Decidable.not_not, Option.isNone_iff_eq_none, not_true_eq_false, not_false_eq_true] at hb); try (exfalso; omega))) | (refine v_cond rfl ?_ ?_ <;> (intro hb; (try simp only [decide_eq_true_eq, decide_eq_false_iff_not, Bool.not_eq_true', Bool.not_eq_false', ne_eq, Decidable.not_not, Option.isNone_iff_eq_none, not_true_eq_false, not_false_eq_true] at hb); try (exfalso; omega))) | fail)
            rw [zA_cells]
            exact ⟨L, sei _ _ _, rfl, rfl⟩
    by_cases k4 : k.toNat = 4
    · have hdl := dig22_len (k :: t) 9
      have eR : R = { { zK k with height := small22 (k :: t) 1 8 } with key := dig22 (k :: t) 9 } := by rw [hR, hdg 8, hsm 0 8]; unfold rawA; rw [if_neg k1, if_neg k2, if_pos k4]; rfl
      have s1 := small22_lo (k :: t) 1 8
      have s2 := small22_hi (k :: t) 1 8
      have hz2 : ({ zK k with height := small22 (k :: t) 1 8 } : Ask).ok := ⟨hzo.tx, hzo.key, by show -9223372036854775808 ≤ small22 (k :: t) 1 8; omega, by show small22 (k :: t) 1 8 < 9223372036854775808; omega, hzo.s1, hzo.s2⟩
      have hset1 : splice zc (0 + 132) [.int .i64 (small22 (k :: t) 1 8)] = ({ zK k with height := small22 (k :: t) 1 8 } : Ask).cells := by rw [hzc]; exact Ask.set3 hzo _
      have hset : splice ({ zK k with height := small22 (k :: t) 1 8 } : Ask).cells (0 + 100) (bvs (dig22 (k :: t) 9)) = R.cells := by rw [eR]; exact Ask.set2 hz2 _ hdl
      have hz2l := Ask.len hz2
      clear eR hR
      obtain ⟨zd, hzd⟩ : ∃ zd, zd = ({ zK k with height := small22 (k :: t) 1 8 } : Ask).cells := ⟨_, rfl⟩
      rw [← hzd] at hset1 hset hz2l
      haveI hozd : OC zd := by rw [hzd]; exact oc_ask _
      clear hzd
      repeat' (first | (refine go1 ?_; intros) | (refine vl_caseG rfl rfl rfl rfl ?_ ?_ <;> (intro hb; (try simp only [decide_eq_true_eq, decide_eq_false_iff_not, Bool.not_eq_true', Bool.not_eq_false', ne_eq, Decidable.not_not, Option.isNone_iff_eq_none, not_true_eq_false, not_false_eq_true] at hb); try (exfalso; omega))) | (refine v_cond rfl ?_ ?_ <;> (intro hb; (try simp only [decide_eq_true_eq, decide_eq_false_iff_not, Bool.not_eq_true', Bool.not_eq_false', ne_eq, Decidable.not_not, Option.isNone_iff_eq_none, not_true_eq_false, not_false_eq_true] at hb); try (exfalso; omega))) | fail)
      all_goals first | (exfalso; omega) | skip
      refine vl_o rfl (vo_call rfl rfl ?_)
      refine vc_mono (rsmall22_vc w0 _ ab cb (k :: t) 1 8 hm' hc0 (by omega) (by decide) (by decide)) ?_
      rintro v L' ⟨rfl, rfl⟩
      generalize small22 (k :: t) 1 8 = N at *
      repeat' (first | (refine go1 ?_; intros) | (refine vl_caseG rfl rfl rfl rfl ?_ ?_ <;> (intro hb; (try simp only [decide_eq_true_eq, decide_eq_false_iff_not, Bool.not_eq_true', Bool.not_eq_false', ne_eq, Decidable.not_not, Option.isNone_iff_eq_none, not_true_eq_false, not_false_eq_true] at hb); try (exfalso; omega))) | (refine v_cond rfl ?_ ?_ <;> (intro hb; (try simp only [decide_eq_true_eq, decide_eq_false_iff_not, Bool.not_eq_true', Bool.not_eq_false', ne_eq, Decidable.not_not, Option.isNone_iff_eq_none, not_true_eq_false, not_false_eq_true] at hb); try (exfalso; omega))) | fail)
      rw [hset1]
      refine vl_o rfl (vo_call rfl rfl ?_)
      refine vc_mono (rdigest22_vc w0 _ ab cb (k :: t) 9 hm' (by omega) (by decide)) ?_
      rintro v L' ⟨rfl, rfl⟩
      generalize dig22 (k :: t) 9 = D at *
      repeat' (first | (refine go1 ?_; intros) | (refine vl_caseG rfl rfl rfl rfl ?_ ?_ <;> (intro hb; (try simp only [decide_eq_true_eq, decide_eq_false_iff_not, Bool.not_eq_true', Bool.not_eq_false', ne_eq, Decidable.not_not, Option.isNone_iff_eq_none, not_true_eq_false, not_false_eq_true] at hb); try (exfalso; omega))) | (refine v_cond rfl ?_ ?_ <;> (intro hb; (try simp only [decide_eq_true_eq, decide_eq_false_iff_not, Bool.not_eq_true', Bool.not_eq_false', ne_eq, Decidable.not_not, Option.isNone_iff_eq_none, not_true_eq_false, not_false_eq_true] at hb); try (exfalso; omega))) | fail)
      refine vl_o rfl (vo_stB rfl rfl rfl (by simp [hdl]) (by simp [hdl]; omega) hset ?_)
      have hRl := Ask.len hRo
      haveI hoR : OC R.cells := oc_ask _
      repeat' (first | (refine go1 ?_; intros) | (refine vl_caseG rfl rfl rfl rfl ?_ ?_ <;> (intro hb; (try simp only [decide_eq_true_eq, decide_eq_false_iff_not, Bool.not_eq_true', Bool.not_eq_false', ne_eq, Decidable.not_not, Option.isNone_iff_eq_none, not_true_eq_false, not_false_eq_true] at hb); try (exfalso; omega))) | (refine v_cond rfl ?_ ?_ <;> (intro hb; (try simp only [decide_eq_true_eq, decide_eq_false_iff_not, Bool.not_eq_true', Bool.not_eq_false', ne_eq, Decidable.not_not, Option.isNone_iff_eq_none, not_true_eq_false, not_false_eq_true] at hb); try (exfalso; omega))) | fail)
      refine vl_o rfl (vo_call rfl rfl ?_)
      refine vc_mono (rmayAsk_vc w0 _ R hRo) ?_
      rintro v L' ⟨rfl, rfl⟩
      rw [hread]
      cases hmy : mayA R
      · rw [if_neg (by simp)]
        repeat' (first | (refine go1 ?_; intros) | (refine vl_caseG rfl rfl rfl rfl ?_ ?_ <;> (intro hb; (try simp only [decide_eq_true_eq, decide_eq_false_iff_not, Bool.not_eq_true', Bool.not_eq_false', ne_eq, Decidable.not_not, Option.isNone_iff_eq_none, not_true_eq_false, not_false_eq_true] at hb); try (exfalso; omega))) | (refine v_cond rfl ?_ ?_ <;> (intro hb; (try simp only [decide_eq_true_eq, decide_eq_false_iff_not, Bool.not_eq_true', Bool.not_eq_false', ne_eq, Decidable.not_not, Option.isNone_iff_eq_none, not_true_eq_false, not_false_eq_true] at hb); try (exfalso; omega))) | fail)
        rw [zA_cells]
        exact ⟨L, sei _ _ _, rfl, rfl⟩
      · repeat' (first | (refine go1 ?_; intros) | (refine vl_caseG rfl rfl rfl rfl ?_ ?_ <;> (intro hb; (try simp only [decide_eq_true_eq, decide_eq_false_iff_not, Bool.not_eq_true', Bool.not_eq_false', ne_eq, Decidable.not_not, Option.isNone_iff_eq_none, not_true_eq_false, not_false_eq_true] at hb); try (exfalso; omega))) | (refine v_cond rfl ?_ ?_ <;> (intro hb; (try simp only [decide_eq_true_eq, decide_eq_false_iff_not, Bool.not_eq_true', Bool.not_eq_false', ne_eq, Decidable.not_not, Option.isNone_iff_eq_none, not_true_eq_false, not_false_eq_true] at hb); try (exfalso; omega))) | fail)
        refine vl_o rfl (vo_call rfl rfl ?_)
        refine vc_mono (rofAsk_vc w0 _ R hRo (mayA_rng hmy)) ?_
        rintro v L' ⟨a3, c3, rfl, rfl⟩
        repeat' (first | (refine go1 ?_; intros) | (refine vl_caseG rfl rfl rfl rfl ?_ ?_ <;> (intro hb; (try simp only [decide_eq_true_eq, decide_eq_false_iff_not, Bool.not_eq_true', Bool.not_eq_false', ne_eq, Decidable.not_not, Option.isNone_iff_eq_none, not_true_eq_false, not_false_eq_true] at hb); try (exfalso; omega))) | (refine v_cond rfl ?_ ?_ <;> (intro hb; (try simp only [decide_eq_true_eq, decide_eq_false_iff_not, Bool.not_eq_true', Bool.not_eq_false', ne_eq, Decidable.not_not, Option.isNone_iff_eq_none, not_true_eq_false, not_false_eq_true] at hb); try (exfalso; omega))) | fail)
        refine vl_o rfl (vo_call rfl rfl ?_)
        refine vc_mono (same_vc w0 _ a3 c3 (ofA R) ab cb (k :: t) rfl hm') ?_
        rintro v L' ⟨rfl, rfl⟩
        by_cases hb2 : ofA R = k :: t
        · rw [decide_eq_true hb2, if_pos ⟨rfl, hb2⟩]
          repeat' (first | (refine go1 ?_; intros) | (refine vl_caseG rfl rfl rfl rfl ?_ ?_ <;> (intro hb; (try simp only [decide_eq_true_eq, decide_eq_false_iff_not, Bool.not_eq_true', Bool.not_eq_false', ne_eq, Decidable.not_not, Option.isNone_iff_eq_none, not_true_eq_false, not_false_eq_true] at hb); try (exfalso; omega))) | (refine v_cond rfl ?_ ?_ <;> (intro hb; (try simp only [decide_eq_true_eq, decide_eq_false_iff_not, Bool.not_eq_true', Bool.not_eq_false', ne_eq, Decidable.not_not, Option.isNone_iff_eq_none, not_true_eq_false, not_false_eq_true] at hb); try (exfalso; omega))) | fail)
          exact ⟨L, sei _ _ _, rfl, rfl⟩
        · rw [decide_eq_false hb2, if_neg (fun e => hb2 e.2)]
          repeat' (first | (refine go1 ?_; intros) | (refine vl_caseG rfl rfl rfl rfl ?_ ?_ <;> (intro hb; (try simp only [decide_eq_true_eq, decide_eq_false_iff_not, Bool.not_eq_true', Bool.not_eq_false', ne_eq, Decidable.not_not, Option.isNone_iff_eq_none, not_true_eq_false, not_false_eq_true] at hb); try (exfalso; omega))) | (refine v_cond rfl ?_ ?_ <;> (intro hb; (try simp only [decide_eq_true_eq, decide_eq_false_iff_not, Bool.not_eq_true', Bool.not_eq_false', ne_eq, Decidable.not_not, Option.isNone_iff_eq_none, not_true_eq_false, not_false_eq_true] at hb); try (exfalso; omega))) | fail)
          rw [zA_cells]
          exact ⟨L, sei _ _ _, rfl, rfl⟩
    by_cases k7 : k.toNat = 7 ∨ k.toNat = 8
    · have eR : R = { zK k with sub := small22 (k :: t) 1 4 } := by rw [hR, hsm 0 4]; unfold rawA; rw [if_neg k1, if_neg k2, if_neg k4, if_pos k7]; rfl
      have hset : splice zc (0 + 133) [.int .i64 (small22 (k :: t) 1 4)] = R.cells := by rw [hzc, eR]; exact Ask.set4 hzo _
      have hRl0 := Ask.len hRo
      clear eR hR
      repeat' (first | (refine go1 ?_; intros) | (refine vl_caseG rfl rfl rfl rfl ?_ ?_ <;> (intro hb; (try simp only [decide_eq_true_eq, decide_eq_false_iff_not, Bool.not_eq_true', Bool.not_eq_false', ne_eq, Decidable.not_not, Option.isNone_iff_eq_none, not_true_eq_false, not_false_eq_true] at hb); try (exfalso; omega))) | (refine v_cond rfl ?_ ?_ <;> (intro hb; (try simp only [decide_eq_true_eq, decide_eq_false_iff_not, Bool.not_eq_true', Bool.not_eq_false', ne_eq, Decidable.not_not, Option.isNone_iff_eq_none, not_true_eq_false, not_false_eq_true] at hb); try (exfalso; omega))) | fail)
      all_goals first | (exfalso; omega) | skip
      · refine vl_o rfl (vo_call rfl rfl ?_)
        refine vc_mono (rsmall22_vc w0 _ ab cb (k :: t) 1 4 hm' hc0 (by omega) (by decide) (by decide)) ?_
        rintro v L' ⟨rfl, rfl⟩
        generalize small22 (k :: t) 1 4 = N at *
        repeat' (first | (refine go1 ?_; intros) | (refine vl_caseG rfl rfl rfl rfl ?_ ?_ <;> (intro hb; (try simp only [decide_eq_true_eq, decide_eq_false_iff_not, Bool.not_eq_true', Bool.not_eq_false', ne_eq, Decidable.not_not, Option.isNone_iff_eq_none, not_true_eq_false, not_false_eq_true] at hb); try (exfalso; omega))) | (refine v_cond rfl ?_ ?_ <;> (intro hb; (try simp only [decide_eq_true_eq, decide_eq_false_iff_not, Bool.not_eq_true', Bool.not_eq_false', ne_eq, Decidable.not_not, Option.isNone_iff_eq_none, not_true_eq_false, not_false_eq_true] at hb); try (exfalso; omega))) | fail)
        rw [hset]
        have hRl := Ask.len hRo
        haveI hoR : OC R.cells := oc_ask _
        repeat' (first | (refine go1 ?_; intros) | (refine vl_caseG rfl rfl rfl rfl ?_ ?_ <;> (intro hb; (try simp only [decide_eq_true_eq, decide_eq_false_iff_not, Bool.not_eq_true', Bool.not_eq_false', ne_eq, Decidable.not_not, Option.isNone_iff_eq_none, not_true_eq_false, not_false_eq_true] at hb); try (exfalso; omega))) | (refine v_cond rfl ?_ ?_ <;> (intro hb; (try simp only [decide_eq_true_eq, decide_eq_false_iff_not, Bool.not_eq_true', Bool.not_eq_false', ne_eq, Decidable.not_not, Option.isNone_iff_eq_none, not_true_eq_false, not_false_eq_true] at hb); try (exfalso; omega))) | fail)
        refine vl_o rfl (vo_call rfl rfl ?_)
        refine vc_mono (rmayAsk_vc w0 _ R hRo) ?_
        rintro v L' ⟨rfl, rfl⟩
        rw [hread]
        cases hmy : mayA R
        · rw [if_neg (by simp)]
          repeat' (first | (refine go1 ?_; intros) | (refine vl_caseG rfl rfl rfl rfl ?_ ?_ <;> (intro hb; (try simp only [decide_eq_true_eq, decide_eq_false_iff_not, Bool.not_eq_true', Bool.not_eq_false', ne_eq, Decidable.not_not, Option.isNone_iff_eq_none, not_true_eq_false, not_false_eq_true] at hb); try (exfalso; omega))) | (refine v_cond rfl ?_ ?_ <;> (intro hb; (try simp only [decide_eq_true_eq, decide_eq_false_iff_not, Bool.not_eq_true', Bool.not_eq_false', ne_eq, Decidable.not_not, Option.isNone_iff_eq_none, not_true_eq_false, not_false_eq_true] at hb); try (exfalso; omega))) | fail)
          rw [zA_cells]
          exact ⟨L, sei _ _ _, rfl, rfl⟩
        · repeat' (first | (refine go1 ?_; intros) | (refine vl_caseG rfl rfl rfl rfl ?_ ?_ <;> (intro hb; (try simp only [decide_eq_true_eq, decide_eq_false_iff_not, Bool.not_eq_true', Bool.not_eq_false', ne_eq, Decidable.not_not, Option.isNone_iff_eq_none, not_true_eq_false, not_false_eq_true] at hb); try (exfalso; omega))) | (refine v_cond rfl ?_ ?_ <;> (intro hb; (try simp only [decide_eq_true_eq, decide_eq_false_iff_not, Bool.not_eq_true', Bool.not_eq_false', ne_eq, Decidable.not_not, Option.isNone_iff_eq_none, not_true_eq_false, not_false_eq_true] at hb); try (exfalso; omega))) | fail)
          refine vl_o rfl (vo_call rfl rfl ?_)
          refine vc_mono (rofAsk_vc w0 _ R hRo (mayA_rng hmy)) ?_
          rintro v L' ⟨a3, c3, rfl, rfl⟩
          repeat' (first | (refine go1 ?_; intros) | (refine vl_caseG rfl rfl rfl rfl ?_ ?_ <;> (intro hb; (try simp only [decide_eq_true_eq, decide_eq_false_iff_not, Bool.not_eq_true', Bool.not_eq_false', ne_eq, Decidable.not_not, Option.isNone_iff_eq_none, not_true_eq_false, not_false_eq_true] at hb); try (exfalso; omega))) | (refine v_cond rfl ?_ ?_ <;> (intro hb; (try simp only [decide_eq_true_eq, decide_eq_false_iff_not, Bool.not_eq_true', Bool.not_eq_false', ne_eq, Decidable.not_not, Option.isNone_iff_eq_none, not_true_eq_false, not_false_eq_true] at hb); try (exfalso; omega))) | fail)
          refine vl_o rfl (vo_call rfl rfl ?_)
          refine vc_mono (same_vc w0 _ a3 c3 (ofA R) ab cb (k :: t) rfl hm') ?_
          rintro v L' ⟨rfl, rfl⟩
          by_cases hb2 : ofA R = k :: t
          · rw [decide_eq_true hb2, if_pos ⟨rfl, hb2⟩]
            repeat' (first | (refine go1 ?_; intros) | (refine vl_caseG rfl rfl rfl rfl ?_ ?_ <;> (intro hb; (try simp only [decide_eq_true_eq, decide_eq_false_iff_not, Bool.not_eq_true', Bool.not_eq_false', ne_eq, Decidable.not_not, Option.isNone_iff_eq_none, not_true_eq_false, not_false_eq_true] at hb); try (exfalso; omega))) | (refine v_cond rfl ?_ ?_ <;> (intro hb; (try simp only [decide_eq_true_eq, decide_eq_false_iff_not, Bool.not_eq_true', Bool.not_eq_false', ne_eq, Decidable.not_not, Option.isNone_iff_eq_none, not_true_eq_false, not_false_eq_true] at hb); try (exfalso; omega))) | fail)
            exact ⟨L, sei _ _ _, rfl, rfl⟩
          · rw [decide_eq_false hb2, if_neg (fun e => hb2 e.2)]
            repeat' (first | (refine go1 ?_; intros) | (refine vl_caseG rfl rfl rfl rfl ?_ ?_ <;> (intro hb; (try simp only [decide_eq_true_eq, decide_eq_false_iff_not, Bool.not_eq_true', Bool.not_eq_false', ne_eq, Decidable.not_not, Option.isNone_iff_eq_none, not_true_eq_false, not_false_eq_true] at hb); try (exfalso; omega))) | (refine v_cond rfl ?_ ?_ <;> (intro hb; (try simp only [decide_eq_true_eq, decide_eq_false_iff_not, Bool.not_eq_true', Bool.not_eq_false', ne_eq, Decidable.not_not, Option.isNone_iff_eq_none, not_true_eq_false, not_false_eq_true] at hb); try (exfalso; omega))) | fail)
            rw [zA_cells]
            exact ⟨L, sei _ _ _, rfl, rfl⟩
      · refine vl_o rfl (vo_call rfl rfl ?_)
        refine vc_mono (rsmall22_vc w0 _ ab cb (k :: t) 1 4 hm' hc0 (by omega) (by decide) (by decide)) ?_
        rintro v L' ⟨rfl, rfl⟩
        generalize small22 (k :: t) 1 4 = N at *
        repeat' (first | (refine go1 ?_; intros) | (refine vl_caseG rfl rfl rfl rfl ?_ ?_ <;> (intro hb; (try simp only [decide_eq_true_eq, decide_eq_false_iff_not, Bool.not_eq_true', Bool.not_eq_false', ne_eq, Decidable.not_not, Option.isNone_iff_eq_none, not_true_eq_false, not_false_eq_true] at hb); try (exfalso; omega))) | (refine v_cond rfl ?_ ?_ <;> (intro hb; (try simp only [decide_eq_true_eq, decide_eq_false_iff_not, Bool.not_eq_true', Bool.not_eq_false', ne_eq, Decidable.not_not, Option.isNone_iff_eq_none, not_true_eq_false, not_false_eq_true] at hb); try (exfalso; omega))) | fail)
        rw [hset]
        have hRl := Ask.len hRo
        haveI hoR : OC R.cells := oc_ask _
        repeat' (first | (refine go1 ?_; intros) | (refine vl_caseG rfl rfl rfl rfl ?_ ?_ <;> (intro hb; (try simp only [decide_eq_true_eq, decide_eq_false_iff_not, Bool.not_eq_true', Bool.not_eq_false', ne_eq, Decidable.not_not, Option.isNone_iff_eq_none, not_true_eq_false, not_false_eq_true] at hb); try (exfalso; omega))) | (refine v_cond rfl ?_ ?_ <;> (intro hb; (try simp only [decide_eq_true_eq, decide_eq_false_iff_not, Bool.not_eq_true', Bool.not_eq_false', ne_eq, Decidable.not_not, Option.isNone_iff_eq_none, not_true_eq_false, not_false_eq_true] at hb); try (exfalso; omega))) | fail)
        refine vl_o rfl (vo_call rfl rfl ?_)
        refine vc_mono (rmayAsk_vc w0 _ R hRo) ?_
        rintro v L' ⟨rfl, rfl⟩
        rw [hread]
        cases hmy : mayA R
        · rw [if_neg (by simp)]
          repeat' (first | (refine go1 ?_; intros) | (refine vl_caseG rfl rfl rfl rfl ?_ ?_ <;> (intro hb; (try simp only [decide_eq_true_eq, decide_eq_false_iff_not, Bool.not_eq_true', Bool.not_eq_false', ne_eq, Decidable.not_not, Option.isNone_iff_eq_none, not_true_eq_false, not_false_eq_true] at hb); try (exfalso; omega))) | (refine v_cond rfl ?_ ?_ <;> (intro hb; (try simp only [decide_eq_true_eq, decide_eq_false_iff_not, Bool.not_eq_true', Bool.not_eq_false', ne_eq, Decidable.not_not, Option.isNone_iff_eq_none, not_true_eq_false, not_false_eq_true] at hb); try (exfalso; omega))) | fail)
          rw [zA_cells]
          exact ⟨L, sei _ _ _, rfl, rfl⟩
        · repeat' (first | (refine go1 ?_; intros) | (refine vl_caseG rfl rfl rfl rfl ?_ ?_ <;> (intro hb; (try simp only [decide_eq_true_eq, decide_eq_false_iff_not, Bool.not_eq_true', Bool.not_eq_false', ne_eq, Decidable.not_not, Option.isNone_iff_eq_none, not_true_eq_false, not_false_eq_true] at hb); try (exfalso; omega))) | (refine v_cond rfl ?_ ?_ <;> (intro hb; (try simp only [decide_eq_true_eq, decide_eq_false_iff_not, Bool.not_eq_true', Bool.not_eq_false', ne_eq, Decidable.not_not, Option.isNone_iff_eq_none, not_true_eq_false, not_false_eq_true] at hb); try (exfalso; omega))) | fail)
          refine vl_o rfl (vo_call rfl rfl ?_)
          refine vc_mono (rofAsk_vc w0 _ R hRo (mayA_rng hmy)) ?_
          rintro v L' ⟨a3, c3, rfl, rfl⟩
          repeat' (first | (refine go1 ?_; intros) | (refine vl_caseG rfl rfl rfl rfl ?_ ?_ <;> (intro hb; (try simp only [decide_eq_true_eq, decide_eq_false_iff_not, Bool.not_eq_true', Bool.not_eq_false', ne_eq, Decidable.not_not, Option.isNone_iff_eq_none, not_true_eq_false, not_false_eq_true] at hb); try (exfalso; omega))) | (refine v_cond rfl ?_ ?_ <;> (intro hb; (try simp only [decide_eq_true_eq, decide_eq_false_iff_not, Bool.not_eq_true', Bool.not_eq_false', ne_eq, Decidable.not_not, Option.isNone_iff_eq_none, not_true_eq_false, not_false_eq_true] at hb); try (exfalso; omega))) | fail)
          refine vl_o rfl (vo_call rfl rfl ?_)
          refine vc_mono (same_vc w0 _ a3 c3 (ofA R) ab cb (k :: t) rfl hm') ?_
          rintro v L' ⟨rfl, rfl⟩
          by_cases hb2 : ofA R = k :: t
          · rw [decide_eq_true hb2, if_pos ⟨rfl, hb2⟩]
            repeat' (first | (refine go1 ?_; intros) | (refine vl_caseG rfl rfl rfl rfl ?_ ?_ <;> (intro hb; (try simp only [decide_eq_true_eq, decide_eq_false_iff_not, Bool.not_eq_true', Bool.not_eq_false', ne_eq, Decidable.not_not, Option.isNone_iff_eq_none, not_true_eq_false, not_false_eq_true] at hb); try (exfalso; omega))) | (refine v_cond rfl ?_ ?_ <;> (intro hb; (try simp only [decide_eq_true_eq, decide_eq_false_iff_not, Bool.not_eq_true', Bool.not_eq_false', ne_eq, Decidable.not_not, Option.isNone_iff_eq_none, not_true_eq_false, not_false_eq_true] at hb); try (exfalso; omega))) | fail)
            exact ⟨L, sei _ _ _, rfl, rfl⟩
          · rw [decide_eq_false hb2, if_neg (fun e => hb2 e.2)]
            repeat' (first | (refine go1 ?_; intros) | (refine vl_caseG rfl rfl rfl rfl ?_ ?_ <;> (intro hb; (try simp only [decide_eq_true_eq, decide_eq_false_iff_not, Bool.not_eq_true', Bool.not_eq_false', ne_eq, Decidable.not_not, Option.isNone_iff_eq_none, not_true_eq_false, not_false_eq_true] at hb); try (exfalso; omega))) | (refine v_cond rfl ?_ ?_ <;> (intro hb; (try simp only [decide_eq_true_eq, decide_eq_false_iff_not, Bool.not_eq_true', Bool.not_eq_false', ne_eq, Decidable.not_not, Option.isNone_iff_eq_none, not_true_eq_false, not_false_eq_true] at hb); try (exfalso; omega))) | fail)
            rw [zA_cells]
            exact ⟨L, sei _ _ _, rfl, rfl⟩
    · have eR : zc = R.cells := by rw [hzc, hR]; unfold rawA; rw [if_neg k1, if_neg k2, if_neg k4, if_neg k7]; rfl
      clear hR
      repeat' (first | (refine go1 ?_; intros) | (refine vl_caseG rfl rfl rfl rfl ?_ ?_ <;> (intro hb; (try simp only [decide_eq_true_eq, decide_eq_false_iff_not, Bool.not_eq_true', Bool.not_eq_false', ne_eq, Decidable.not_not, Option.isNone_iff_eq_none, not_true_eq_false, not_false_eq_true] at hb); try (exfalso; omega))) | (refine v_cond rfl ?_ ?_ <;> (intro hb; (try simp only [decide_eq_true_eq, decide_eq_false_iff_not, Bool.not_eq_true', Bool.not_eq_false', ne_eq, Decidable.not_not, Option.isNone_iff_eq_none, not_true_eq_false, not_false_eq_true] at hb); try (exfalso; omega))) | fail)
      all_goals first | (exfalso; omega) | skip
      rw [eR]
      have hRl := Ask.len hRo
      haveI hoR : OC R.cells := oc_ask _
      repeat' (first | (refine go1 ?_; intros) | (refine vl_caseG rfl rfl rfl rfl ?_ ?_ <;> (intro hb; (try simp only [decide_eq_true_eq, decide_eq_false_iff_not, Bool.not_eq_true', Bool.not_eq_false', ne_eq, Decidable.not_not, Option.isNone_iff_eq_none, not_true_eq_false, not_false_eq_true] at hb); try (exfalso; omega))) | (refine v_cond rfl ?_ ?_ <;> (intro hb; (try simp only [decide_eq_true_eq, decide_eq_false_iff_not, Bool.not_eq_true', Bool.not_eq_false', ne_eq, Decidable.not_not, Option.isNone_iff_eq_none, not_true_eq_false, not_false_eq_true] at hb); try (exfalso; omega))) | fail)
      refine vl_o rfl (vo_call rfl rfl ?_)
      refine vc_mono (rmayAsk_vc w0 _ R hRo) ?_
      rintro v L' ⟨rfl, rfl⟩
      rw [hread]
      cases hmy : mayA R
      · rw [if_neg (by simp)]
        repeat' (first | (refine go1 ?_; intros) | (refine vl_caseG rfl rfl rfl rfl ?_ ?_ <;> (intro hb; (try simp only [decide_eq_true_eq, decide_eq_false_iff_not, Bool.not_eq_true', Bool.not_eq_false', ne_eq, Decidable.not_not, Option.isNone_iff_eq_none, not_true_eq_false, not_false_eq_true] at hb); try (exfalso; omega))) | (refine v_cond rfl ?_ ?_ <;> (intro hb; (try simp only [decide_eq_true_eq, decide_eq_false_iff_not, Bool.not_eq_true', Bool.not_eq_false', ne_eq, Decidable.not_not, Option.isNone_iff_eq_none, not_true_eq_false, not_false_eq_true] at hb); try (exfalso; omega))) | fail)
        rw [zA_cells]
        exact ⟨L, sei _ _ _, rfl, rfl⟩
      · repeat' (first | (refine go1 ?_; intros) | (refine vl_caseG rfl rfl rfl rfl ?_ ?_ <;> (intro hb; (try simp only [decide_eq_true_eq, decide_eq_false_iff_not, Bool.not_eq_true', Bool.not_eq_false', ne_eq, Decidable.not_not, Option.isNone_iff_eq_none, not_true_eq_false, not_false_eq_true] at hb); try (exfalso; omega))) | (refine v_cond rfl ?_ ?_ <;> (intro hb; (try simp only [decide_eq_true_eq, decide_eq_false_iff_not, Bool.not_eq_true', Bool.not_eq_false', ne_eq, Decidable.not_not, Option.isNone_iff_eq_none, not_true_eq_false, not_false_eq_true] at hb); try (exfalso; omega))) | fail)
        refine vl_o rfl (vo_call rfl rfl ?_)
        refine vc_mono (rofAsk_vc w0 _ R hRo (mayA_rng hmy)) ?_
        rintro v L' ⟨a3, c3, rfl, rfl⟩
        repeat' (first | (refine go1 ?_; intros) | (refine vl_caseG rfl rfl rfl rfl ?_ ?_ <;> (intro hb; (try simp only [decide_eq_true_eq, decide_eq_false_iff_not, Bool.not_eq_true', Bool.not_eq_false', ne_eq, Decidable.not_not, Option.isNone_iff_eq_none, not_true_eq_false, not_false_eq_true] at hb); try (exfalso; omega))) | (refine v_cond rfl ?_ ?_ <;> (intro hb; (try simp only [decide_eq_true_eq, decide_eq_false_iff_not, Bool.not_eq_true', Bool.not_eq_false', ne_eq, Decidable.not_not, Option.isNone_iff_eq_none, not_true_eq_false, not_false_eq_true] at hb); try (exfalso; omega))) | fail)
        refine vl_o rfl (vo_call rfl rfl ?_)
        refine vc_mono (same_vc w0 _ a3 c3 (ofA R) ab cb (k :: t) rfl hm') ?_
        rintro v L' ⟨rfl, rfl⟩
        by_cases hb2 : ofA R = k :: t
        · rw [decide_eq_true hb2, if_pos ⟨rfl, hb2⟩]
          repeat' (first | (refine go1 ?_; intros) | (refine vl_caseG rfl rfl rfl rfl ?_ ?_ <;> (intro hb; (try simp only [decide_eq_true_eq, decide_eq_false_iff_not, Bool.not_eq_true', Bool.not_eq_false', ne_eq, Decidable.not_not, Option.isNone_iff_eq_none, not_true_eq_false, not_false_eq_true] at hb); try (exfalso; omega))) | (refine v_cond rfl ?_ ?_ <;> (intro hb; (try simp only [decide_eq_true_eq, decide_eq_false_iff_not, Bool.not_eq_true', Bool.not_eq_false', ne_eq, Decidable.not_not, Option.isNone_iff_eq_none, not_true_eq_false, not_false_eq_true] at hb); try (exfalso; omega))) | fail)
          exact ⟨L, sei _ _ _, rfl, rfl⟩
        · rw [decide_eq_false hb2, if_neg (fun e => hb2 e.2)]
          repeat' (first | (refine go1 ?_; intros) | (refine vl_caseG rfl rfl rfl rfl ?_ ?_ <;> (intro hb; (try simp only [decide_eq_true_eq, decide_eq_false_iff_not, Bool.not_eq_true', Bool.not_eq_false', ne_eq, Decidable.not_not, Option.isNone_iff_eq_none, not_true_eq_false, not_false_eq_true] at hb); try (exfalso; omega))) | (refine v_cond rfl ?_ ?_ <;> (intro hb; (try simp only [decide_eq_true_eq, decide_eq_false_iff_not, Bool.not_eq_true', Bool.not_eq_false', ne_eq, Decidable.not_not, Option.isNone_iff_eq_none, not_true_eq_false, not_false_eq_true] at hb); try (exfalso; omega))) | fail)
          rw [zA_cells]
          exact ⟨L, sei _ _ _, rfl, rfl⟩
end Go.Proofs.YtnoihibaoalkaaaDoor
