/-
  What a pool tells: the statement's law.
-/
import Derived.Test.YtnoihibaoalkaaaDoorPolC
set_option linter.unusedVariables false
set_option linter.unusedSimpArgs false
namespace Go.Proofs.YtnoihibaoalkaaaDoor
open Go Go.RowKit
set_option linter.unusedVariables false
set_option linter.unusedSimpArgs false
open Classical

theorem lpl_may {x y : Ln} (h : x.pl = y.pl) : x.may = y.may := by
  obtain ⟨h1, h2⟩ := lpl_eq.1 h
  obtain ⟨o, a, c, xs⟩ := x
  obtain ⟨o2, a2, c2, xs2⟩ := y
  dsimp only at h1 h2
  subst h1; subst h2
  rfl
theorem lls_lnAt {ms ls : List Ln} (h : lls ms = lls ls) (i : Nat) : lnAt ms i = lnAt ls i := by
  have hl := lls_len h
  by_cases hi : i < ls.length
  · have h1 := lls_get h (i := i) (by omega) hi
    have h2 := lls_get h (i := i - 1) (by omega) (by omega)
    rw [lnAt_eq i (by omega), lnAt_eq i hi, lpl_may h1, (lpl_eq.1 h1).1, (lpl_eq.1 h1).2, (lpl_eq.1 h2).1]
  · unfold lnAt
    rw [List.getElem?_eq_none (show ms.length ≤ i by omega), List.getElem?_eq_none (show ls.length ≤ i by omega)]
theorem lls_mayS {ms ls : List Ln} (h : lls ms = lls ls) : mayS ms = mayS ls := by
  unfold mayS
  simp only [lls_lnAt h, lls_len h]
theorem lls_cntL {ms ls : List Ln} (h : lls ms = lls ls) : cntL ms = cntL ls := by
  have e : ∀ l : List Ln, cntL l = ((lls l).map fun p => p.2.length).sum := fun l => by
    unfold cntL
    rw [List.map_map]
    rfl
  rw [e, e, h]
theorem lls_ofS {ms ls : List Ln} (h : lls ms = lls ls) (i m : Nat) : ofS ms i m = ofS ls i m := by
  unfold ofS
  have hl := lls_len h
  refine decide_eq_decide.2 ⟨fun f k hk => ?_, fun f k hk => ?_⟩
  · rw [← (lpl_eq.1 (lls_get h (i := k) (by omega) hk)).1]
    exact f k (by omega)
  · rw [(lpl_eq.1 (lls_get h (i := k) hk (by omega))).1]
    exact f k (by omega)
theorem shl_mayPo {ts ss : List Sh} (h : shl ts = shl ss) : mayPo ts = mayPo ss := by
  have hl := shl_len h
  have e : ∀ i, shAt ts i = shAt ss i := fun i => by
    by_cases hi : i < ss.length
    · have h1 := shl_get h (i := i) (by omega) hi
      rw [shAt_eq i (by omega), shAt_eq i hi, lls_mayS h1, lls_ofS h1, hl]
    · unfold shAt
      rw [List.getElem?_eq_none (by omega), List.getElem?_eq_none (by omega)]
  unfold mayPo
  simp only [e, hl]
theorem shl_cntS {ts ss : List Sh} (h : shl ts = shl ss) : cntS ts = cntS ss := by
  have key : ∀ a b : List Sh, shl a = shl b → (a.map fun s => cntL s.ls) = (b.map fun s => cntL s.ls) := fun a b e => by
    refine List.ext_getElem (by simpa using shl_len e) (fun i h1 h2 => ?_)
    rw [List.getElem_map, List.getElem_map]
    exact lls_cntL (shl_get e (by simpa using h1) (by simpa using h2))
  unfold cntS
  rw [key _ _ h]
set_option maxRecDepth 100000 in
set_option maxHeartbeats 8000000 in
theorem poolTells_vc (w0 : World) [hK : RdA w0 (some ⟨0, 0, none⟩) (wds K64)] (a : Option Addr) (c : Nat) (ss : List Sh) (b : Option Addr) (d : Nat) (ts : List Sh) (k : List UInt8) (m : Int) {n n2 : Nat} (hn : n = ss.length) (hn2 : n2 = ts.length) (h1 : ∀ s ∈ ss, s.ls.length ≤ 9223372036854775807 ∧ ∀ p ∈ s.ls, p.own.length = 32 ∧ (∀ x ∈ p.xs, x.ok) ∧ p.xs.length ≤ 9223372036854775807) (hl : ss.length ≤ 9223372036854775807) (h2 : ∀ s ∈ ts, s.ls.length ≤ 9223372036854775807 ∧ ∀ p ∈ s.ls, p.own.length = 32 ∧ (∀ x ∈ p.xs, x.ok) ∧ p.xs.length ≤ 9223372036854775807) (hl2 : ts.length ≤ 9223372036854775807) (hlk : k.length = 32) [hr : RdA w0 a (shc ss)] [hv : RdSs w0 [] ss] [hr2 : RdA w0 b (shc ts)] [hv2 : RdSs w0 [] ts] :
    VC Tryd.prog w0 5 [.slice a n c, .slice b n2 d, .agg (bvs k).toArray, .int .i64 m] [] fun u L' => u = .bool true := by
  subst hn
  subst hn2
  refine vc_in rfl rfl ?_
  repeat' (first | (refine go1 ?_; intros) | (refine vl_caseG rfl rfl rfl rfl ?_ ?_ <;> (intro hb; (try simp only [decide_eq_true_eq, decide_eq_false_iff_not, Bool.not_eq_true', Bool.not_eq_false', ne_eq, Decidable.not_not, Option.isNone_iff_eq_none, not_true_eq_false, not_false_eq_true] at hb); try (exfalso; omega))) | (refine v_cond rfl ?_ ?_ <;> (intro hb; (try simp only [decide_eq_true_eq, decide_eq_false_iff_not, Bool.not_eq_true', Bool.not_eq_false', ne_eq, Decidable.not_not, Option.isNone_iff_eq_none, not_true_eq_false, not_false_eq_true] at hb); try (exfalso; omega))) | fail)
  refine vl_o rfl (vo_call rfl rfl ?_)
  refine vc_mono (great21_vc w0 _ a c ss rfl h1 hl) ?_
  rintro u L' ⟨g1, rfl, hg1, rfl⟩
  cases g1 with
  | true =>
    repeat' (first | (refine go1 ?_; intros) | (refine vl_caseG rfl rfl rfl rfl ?_ ?_ <;> (intro hb; (try simp only [decide_eq_true_eq, decide_eq_false_iff_not, Bool.not_eq_true', Bool.not_eq_false', ne_eq, Decidable.not_not, Option.isNone_iff_eq_none, not_true_eq_false, not_false_eq_true] at hb); try (exfalso; omega))) | (refine v_cond rfl ?_ ?_ <;> (intro hb; (try simp only [decide_eq_true_eq, decide_eq_false_iff_not, Bool.not_eq_true', Bool.not_eq_false', ne_eq, Decidable.not_not, Option.isNone_iff_eq_none, not_true_eq_false, not_false_eq_true] at hb); try (exfalso; omega))) | fail)
    exact rfl
  | false =>
  obtain ⟨hs10, hso⟩ := hg1 rfl
  repeat' (first | (refine go1 ?_; intros) | (refine vl_caseG rfl rfl rfl rfl ?_ ?_ <;> (intro hb; (try simp only [decide_eq_true_eq, decide_eq_false_iff_not, Bool.not_eq_true', Bool.not_eq_false', ne_eq, Decidable.not_not, Option.isNone_iff_eq_none, not_true_eq_false, not_false_eq_true] at hb); try (exfalso; omega))) | (refine v_cond rfl ?_ ?_ <;> (intro hb; (try simp only [decide_eq_true_eq, decide_eq_false_iff_not, Bool.not_eq_true', Bool.not_eq_false', ne_eq, Decidable.not_not, Option.isNone_iff_eq_none, not_true_eq_false, not_false_eq_true] at hb); try (exfalso; omega))) | fail)
  refine vl_o rfl (vo_call rfl rfl ?_)
  refine vc_mono (great21_vc w0 _ b d ts rfl h2 hl2) ?_
  rintro u L' ⟨g2, rfl, hg2, rfl⟩
  cases g2 with
  | true =>
    repeat' (first | (refine go1 ?_; intros) | (refine vl_caseG rfl rfl rfl rfl ?_ ?_ <;> (intro hb; (try simp only [decide_eq_true_eq, decide_eq_false_iff_not, Bool.not_eq_true', Bool.not_eq_false', ne_eq, Decidable.not_not, Option.isNone_iff_eq_none, not_true_eq_false, not_false_eq_true] at hb); try (exfalso; omega))) | (refine v_cond rfl ?_ ?_ <;> (intro hb; (try simp only [decide_eq_true_eq, decide_eq_false_iff_not, Bool.not_eq_true', Bool.not_eq_false', ne_eq, Decidable.not_not, Option.isNone_iff_eq_none, not_true_eq_false, not_false_eq_true] at hb); try (exfalso; omega))) | fail)
    exact rfl
  | false =>
  obtain ⟨ht10, hto⟩ := hg2 rfl
  repeat' (first | (refine go1 ?_; intros) | (refine vl_caseG rfl rfl rfl rfl ?_ ?_ <;> (intro hb; (try simp only [decide_eq_true_eq, decide_eq_false_iff_not, Bool.not_eq_true', Bool.not_eq_false', ne_eq, Decidable.not_not, Option.isNone_iff_eq_none, not_true_eq_false, not_false_eq_true] at hb); try (exfalso; omega))) | (refine v_cond rfl ?_ ?_ <;> (intro hb; (try simp only [decide_eq_true_eq, decide_eq_false_iff_not, Bool.not_eq_true', Bool.not_eq_false', ne_eq, Decidable.not_not, Option.isNone_iff_eq_none, not_true_eq_false, not_false_eq_true] at hb); try (exfalso; omega))) | fail)
  refine vl_o rfl (vo_call rfl rfl ?_)
  refine vc_mono (rtwin21_vc w0 _ a c ss rfl hso) ?_
  rintro u L' ⟨a1, c1, us, rfl, hus, rfl⟩
  have huo := hso.of_shl hus
  have hul := shl_len hus
  repeat' (first | (refine go1 ?_; intros) | (refine vl_caseG rfl rfl rfl rfl ?_ ?_ <;> (intro hb; (try simp only [decide_eq_true_eq, decide_eq_false_iff_not, Bool.not_eq_true', Bool.not_eq_false', ne_eq, Decidable.not_not, Option.isNone_iff_eq_none, not_true_eq_false, not_false_eq_true] at hb); try (exfalso; omega))) | (refine v_cond rfl ?_ ?_ <;> (intro hb; (try simp only [decide_eq_true_eq, decide_eq_false_iff_not, Bool.not_eq_true', Bool.not_eq_false', ne_eq, Decidable.not_not, Option.isNone_iff_eq_none, not_true_eq_false, not_false_eq_true] at hb); try (exfalso; omega))) | fail)
  refine vl_o rfl (vo_call rfl rfl ?_)
  refine vc_mono (pat_vc w0 _ k m hlk) ?_
  rintro u L' ⟨rfl, rfl⟩
  obtain ⟨PA, hPA⟩ : ∃ PA : Int × Int, PA = if 1 ≤ m ∧ m ≤ 8 then (atP k m, 0) else (0, 2) := ⟨_, rfl⟩
  have ePA : (if 1 ≤ m ∧ m ≤ 8 then Value.tuple #[.int .i64 (atP k m), .int .i64 0] else .tuple #[.int .i64 0, .int .i64 2]) = .tuple #[.int .i64 PA.1, .int .i64 PA.2] := by
    rw [hPA]
    split <;> rfl
  rw [ePA]
  repeat' (first | (refine go1 ?_; intros) | (refine vl_caseG rfl rfl rfl rfl ?_ ?_ <;> (intro hb; (try simp only [decide_eq_true_eq, decide_eq_false_iff_not, Bool.not_eq_true', Bool.not_eq_false', ne_eq, Decidable.not_not, Option.isNone_iff_eq_none, not_true_eq_false, not_false_eq_true] at hb); try (exfalso; omega))) | (refine v_cond rfl ?_ ?_ <;> (intro hb; (try simp only [decide_eq_true_eq, decide_eq_false_iff_not, Bool.not_eq_true', Bool.not_eq_false', ne_eq, Decidable.not_not, Option.isNone_iff_eq_none, not_true_eq_false, not_false_eq_true] at hb); try (exfalso; omega))) | fail)
  refine vl_o rfl (vo_call rfl rfl ?_)
  refine vc_mono (rat21_vc w0 _ k m hlk) ?_
  rintro u L' ⟨rfl, rfl⟩
  rw [ePA]
  clear ePA hPA
  obtain ⟨P1, P2⟩ := PA
  repeat' (first | (refine go1 ?_; intros) | (refine vl_caseG rfl rfl rfl rfl ?_ ?_ <;> (intro hb; (try simp only [decide_eq_true_eq, decide_eq_false_iff_not, Bool.not_eq_true', Bool.not_eq_false', ne_eq, Decidable.not_not, Option.isNone_iff_eq_none, not_true_eq_false, not_false_eq_true] at hb); try (exfalso; omega))) | (refine v_cond rfl ?_ ?_ <;> (intro hb; (try simp only [decide_eq_true_eq, decide_eq_false_iff_not, Bool.not_eq_true', Bool.not_eq_false', ne_eq, Decidable.not_not, Option.isNone_iff_eq_none, not_true_eq_false, not_false_eq_true] at hb); try (exfalso; omega))) | fail)
  refine vl_o rfl (vo_call rfl rfl ?_)
  refine vc_mono (pnew_vc w0 _ m) ?_
  rintro u L' ⟨a2, c2, vs, rfl, hvs, rfl⟩
  repeat' (first | (refine go1 ?_; intros) | (refine vl_caseG rfl rfl rfl rfl ?_ ?_ <;> (intro hb; (try simp only [decide_eq_true_eq, decide_eq_false_iff_not, Bool.not_eq_true', Bool.not_eq_false', ne_eq, Decidable.not_not, Option.isNone_iff_eq_none, not_true_eq_false, not_false_eq_true] at hb); try (exfalso; omega))) | (refine v_cond rfl ?_ ?_ <;> (intro hb; (try simp only [decide_eq_true_eq, decide_eq_false_iff_not, Bool.not_eq_true', Bool.not_eq_false', ne_eq, Decidable.not_not, Option.isNone_iff_eq_none, not_true_eq_false, not_false_eq_true] at hb); try (exfalso; omega))) | fail)
  refine vl_o rfl (vo_call rfl rfl ?_)
  refine vc_mono (rnew21_vc w0 _ m) ?_
  rintro u L' ⟨a3, c3, ws, rfl, hws, rfl⟩
  have hvw : vs = ws := hvs.trans hws.symm
  subst hvw
  have hvo : SsOk vs := by
    rw [hvs]
    split
    · refine ⟨fun s hs => ?_, by rw [List.length_replicate]; omega⟩
      rw [List.eq_of_mem_replicate hs]
      exact LsOk.nil
    · exact ⟨fun _ h => (by cases h), by simp⟩
  generalize (if 1 ≤ m ∧ m ≤ 8 then (0 : Int) else 2) = E
  repeat' (first | (refine goE ?_; intros) | (refine vl_caseG rfl rfl rfl rfl ?_ ?_ <;> (intro hb; (try simp only [decide_eq_true_eq, decide_eq_false_iff_not, Bool.not_eq_true', Bool.not_eq_false', ne_eq, Decidable.not_not, Option.isNone_iff_eq_none, not_true_eq_false, not_false_eq_true] at hb); try (exfalso; omega))) | (refine v_cond rfl ?_ ?_ <;> (intro hb; (try simp only [decide_eq_true_eq, decide_eq_false_iff_not, Bool.not_eq_true', Bool.not_eq_false', ne_eq, Decidable.not_not, Option.isNone_iff_eq_none, not_true_eq_false, not_false_eq_true] at hb); try (exfalso; omega))) | fail)
  refine vl_o rfl (vo_call rfl rfl ?_)
  refine vc_mono (rsame21_vc w0 _ a2 c2 vs a3 c3 vs rfl rfl hvo hvo) ?_
  rintro u L' ⟨rfl, rfl⟩
  rw [decide_eq_true rfl]
  repeat' (first | (refine goE ?_; intros) | (refine vl_caseG rfl rfl rfl rfl ?_ ?_ <;> (intro hb; (try simp only [decide_eq_true_eq, decide_eq_false_iff_not, Bool.not_eq_true', Bool.not_eq_false', ne_eq, Decidable.not_not, Option.isNone_iff_eq_none, not_true_eq_false, not_false_eq_true] at hb); try (exfalso; omega))) | (refine v_cond rfl ?_ ?_ <;> (intro hb; (try simp only [decide_eq_true_eq, decide_eq_false_iff_not, Bool.not_eq_true', Bool.not_eq_false', ne_eq, Decidable.not_not, Option.isNone_iff_eq_none, not_true_eq_false, not_false_eq_true] at hb); try (exfalso; omega))) | fail)
  refine vl_o rfl (vo_call rfl rfl ?_)
  refine vc_mono (pcheck21_vc w0 _ a1 c1 us rfl huo) ?_
  rintro u L' ⟨rfl, rfl⟩
  rw [shl_mayPo hus]
  repeat' (first | (refine goE ?_; intros) | (refine vl_caseG rfl rfl rfl rfl ?_ ?_ <;> (intro hb; (try simp only [decide_eq_true_eq, decide_eq_false_iff_not, Bool.not_eq_true', Bool.not_eq_false', ne_eq, Decidable.not_not, Option.isNone_iff_eq_none, not_true_eq_false, not_false_eq_true] at hb); try (exfalso; omega))) | (refine v_cond rfl ?_ ?_ <;> (intro hb; (try simp only [decide_eq_true_eq, decide_eq_false_iff_not, Bool.not_eq_true', Bool.not_eq_false', ne_eq, Decidable.not_not, Option.isNone_iff_eq_none, not_true_eq_false, not_false_eq_true] at hb); try (exfalso; omega))) | fail)
  refine vl_o rfl (vo_call rfl rfl ?_)
  refine vc_mono (rcheck21_vc w0 _ a c ss rfl hso) ?_
  rintro u L' ⟨rfl, rfl⟩
  generalize (if mayPo ss = true then (0 : Int) else 8) = E2
  repeat' (first | (refine goE ?_; intros) | (refine vl_caseG rfl rfl rfl rfl ?_ ?_ <;> (intro hb; (try simp only [decide_eq_true_eq, decide_eq_false_iff_not, Bool.not_eq_true', Bool.not_eq_false', ne_eq, Decidable.not_not, Option.isNone_iff_eq_none, not_true_eq_false, not_false_eq_true] at hb); try (exfalso; omega))) | (refine v_cond rfl ?_ ?_ <;> (intro hb; (try simp only [decide_eq_true_eq, decide_eq_false_iff_not, Bool.not_eq_true', Bool.not_eq_false', ne_eq, Decidable.not_not, Option.isNone_iff_eq_none, not_true_eq_false, not_false_eq_true] at hb); try (exfalso; omega))) | fail)
  refine vl_o rfl (vo_call rfl rfl ?_)
  refine vc_mono (pcount_vc w0 _ a1 c1 us rfl huo (by omega)) ?_
  rintro u L' ⟨rfl, rfl⟩
  rw [shl_cntS hus]
  repeat' (first | (refine goE ?_; intros) | (refine vl_caseG rfl rfl rfl rfl ?_ ?_ <;> (intro hb; (try simp only [decide_eq_true_eq, decide_eq_false_iff_not, Bool.not_eq_true', Bool.not_eq_false', ne_eq, Decidable.not_not, Option.isNone_iff_eq_none, not_true_eq_false, not_false_eq_true] at hb); try (exfalso; omega))) | (refine v_cond rfl ?_ ?_ <;> (intro hb; (try simp only [decide_eq_true_eq, decide_eq_false_iff_not, Bool.not_eq_true', Bool.not_eq_false', ne_eq, Decidable.not_not, Option.isNone_iff_eq_none, not_true_eq_false, not_false_eq_true] at hb); try (exfalso; omega))) | fail)
  refine vl_o rfl (vo_call rfl rfl ?_)
  refine vc_mono (rcount21_vc w0 _ a c ss rfl hso hs10) ?_
  rintro u L' ⟨rfl, rfl⟩
  generalize cntS ss = CS
  repeat' (first | (refine goE ?_; intros) | (refine vl_caseG rfl rfl rfl rfl ?_ ?_ <;> (intro hb; (try simp only [decide_eq_true_eq, decide_eq_false_iff_not, Bool.not_eq_true', Bool.not_eq_false', ne_eq, Decidable.not_not, Option.isNone_iff_eq_none, not_true_eq_false, not_false_eq_true] at hb); try (exfalso; omega))) | (refine v_cond rfl ?_ ?_ <;> (intro hb; (try simp only [decide_eq_true_eq, decide_eq_false_iff_not, Bool.not_eq_true', Bool.not_eq_false', ne_eq, Decidable.not_not, Option.isNone_iff_eq_none, not_true_eq_false, not_false_eq_true] at hb); try (exfalso; omega))) | fail)
  refine vl_o rfl (vo_call rfl rfl ?_)
  refine vc_mono (psame21_vc w0 _ a1 c1 us b d ts rfl rfl huo hto) ?_
  rintro u L' ⟨rfl, rfl⟩
  rw [hus]
  repeat' (first | (refine goE ?_; intros) | (refine vl_caseG rfl rfl rfl rfl ?_ ?_ <;> (intro hb; (try simp only [decide_eq_true_eq, decide_eq_false_iff_not, Bool.not_eq_true', Bool.not_eq_false', ne_eq, Decidable.not_not, Option.isNone_iff_eq_none, not_true_eq_false, not_false_eq_true] at hb); try (exfalso; omega))) | (refine v_cond rfl ?_ ?_ <;> (intro hb; (try simp only [decide_eq_true_eq, decide_eq_false_iff_not, Bool.not_eq_true', Bool.not_eq_false', ne_eq, Decidable.not_not, Option.isNone_iff_eq_none, not_true_eq_false, not_false_eq_true] at hb); try (exfalso; omega))) | fail)
  refine vl_o rfl (vo_call rfl rfl ?_)
  refine vc_mono (rsame21_vc w0 _ a c ss b d ts rfl rfl hso hto) ?_
  rintro u L' ⟨rfl, rfl⟩
  generalize decide (shl ss = shl ts) = SM
  repeat' (first | (refine goE ?_; intros) | (refine vl_caseG rfl rfl rfl rfl ?_ ?_ <;> (intro hb; (try simp only [decide_eq_true_eq, decide_eq_false_iff_not, Bool.not_eq_true', Bool.not_eq_false', ne_eq, Decidable.not_not, Option.isNone_iff_eq_none, not_true_eq_false, not_false_eq_true] at hb); try (exfalso; omega))) | (refine v_cond rfl ?_ ?_ <;> (intro hb; (try simp only [decide_eq_true_eq, decide_eq_false_iff_not, Bool.not_eq_true', Bool.not_eq_false', ne_eq, Decidable.not_not, Option.isNone_iff_eq_none, not_true_eq_false, not_false_eq_true] at hb); try (exfalso; omega))) | fail)
  all_goals first | (exfalso; simp at hb; done) | skip
  refine vl_o rfl (vo_call rfl rfl ?_)
  refine vc_mono (psame21_vc w0 _ a1 c1 us a c ss rfl rfl huo hso) ?_
  rintro u L' ⟨rfl, rfl⟩
  rw [decide_eq_true hus]
  repeat' (first | (refine goE ?_; intros) | (refine vl_caseG rfl rfl rfl rfl ?_ ?_ <;> (intro hb; (try simp only [decide_eq_true_eq, decide_eq_false_iff_not, Bool.not_eq_true', Bool.not_eq_false', ne_eq, Decidable.not_not, Option.isNone_iff_eq_none, not_true_eq_false, not_false_eq_true] at hb); try (exfalso; omega))) | (refine v_cond rfl ?_ ?_ <;> (intro hb; (try simp only [decide_eq_true_eq, decide_eq_false_iff_not, Bool.not_eq_true', Bool.not_eq_false', ne_eq, Decidable.not_not, Option.isNone_iff_eq_none, not_true_eq_false, not_false_eq_true] at hb); try (exfalso; omega))) | fail)
  refine vl_o rfl (vo_call rfl rfl ?_)
  refine vc_mono (ptwin21_vc w0 _ a1 c1 us rfl huo) ?_
  rintro u L' ⟨a4, c4, xs, rfl, hxs, rfl⟩
  have hxo := huo.of_shl hxs
  repeat' (first | (refine goE ?_; intros) | (refine vl_caseG rfl rfl rfl rfl ?_ ?_ <;> (intro hb; (try simp only [decide_eq_true_eq, decide_eq_false_iff_not, Bool.not_eq_true', Bool.not_eq_false', ne_eq, Decidable.not_not, Option.isNone_iff_eq_none, not_true_eq_false, not_false_eq_true] at hb); try (exfalso; omega))) | (refine v_cond rfl ?_ ?_ <;> (intro hb; (try simp only [decide_eq_true_eq, decide_eq_false_iff_not, Bool.not_eq_true', Bool.not_eq_false', ne_eq, Decidable.not_not, Option.isNone_iff_eq_none, not_true_eq_false, not_false_eq_true] at hb); try (exfalso; omega))) | fail)
  refine vl_o rfl (vo_call rfl rfl ?_)
  refine vc_mono (rsame21_vc w0 _ a4 c4 xs a c ss rfl rfl hxo hso) ?_
  rintro u L' ⟨rfl, rfl⟩
  rw [decide_eq_true (hxs.trans hus)]
  repeat' (first | (refine goE ?_; intros) | (refine vl_caseG rfl rfl rfl rfl ?_ ?_ <;> (intro hb; (try simp only [decide_eq_true_eq, decide_eq_false_iff_not, Bool.not_eq_true', Bool.not_eq_false', ne_eq, Decidable.not_not, Option.isNone_iff_eq_none, not_true_eq_false, not_false_eq_true] at hb); try (exfalso; omega))) | (refine v_cond rfl ?_ ?_ <;> (intro hb; (try simp only [decide_eq_true_eq, decide_eq_false_iff_not, Bool.not_eq_true', Bool.not_eq_false', ne_eq, Decidable.not_not, Option.isNone_iff_eq_none, not_true_eq_false, not_false_eq_true] at hb); try (exfalso; omega))) | fail)
  refine vl_o rfl (vo_call rfl rfl ?_)
  refine vc_mono (rsame21_vc w0 _ a1 c1 us a c ss rfl rfl huo hso) ?_
  rintro u L' ⟨rfl, rfl⟩
  rw [decide_eq_true hus]
  repeat' (first | (refine goE ?_; intros) | (refine vl_caseG rfl rfl rfl rfl ?_ ?_ <;> (intro hb; (try simp only [decide_eq_true_eq, decide_eq_false_iff_not, Bool.not_eq_true', Bool.not_eq_false', ne_eq, Decidable.not_not, Option.isNone_iff_eq_none, not_true_eq_false, not_false_eq_true] at hb); try (exfalso; omega))) | (refine v_cond rfl ?_ ?_ <;> (intro hb; (try simp only [decide_eq_true_eq, decide_eq_false_iff_not, Bool.not_eq_true', Bool.not_eq_false', ne_eq, Decidable.not_not, Option.isNone_iff_eq_none, not_true_eq_false, not_false_eq_true] at hb); try (exfalso; omega))) | fail)
  exact rfl
end Go.Proofs.YtnoihibaoalkaaaDoor
