/-
  Two proofs of any two keys: whether they tell unlike things, and the first unlike inputs, by the document.
-/
import Derived.Test.YtmaimkbppnpbnaaDoorGT
import Derived.Test.YtmaimkbppnpbnaaDoorGV
set_option linter.unusedVariables false
set_option linter.unusedSimpArgs false
namespace Go.Proofs.YtmaimkbppnpbnaaDoor
open Go Go.RowKit
set_option linter.unusedVariables false
set_option linter.unusedSimpArgs false
open Classical

/-- Two proofs tell unlike things of one key. -/
noncomputable def unC (a b : Prf) : Bool := decide (a.key = b.key) && unB a b
set_option maxRecDepth 100000 in
set_option maxHeartbeats 1000000 in
theorem cunlikeG_vc (w0 : World) (L : List Asn) (a b : Prf) (h : a.ok) (k : b.ok) [hr : RdC w0 L a.va (bvs a.vl)] [hs : RdC w0 L b.va (bvs b.vl)] :
    VC Tryd.prog w0 96 [.agg a.cells.toArray, .agg b.cells.toArray] L fun v L' => v = .bool (unC a b) ∧ L' = L := by
  unfold unC
  by_cases hkey : a.key = b.key
  · rw [decide_eq_true hkey, Bool.true_and]
    exact cunlike_vc w0 L a b h k hkey
  · rw [decide_eq_false hkey, Bool.false_and]
    have f0 := Prf.f0 h
    have g0 := Prf.f0 k
    have ho := h.key
    have ko := k.key
    have hlk : a.key.length = b.key.length := by rw [ho, ko]
    have hcl := Prf.len h
    have kcl := Prf.len k
    refine vc_ent ?_
    refine vc_in rfl rfl ?_
    repeat' (first | (refine go1 ?_; intros) | ((first | refine vl_caseG rfl rfl rfl rfl ?_ ?_ | refine v_cond rfl ?_ ?_) <;> (intro hb; (try simp only [decide_eq_true_eq, decide_eq_false_iff_not, Bool.not_eq_true', Bool.not_eq_false', ne_eq, Decidable.not_not, Option.isNone_iff_eq_none, not_true_eq_false, not_false_eq_true] at hb); try (exfalso; omega))) | fail)
    refine vl_o rfl (vo_call rfl rfl ?_)
    refine vc_mono (told_vc w0 _ a h) ?_
    rintro v L' ⟨a1, c1, rfl, rfl⟩
    repeat' (first | (refine go1 ?_; intros) | ((first | refine vl_caseG rfl rfl rfl rfl ?_ ?_ | refine v_cond rfl ?_ ?_) <;> (intro hb; (try simp only [decide_eq_true_eq, decide_eq_false_iff_not, Bool.not_eq_true', Bool.not_eq_false', ne_eq, Decidable.not_not, Option.isNone_iff_eq_none, not_true_eq_false, not_false_eq_true] at hb); try (exfalso; omega))) | fail)
    refine vl_o rfl (vo_call rfl rfl ?_)
    refine vc_mono (told_vc w0 _ b k) ?_
    rintro v L' ⟨a2, c2, rfl, rfl⟩
    generalize a.cells = ac at *
    generalize b.cells = bc at *
    repeat' (first | (refine goU ?_; intros) | ((first | refine vl_caseG rfl rfl rfl rfl ?_ ?_ | refine v_cond rfl ?_ ?_) <;> (intro hb; (try simp only [decide_eq_true_eq, decide_eq_false_iff_not, Bool.not_eq_true', Bool.not_eq_false', ne_eq, Decidable.not_not, Option.isNone_iff_eq_none, not_true_eq_false, not_false_eq_true] at hb); try (exfalso; omega))) | fail)
    all_goals first | exact absurd (by assumption) hkey | exact ⟨L, sei _ _ _, rfl, rfl⟩
set_option maxRecDepth 100000 in
set_option maxHeartbeats 1000000 in
theorem runlike_vc (w0 : World) (L : List Asn) (a b : Prf) (h : a.ok) (k : b.ok) [hr : RdC w0 L a.va (bvs a.vl)] [hs : RdC w0 L b.va (bvs b.vl)] :
    VC Tryd.prog w0 99 [.agg a.cells.toArray, .agg b.cells.toArray] L fun v L' => v = .bool (unC a b) ∧ L' = L := by
  unfold unC unB
  have f0 := Prf.f0 h
  have g0 := Prf.f0 k
  have ho := h.key
  have ko := k.key
  have hlk : a.key.length = b.key.length := by rw [ho, ko]
  have hcl := Prf.len h
  have kcl := Prf.len k
  have htl := tl_len h
  have hul := tl_len k
  refine vc_ent ?_
  refine vc_in rfl rfl ?_
  repeat' (first | (refine go1 ?_; intros) | ((first | refine vl_caseG rfl rfl rfl rfl ?_ ?_ | refine v_cond rfl ?_ ?_) <;> (intro hb; (try simp only [decide_eq_true_eq, decide_eq_false_iff_not, Bool.not_eq_true', Bool.not_eq_false', ne_eq, Decidable.not_not, Option.isNone_iff_eq_none, not_true_eq_false, not_false_eq_true] at hb); try (exfalso; omega))) | fail)
  refine vl_o rfl (vo_call rfl rfl ?_)
  refine vc_mono (told7_vc w0 _ a h) ?_
  rintro v L' ⟨a1, c1, rfl, rfl⟩
  repeat' (first | (refine go1 ?_; intros) | ((first | refine vl_caseG rfl rfl rfl rfl ?_ ?_ | refine v_cond rfl ?_ ?_) <;> (intro hb; (try simp only [decide_eq_true_eq, decide_eq_false_iff_not, Bool.not_eq_true', Bool.not_eq_false', ne_eq, Decidable.not_not, Option.isNone_iff_eq_none, not_true_eq_false, not_false_eq_true] at hb); try (exfalso; omega))) | fail)
  refine vl_o rfl (vo_call rfl rfl ?_)
  refine vc_mono (told7_vc w0 _ b k) ?_
  rintro v L' ⟨a2, c2, rfl, rfl⟩
  generalize a.cells = ac at *
  generalize b.cells = bc at *
  by_cases hkey : a.key = b.key
  · rw [← hkey] at g0
    rw [decide_eq_true hkey, Bool.true_and]
    by_cases e : a.isT = b.isT
    · rw [decide_eq_true e, Bool.true_and]
      rw [e]
      generalize b.isT = t
      cases t
      all_goals
        repeat' (first | (refine goE ?_; intros) | ((first | refine vl_caseG rfl rfl rfl rfl ?_ ?_ | refine v_cond rfl ?_ ?_) <;> (intro hb; (try simp only [decide_eq_true_eq, decide_eq_false_iff_not, Bool.not_eq_true', Bool.not_eq_false', ne_eq, Decidable.not_not, Option.isNone_iff_eq_none, not_true_eq_false, not_false_eq_true] at hb); try (exfalso; omega))) | fail)
        refine vl_o rfl (vo_call rfl rfl ?_)
        refine vc_mono (same_vc w0 _ a1 c1 a.tl a2 c2 b.tl rfl rfl) ?_
        rintro v L' ⟨rfl, rfl⟩
        repeat' (first | (refine goE ?_; intros) | ((first | refine vl_caseG rfl rfl rfl rfl ?_ ?_ | refine v_cond rfl ?_ ?_) <;> (intro hb; (try simp only [decide_eq_true_eq, decide_eq_false_iff_not, Bool.not_eq_true', Bool.not_eq_false', ne_eq, Decidable.not_not, Option.isNone_iff_eq_none, not_true_eq_false, not_false_eq_true] at hb); try (exfalso; omega))) | fail)
        exact ⟨L, sei _ _ _, rfl, rfl⟩
    · rw [decide_eq_false e, Bool.false_and]
      revert e
      generalize a.isT = s
      generalize b.isT = t
      cases s <;> cases t <;> intro e <;> first | exact absurd rfl e | skip
      all_goals
        repeat' (first | (refine goE ?_; intros) | ((first | refine vl_caseG rfl rfl rfl rfl ?_ ?_ | refine v_cond rfl ?_ ?_) <;> (intro hb; (try simp only [decide_eq_true_eq, decide_eq_false_iff_not, Bool.not_eq_true', Bool.not_eq_false', ne_eq, Decidable.not_not, Option.isNone_iff_eq_none, not_true_eq_false, not_false_eq_true] at hb); try (exfalso; omega))) | fail)
        exact ⟨L, sei _ _ _, rfl, rfl⟩
  · rw [decide_eq_false hkey, Bool.false_and]
    repeat' (first | (refine goU ?_; intros) | ((first | refine vl_caseG rfl rfl rfl rfl ?_ ?_ | refine v_cond rfl ?_ ?_) <;> (intro hb; (try simp only [decide_eq_true_eq, decide_eq_false_iff_not, Bool.not_eq_true', Bool.not_eq_false', ne_eq, Decidable.not_not, Option.isNone_iff_eq_none, not_true_eq_false, not_false_eq_true] at hb); try (exfalso; omega))) | fail)
    all_goals first | exact absurd (by assumption) hkey | exact ⟨L, sei _ _ _, rfl, rfl⟩
theorem firstU_last {xs ys : List (List UInt8)} {i : Nat} {x y : List UInt8} (h : firstU xs ys = some (x, y)) (hx : i < xs.length) (hy : i < ys.length) (he : xs.take i = ys.take i) (hl : xs[i] ≠ ys[i] ∨ i + 1 = xs.length ∨ i + 1 = ys.length) : xs[i] = x ∧ ys[i] = y := by
  by_cases e : xs[i] = ys[i]
  · exfalso
    have hst := take_eq_step hx hy he e
    have := firstU_none (xs := xs) (ys := ys) (by
      have hm : min xs.length ys.length = i + 1 := by
        rcases hl with h1 | h1 | h1
        · exact absurd e h1
        · omega
        · omega
      rw [hm]; exact hst)
    rw [this] at h
    cases h
  · rw [firstU_at hx hy he e] at h
    simp only [Option.some.injEq, Prod.mk.injEq] at h
    exact h
set_option maxRecDepth 100000 in
set_option maxHeartbeats 4000000 in
theorem first9_vc (w0 : World) (L : List Asn) (a b : Prf) (h : a.ok) (k : b.ok) (hma : a.may = true) (hmb : b.may = true) {x y : List UInt8} (hxy : firstU a.ins b.ins = some (x, y)) [hr : RdC w0 L a.va (bvs a.vl)] [hr2 : RdC w0 L a.pa (bvs a.pl.flatten)] [hs : RdC w0 L b.va (bvs b.vl)] [hs2 : RdC w0 L b.pa (bvs b.pl.flatten)] :
    VC Tryd.prog w0 100 [.agg a.cells.toArray, .agg b.cells.toArray] L fun v L' => ∃ ax cx ay cy, v = .tuple #[.slice ax x.length cx, .slice ay y.length cy] ∧ L' = ownB ax cx x :: ownB ay cy y :: L := by
  have hcl := Prf.len h
  have kcl := Prf.len k
  have ha256 := Prf.may_pl hma
  have hb256 := Prf.may_pl hmb
  have eA : a.ins = fromB a a.pl.length := by rw [Prf.ins, if_pos hma]
  have eB : b.ins = fromB b b.pl.length := by rw [Prf.ins, if_pos hmb]
  rw [eA, eB] at hxy
  refine vc_ent ?_
  refine vc_in rfl rfl ?_
  repeat' (first | (refine go1 ?_; intros) | ((first | refine vl_caseG rfl rfl rfl rfl ?_ ?_ | refine v_cond rfl ?_ ?_) <;> (intro hb; (try simp only [decide_eq_true_eq, decide_eq_false_iff_not, Bool.not_eq_true', Bool.not_eq_false', ne_eq, Decidable.not_not, Option.isNone_iff_eq_none, not_true_eq_false, not_false_eq_true] at hb); try (exfalso; omega))) | fail)
  (refine v_draw0 [3] (by kernel_rfl) ?_ <;> (refine va_takeA 0 rfl rfl rfl rfl ?_) <;> (refine va_takeA 2 rfl rfl rfl rfl ?_))
  refine va_one 1 (by kernel_rfl) rfl rfl (vo_call rfl rfl ?_)
  refine vc_mono (rfrom_vc w0 a h hma a.pl.length _ 0 (Nat.zero_add _)) ?_
  rintro v L' ⟨a1, c1, qs, rfl, hq, rfl⟩
  refine ⟨.inr (SE.ent (by repeat' (first | exact SE.refl _ | refine SE.cons _ ?_ | refine SE.trans (se_drop _ _) ?_)) _), ?_⟩
  skip
  refine va_one 3 (by kernel_rfl) rfl rfl (vo_call rfl rfl ?_)
  refine vc_mono (rfrom_vc w0 b k hmb b.pl.length _ 0 (Nat.zero_add _)) ?_
  rintro v L' ⟨a2, c2, rs, rfl, hrs, rfl⟩
  refine ⟨.inr (SE.ent (by repeat' (first | exact SE.refl _ | refine SE.cons _ ?_ | refine SE.trans (se_drop _ _) ?_)) _), ?_⟩
  ((refine va_takePA 4 rfl rfl rfl rfl ?_) <;> (refine va_takePA 5 rfl rfl rfl rfl ?_) <;> (refine va_done (by kernel_rfl) ?_))
  rw [← hq, ← hrs] at hxy
  have hlq : qs.length = a.pl.length + 1 := by
    have := congrArg List.length hq
    rw [fromB_len] at this
    simpa [ls] using this
  have hlr : rs.length = b.pl.length + 1 := by
    have := congrArg List.length hrs
    rw [fromB_len] at this
    simpa [ls] using this
  repeat' (first | (refine go1 ?_; intros) | ((first | refine vl_caseG rfl rfl rfl rfl ?_ ?_ | refine v_cond rfl ?_ ?_) <;> (intro hb; (try simp only [decide_eq_true_eq, decide_eq_false_iff_not, Bool.not_eq_true', Bool.not_eq_false', ne_eq, Decidable.not_not, Option.isNone_iff_eq_none, not_true_eq_false, not_false_eq_true] at hb); try (exfalso; omega))) | fail)
  refine v_loopS Nat [6, 7] rfl (fun i => [(8, .int .i64 i)]) (fun i => i < min qs.length rs.length ∧ (ls qs).take i = (ls rs).take i) (fun i => min qs.length rs.length - i) 0 ⟨by omega, rfl⟩ (by (repeat' (first | exact Sub.nil _ | refine Sub.cons rfl rfl ?_ | refine Sub.cons rfl ?_ ?_))) (fun i ⟨hi, he⟩ => ?_)
  have hqi : i < qs.length := by omega
  have hri : i < rs.length := by omega
  have hg1 : (pbs qs)[i]? = some (.slice (qs[i]).a (qs[i]).l.length (qs[i]).cap) := by simp [pbs, PB.v, hqi]
  have hg2 : (pbs rs)[i]? = some (.slice (rs[i]).a (rs[i]).l.length (rs[i]).cap) := by simp [pbs, PB.v, hri]
  have hp1 : 0 < (pbs qs).length := by simp [pbs]; omega
  have hp2 : 0 < (pbs rs).length := by simp [pbs]; omega
  have eq1 : (ls qs)[i]'(by simpa [ls] using hqi) = (qs[i]).l := by simp [ls]
  have er1 : (ls rs)[i]'(by simpa [ls] using hri) = (rs[i]).l := by simp [ls]
  haveI hpa : ∀ N [HasPs N qs], RdC w0 N (qs[i]).a (bvs (qs[i]).l) := fun N _ => (inferInstance : RdPs w0 N qs).out _ (List.getElem_mem hqi)
  haveI hpb : ∀ N [HasPs N rs], RdC w0 N (rs[i]).a (bvs (rs[i]).l) := fun N _ => (inferInstance : RdPs w0 N rs).out _ (List.getElem_mem hri)
  repeat' (first | (refine go1 ?_; intros) | ((first | refine vl_caseG rfl rfl rfl rfl ?_ ?_ | refine v_cond rfl ?_ ?_) <;> (intro hb; (try simp only [decide_eq_true_eq, decide_eq_false_iff_not, Bool.not_eq_true', Bool.not_eq_false', ne_eq, Decidable.not_not, Option.isNone_iff_eq_none, not_true_eq_false, not_false_eq_true] at hb); try (exfalso; omega))) | fail)
  (refine v_draw0 [] (by kernel_rfl) ?_ <;> (refine va_takeA 0 rfl rfl rfl rfl ?_) <;> (refine va_takeA 1 rfl rfl rfl rfl ?_) <;> (refine va_takeA 2 rfl rfl rfl rfl ?_) <;> (refine va_takeA 3 rfl rfl rfl rfl ?_) <;> (refine va_takeA 4 rfl rfl rfl rfl ?_) <;> (refine va_takeA 5 rfl rfl rfl rfl ?_) <;> (first | refine va_takeGA 6 rfl rfl rfl rfl rfl rfl rfl rfl ?_ | refine va_passGA 6 rfl rfl rfl rfl rfl rfl rfl rfl ?_ | (refine va_caseG 6 rfl rfl rfl rfl rfl ?_ ?_ <;> (intro hb; (try simp only [decide_eq_true_eq, decide_eq_false_iff_not, Bool.not_eq_true', Bool.not_eq_false', ne_eq, Decidable.not_not, Option.isNone_iff_eq_none, not_true_eq_false, not_false_eq_true] at hb); try (exfalso; omega)) <;> first | refine va_takeGA 6 rfl rfl rfl rfl rfl rfl rfl rfl ?_ | refine va_passGA 6 rfl rfl rfl rfl rfl rfl rfl rfl ?_)) <;> (first | refine va_takeGA 7 rfl rfl rfl rfl rfl rfl rfl rfl ?_ | refine va_passGA 7 rfl rfl rfl rfl rfl rfl rfl rfl ?_ | (refine va_caseG 7 rfl rfl rfl rfl rfl ?_ ?_ <;> (intro hb; (try simp only [decide_eq_true_eq, decide_eq_false_iff_not, Bool.not_eq_true', Bool.not_eq_false', ne_eq, Decidable.not_not, Option.isNone_iff_eq_none, not_true_eq_false, not_false_eq_true] at hb); try (exfalso; omega)) <;> first | refine va_takeGA 7 rfl rfl rfl rfl rfl rfl rfl rfl ?_ | refine va_passGA 7 rfl rfl rfl rfl rfl rfl rfl rfl ?_)) <;> (first | refine va_takeGA 8 rfl rfl rfl rfl rfl rfl rfl rfl ?_ | refine va_passGA 8 rfl rfl rfl rfl rfl rfl rfl rfl ?_ | (refine va_caseG 8 rfl rfl rfl rfl rfl ?_ ?_ <;> (intro hb; (try simp only [decide_eq_true_eq, decide_eq_false_iff_not, Bool.not_eq_true', Bool.not_eq_false', ne_eq, Decidable.not_not, Option.isNone_iff_eq_none, not_true_eq_false, not_false_eq_true] at hb); try (exfalso; omega)) <;> first | refine va_takeGA 8 rfl rfl rfl rfl rfl rfl rfl rfl ?_ | refine va_passGA 8 rfl rfl rfl rfl rfl rfl rfl rfl ?_)) <;> (first | refine va_takeGA 9 rfl rfl rfl rfl rfl rfl rfl rfl ?_ | refine va_passGA 9 rfl rfl rfl rfl rfl rfl rfl rfl ?_ | (refine va_caseG 9 rfl rfl rfl rfl rfl ?_ ?_ <;> (intro hb; (try simp only [decide_eq_true_eq, decide_eq_false_iff_not, Bool.not_eq_true', Bool.not_eq_false', ne_eq, Decidable.not_not, Option.isNone_iff_eq_none, not_true_eq_false, not_false_eq_true] at hb); try (exfalso; omega)) <;> first | refine va_takeGA 9 rfl rfl rfl rfl rfl rfl rfl rfl ?_ | refine va_passGA 9 rfl rfl rfl rfl rfl rfl rfl rfl ?_)) <;> (first | refine va_takeGA 10 rfl rfl rfl rfl rfl rfl rfl rfl ?_ | refine va_passGA 10 rfl rfl rfl rfl rfl rfl rfl rfl ?_ | (refine va_caseG 10 rfl rfl rfl rfl rfl ?_ ?_ <;> (intro hb; (try simp only [decide_eq_true_eq, decide_eq_false_iff_not, Bool.not_eq_true', Bool.not_eq_false', ne_eq, Decidable.not_not, Option.isNone_iff_eq_none, not_true_eq_false, not_false_eq_true] at hb); try (exfalso; omega)) <;> first | refine va_takeGA 10 rfl rfl rfl rfl rfl rfl rfl rfl ?_ | refine va_passGA 10 rfl rfl rfl rfl rfl rfl rfl rfl ?_)) <;> (refine va_takeA 11 rfl rfl rfl rfl ?_) <;> (refine va_takeA 12 rfl rfl rfl rfl ?_) <;> (first | refine va_takeGA 13 rfl rfl rfl rfl rfl rfl rfl rfl ?_ | refine va_passGA 13 rfl rfl rfl rfl rfl rfl rfl rfl ?_ | (refine va_caseG 13 rfl rfl rfl rfl rfl ?_ ?_ <;> (intro hb; (try simp only [decide_eq_true_eq, decide_eq_false_iff_not, Bool.not_eq_true', Bool.not_eq_false', ne_eq, Decidable.not_not, Option.isNone_iff_eq_none, not_true_eq_false, not_false_eq_true] at hb); try (exfalso; omega)) <;> first | refine va_takeGA 13 rfl rfl rfl rfl rfl rfl rfl rfl ?_ | refine va_passGA 13 rfl rfl rfl rfl rfl rfl rfl rfl ?_)) <;> (first | refine va_takeGA 14 rfl rfl rfl rfl rfl rfl rfl rfl ?_ | refine va_passGA 14 rfl rfl rfl rfl rfl rfl rfl rfl ?_ | (refine va_caseG 14 rfl rfl rfl rfl rfl ?_ ?_ <;> (intro hb; (try simp only [decide_eq_true_eq, decide_eq_false_iff_not, Bool.not_eq_true', Bool.not_eq_false', ne_eq, Decidable.not_not, Option.isNone_iff_eq_none, not_true_eq_false, not_false_eq_true] at hb); try (exfalso; omega)) <;> first | refine va_takeGA 14 rfl rfl rfl rfl rfl rfl rfl rfl ?_ | refine va_passGA 14 rfl rfl rfl rfl rfl rfl rfl rfl ?_)) <;> (first | refine va_takeGA 15 rfl rfl rfl rfl rfl rfl rfl rfl ?_ | refine va_passGA 15 rfl rfl rfl rfl rfl rfl rfl rfl ?_ | (refine va_caseG 15 rfl rfl rfl rfl rfl ?_ ?_ <;> (intro hb; (try simp only [decide_eq_true_eq, decide_eq_false_iff_not, Bool.not_eq_true', Bool.not_eq_false', ne_eq, Decidable.not_not, Option.isNone_iff_eq_none, not_true_eq_false, not_false_eq_true] at hb); try (exfalso; omega)) <;> first | refine va_takeGA 15 rfl rfl rfl rfl rfl rfl rfl rfl ?_ | refine va_passGA 15 rfl rfl rfl rfl rfl rfl rfl rfl ?_)) <;> (first | refine va_takeGA 16 rfl rfl rfl rfl rfl rfl rfl rfl ?_ | refine va_passGA 16 rfl rfl rfl rfl rfl rfl rfl rfl ?_ | (refine va_caseG 16 rfl rfl rfl rfl rfl ?_ ?_ <;> (intro hb; (try simp only [decide_eq_true_eq, decide_eq_false_iff_not, Bool.not_eq_true', Bool.not_eq_false', ne_eq, Decidable.not_not, Option.isNone_iff_eq_none, not_true_eq_false, not_false_eq_true] at hb); try (exfalso; omega)) <;> first | refine va_takeGA 16 rfl rfl rfl rfl rfl rfl rfl rfl ?_ | refine va_passGA 16 rfl rfl rfl rfl rfl rfl rfl rfl ?_)) <;> (first | refine va_takeGA 17 rfl rfl rfl rfl rfl rfl rfl rfl ?_ | refine va_passGA 17 rfl rfl rfl rfl rfl rfl rfl rfl ?_ | (refine va_caseG 17 rfl rfl rfl rfl rfl ?_ ?_ <;> (intro hb; (try simp only [decide_eq_true_eq, decide_eq_false_iff_not, Bool.not_eq_true', Bool.not_eq_false', ne_eq, Decidable.not_not, Option.isNone_iff_eq_none, not_true_eq_false, not_false_eq_true] at hb); try (exfalso; omega)) <;> first | refine va_takeGA 17 rfl rfl rfl rfl rfl rfl rfl rfl ?_ | refine va_passGA 17 rfl rfl rfl rfl rfl rfl rfl rfl ?_)) <;> (first | refine va_takeGA 18 rfl rfl rfl rfl rfl rfl rfl rfl ?_ | refine va_passGA 18 rfl rfl rfl rfl rfl rfl rfl rfl ?_ | (refine va_caseG 18 rfl rfl rfl rfl rfl ?_ ?_ <;> (intro hb; (try simp only [decide_eq_true_eq, decide_eq_false_iff_not, Bool.not_eq_true', Bool.not_eq_false', ne_eq, Decidable.not_not, Option.isNone_iff_eq_none, not_true_eq_false, not_false_eq_true] at hb); try (exfalso; omega)) <;> first | refine va_takeGA 18 rfl rfl rfl rfl rfl rfl rfl rfl ?_ | refine va_passGA 18 rfl rfl rfl rfl rfl rfl rfl rfl ?_)) <;> (first | refine va_takeGA 19 rfl rfl rfl rfl rfl rfl rfl rfl ?_ | refine va_passGA 19 rfl rfl rfl rfl rfl rfl rfl rfl ?_ | (refine va_caseG 19 rfl rfl rfl rfl rfl ?_ ?_ <;> (intro hb; (try simp only [decide_eq_true_eq, decide_eq_false_iff_not, Bool.not_eq_true', Bool.not_eq_false', ne_eq, Decidable.not_not, Option.isNone_iff_eq_none, not_true_eq_false, not_false_eq_true] at hb); try (exfalso; omega)) <;> first | refine va_takeGA 19 rfl rfl rfl rfl rfl rfl rfl rfl ?_ | refine va_passGA 19 rfl rfl rfl rfl rfl rfl rfl rfl ?_)) <;> (first | refine va_takeGA 20 rfl rfl rfl rfl rfl rfl rfl rfl ?_ | refine va_passGA 20 rfl rfl rfl rfl rfl rfl rfl rfl ?_ | (refine va_caseG 20 rfl rfl rfl rfl rfl ?_ ?_ <;> (intro hb; (try simp only [decide_eq_true_eq, decide_eq_false_iff_not, Bool.not_eq_true', Bool.not_eq_false', ne_eq, Decidable.not_not, Option.isNone_iff_eq_none, not_true_eq_false, not_false_eq_true] at hb); try (exfalso; omega)) <;> first | refine va_takeGA 20 rfl rfl rfl rfl rfl rfl rfl rfl ?_ | refine va_passGA 20 rfl rfl rfl rfl rfl rfl rfl rfl ?_)))
  · refine va_oneG 21 (by kernel_rfl) rfl rfl rfl rfl rfl rfl (vo_call rfl rfl ?_)
    refine vc_mono (same_vc w0 _ (qs[i]).a (qs[i]).cap (qs[i]).l (rs[i]).a (rs[i]).cap (rs[i]).l rfl rfl) ?_
    rintro v L' ⟨rfl, rfl⟩
    by_cases e : (qs[i]).l = (rs[i]).l
    · rw [decide_eq_true e]
      have hst := take_eq_step (ls := ls qs) (ms := ls rs) (by simpa [ls] using hqi) (by simpa [ls] using hri) he (by rw [eq1, er1]; exact e)
      refine ⟨.inr (SE.ent (by repeat' (first | exact SE.refl _ | refine SE.cons _ ?_ | refine SE.trans (se_drop _ _) ?_)) _), ?_⟩
      ((refine va_takeA 22 rfl rfl rfl rfl ?_) <;> (refine va_done (by kernel_rfl) ?_))
      repeat' (first | (refine go1 ?_; intros) | ((first | refine vl_caseG rfl rfl rfl rfl ?_ ?_ | refine v_cond rfl ?_ ?_) <;> (intro hb; (try simp only [decide_eq_true_eq, decide_eq_false_iff_not, Bool.not_eq_true', Bool.not_eq_false', ne_eq, Decidable.not_not, Option.isNone_iff_eq_none, not_true_eq_false, not_false_eq_true] at hb); try (exfalso; omega))) | fail)
      refine ⟨rfl, i + 1, ⟨by omega, hst⟩, by omega, by (repeat' (first | exact Sub.nil _ | refine Sub.cons rfl rfl ?_ | refine Sub.cons rfl ?_ ?_)), sei _ _ _⟩
    · rw [decide_eq_false e]
      obtain ⟨hx1, hy1⟩ := firstU_last hxy (i := i) (by simpa [ls] using hqi) (by simpa [ls] using hri) he (.inl (by rw [eq1, er1]; exact e))
      rw [eq1] at hx1
      rw [er1] at hy1
      refine ⟨.inr (SE.ent (by repeat' (first | exact SE.refl _ | refine SE.cons _ ?_ | refine SE.trans (se_drop _ _) ?_)) _), ?_⟩
      ((refine va_takeA 22 rfl rfl rfl rfl ?_) <;> (refine va_done (by kernel_rfl) ?_))
      repeat' (first | (refine go1 ?_; intros) | ((first | refine vl_caseG rfl rfl rfl rfl ?_ ?_ | refine v_cond rfl ?_ ?_) <;> (intro hb; (try simp only [decide_eq_true_eq, decide_eq_false_iff_not, Bool.not_eq_true', Bool.not_eq_false', ne_eq, Decidable.not_not, Option.isNone_iff_eq_none, not_true_eq_false, not_false_eq_true] at hb); try (exfalso; omega))) | fail)
      (refine v_draw0 [] (by kernel_rfl) ?_ <;> (refine va_takeA 0 rfl rfl rfl rfl ?_) <;> (refine va_takeA 1 rfl rfl rfl rfl ?_) <;> (refine va_takeA 2 rfl rfl rfl rfl ?_) <;> (refine va_takeA 3 rfl rfl rfl rfl ?_) <;> (refine va_takeA 4 rfl rfl rfl rfl ?_) <;> (refine va_takeA 5 rfl rfl rfl rfl ?_) <;> (refine va_takeA 6 rfl rfl rfl rfl ?_) <;> (refine va_takeA 7 rfl rfl rfl rfl ?_) <;> (refine va_takeA 8 rfl rfl rfl rfl ?_) <;> (refine va_takeA 9 rfl rfl rfl rfl ?_) <;> (refine va_done (by kernel_rfl) ?_))
      repeat' (first | (refine go1 ?_; intros) | ((first | refine vl_caseG rfl rfl rfl rfl ?_ ?_ | refine v_cond rfl ?_ ?_) <;> (intro hb; (try simp only [decide_eq_true_eq, decide_eq_false_iff_not, Bool.not_eq_true', Bool.not_eq_false', ne_eq, Decidable.not_not, Option.isNone_iff_eq_none, not_true_eq_false, not_false_eq_true] at hb); try (exfalso; omega))) | fail)
      rw [← hx1, ← hy1]
      refine ⟨ownB (qs[i]).a (qs[i]).cap (qs[i]).l :: ownB (rs[i]).a (rs[i]).cap (rs[i]).l :: L, ?_, _, _, _, _, rfl, rfl⟩
      exact Ent.trans (sei _ _ (psA qs :: psA rs :: L)) (SE.ent ((se_psA_pull qs _ i hqi).trans (SE.cons _ ((se_drop _ _).trans ((se_psA_pull rs _ i hri).trans (SE.cons _ (se_drop _ _)))))) w0)
  · obtain ⟨hx1, hy1⟩ := firstU_last hxy (i := i) (by simpa [ls] using hqi) (by simpa [ls] using hri) he (.inr (.inr (by simp only [ls, List.length_map]; omega)))
    rw [eq1] at hx1
    rw [er1] at hy1
    refine va_passGA 21 rfl rfl rfl rfl rfl rfl rfl rfl ?_
    ((refine va_takeA 22 rfl rfl rfl rfl ?_) <;> (refine va_done (by kernel_rfl) ?_))
    repeat' (first | (refine go1 ?_; intros) | ((first | refine vl_caseG rfl rfl rfl rfl ?_ ?_ | refine v_cond rfl ?_ ?_) <;> (intro hb; (try simp only [decide_eq_true_eq, decide_eq_false_iff_not, Bool.not_eq_true', Bool.not_eq_false', ne_eq, Decidable.not_not, Option.isNone_iff_eq_none, not_true_eq_false, not_false_eq_true] at hb); try (exfalso; omega))) | fail)
    (refine v_draw0 [] (by kernel_rfl) ?_ <;> (refine va_takeA 0 rfl rfl rfl rfl ?_) <;> (refine va_takeA 1 rfl rfl rfl rfl ?_) <;> (refine va_takeA 2 rfl rfl rfl rfl ?_) <;> (refine va_takeA 3 rfl rfl rfl rfl ?_) <;> (refine va_takeA 4 rfl rfl rfl rfl ?_) <;> (refine va_takeA 5 rfl rfl rfl rfl ?_) <;> (refine va_takeA 6 rfl rfl rfl rfl ?_) <;> (refine va_takeA 7 rfl rfl rfl rfl ?_) <;> (refine va_takeA 8 rfl rfl rfl rfl ?_) <;> (refine va_takeA 9 rfl rfl rfl rfl ?_) <;> (refine va_done (by kernel_rfl) ?_))
    repeat' (first | (refine go1 ?_; intros) | ((first | refine vl_caseG rfl rfl rfl rfl ?_ ?_ | refine v_cond rfl ?_ ?_) <;> (intro hb; (try simp only [decide_eq_true_eq, decide_eq_false_iff_not, Bool.not_eq_true', Bool.not_eq_false', ne_eq, Decidable.not_not, Option.isNone_iff_eq_none, not_true_eq_false, not_false_eq_true] at hb); try (exfalso; omega))) | fail)
    rw [← hx1, ← hy1]
    refine ⟨ownB (qs[i]).a (qs[i]).cap (qs[i]).l :: ownB (rs[i]).a (rs[i]).cap (rs[i]).l :: L, ?_, _, _, _, _, rfl, rfl⟩
    exact Ent.trans (sei _ _ (psA qs :: psA rs :: L)) (SE.ent ((se_psA_pull qs _ i hqi).trans (SE.cons _ ((se_drop _ _).trans ((se_psA_pull rs _ i hri).trans (SE.cons _ (se_drop _ _)))))) w0)
  · obtain ⟨hx1, hy1⟩ := firstU_last hxy (i := i) (by simpa [ls] using hqi) (by simpa [ls] using hri) he (.inr (.inl (by simp only [ls, List.length_map]; omega)))
    rw [eq1] at hx1
    rw [er1] at hy1
    refine va_passGA 21 rfl rfl rfl rfl rfl rfl rfl rfl ?_
    ((refine va_takeA 22 rfl rfl rfl rfl ?_) <;> (refine va_done (by kernel_rfl) ?_))
    repeat' (first | (refine go1 ?_; intros) | ((first | refine vl_caseG rfl rfl rfl rfl ?_ ?_ | refine v_cond rfl ?_ ?_) <;> (intro hb; (try simp only [decide_eq_true_eq, decide_eq_false_iff_not, Bool.not_eq_true', Bool.not_eq_false', ne_eq, Decidable.not_not, Option.isNone_iff_eq_none, not_true_eq_false, not_false_eq_true] at hb); try (exfalso; omega))) | fail)
    (refine v_draw0 [] (by kernel_rfl) ?_ <;> (refine va_takeA 0 rfl rfl rfl rfl ?_) <;> (refine va_takeA 1 rfl rfl rfl rfl ?_) <;> (refine va_takeA 2 rfl rfl rfl rfl ?_) <;> (refine va_takeA 3 rfl rfl rfl rfl ?_) <;> (refine va_takeA 4 rfl rfl rfl rfl ?_) <;> (refine va_takeA 5 rfl rfl rfl rfl ?_) <;> (refine va_takeA 6 rfl rfl rfl rfl ?_) <;> (refine va_takeA 7 rfl rfl rfl rfl ?_) <;> (refine va_takeA 8 rfl rfl rfl rfl ?_) <;> (refine va_takeA 9 rfl rfl rfl rfl ?_) <;> (refine va_done (by kernel_rfl) ?_))
    repeat' (first | (refine go1 ?_; intros) | ((first | refine vl_caseG rfl rfl rfl rfl ?_ ?_ | refine v_cond rfl ?_ ?_) <;> (intro hb; (try simp only [decide_eq_true_eq, decide_eq_false_iff_not, Bool.not_eq_true', Bool.not_eq_false', ne_eq, Decidable.not_not, Option.isNone_iff_eq_none, not_true_eq_false, not_false_eq_true] at hb); try (exfalso; omega))) | fail)
    rw [← hx1, ← hy1]
    refine ⟨ownB (qs[i]).a (qs[i]).cap (qs[i]).l :: ownB (rs[i]).a (rs[i]).cap (rs[i]).l :: L, ?_, _, _, _, _, rfl, rfl⟩
    exact Ent.trans (sei _ _ (psA qs :: psA rs :: L)) (SE.ent ((se_psA_pull qs _ i hqi).trans (SE.cons _ ((se_drop _ _).trans ((se_psA_pull rs _ i hri).trans (SE.cons _ (se_drop _ _)))))) w0)
end Go.Proofs.YtmaimkbppnpbnaaDoor
