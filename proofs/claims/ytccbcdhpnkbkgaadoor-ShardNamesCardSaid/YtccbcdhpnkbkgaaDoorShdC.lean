/-
  Shards: whether two are the same.
-/
import Derived.Test.YtccbcdhpnkbkgaaDoorShdA
import Derived.Test.YtccbcdhpnkbkgaaDoorGX
set_option linter.unusedVariables false
set_option linter.unusedSimpArgs false
namespace Go.Proofs.YtccbcdhpnkbkgaaDoor
open Go Go.RowKit
set_option linter.unusedVariables false
set_option linter.unusedSimpArgs false
open Classical

theorem lls_len {ms ns : List Ln} (h : lls ms = lls ns) : ms.length = ns.length := by simpa using congrArg List.length h
theorem lls_step {ms ns : List Ln} {i : Nat} (hm : i < ms.length) (hn : i < ns.length) (he : (lls ms).take i = (lls ns).take i) (h : ms[i].pl = ns[i].pl) : (lls ms).take (i + 1) = (lls ns).take (i + 1) := by
  rw [List.take_succ_eq_append_getElem (by simpa using hm), List.take_succ_eq_append_getElem (by simpa using hn), he, List.getElem_map, List.getElem_map, h]
theorem lls_get {ms ns : List Ln} (h : lls ms = lls ns) {i : Nat} (hm : i < ms.length) (hn : i < ns.length) : ms[i].pl = ns[i].pl := by
  have h1 : (lls ms)[i]? = (lls ns)[i]? := by rw [h]
  rw [List.getElem?_map, List.getElem?_map, List.getElem?_eq_getElem hm, List.getElem?_eq_getElem hn] at h1
  simpa using h1
theorem lls_ne {ms ns : List Ln} {i : Nat} (hm : i < ms.length) (hn : i < ns.length) (h : ¬ ms[i].pl = ns[i].pl) : ¬ lls ms = lls ns := fun e => h (lls_get e hm hn)
theorem lpl_eq {x y : Ln} : x.pl = y.pl ↔ x.own = y.own ∧ x.xs = y.xs := by
  unfold Ln.pl
  simp only [Prod.mk.injEq]
set_option maxRecDepth 100000 in
set_option maxHeartbeats 1000000 in
theorem rsame20_vc (w0 : World) (L : List Asn) (a : Option Addr) (c : Nat) (ls : List Ln) (b : Option Addr) (d : Nat) (ms : List Ln) {n m : Nat} (hn : n = ls.length) (hm : m = ms.length) (h : LsOk ls) (k : LsOk ms) [hr : RdC w0 L a (lnc ls)] [hv : RdLs w0 L ls] [hr2 : RdC w0 L b (lnc ms)] [hv2 : RdLs w0 L ms] :
    VC Tryd.prog w0 14 [.agg #[.slice a n c], .agg #[.slice b m d]] L fun v L' => v = .bool (decide (lls ls = lls ms)) ∧ L' = L := by
  subst hn
  subst hm
  have hlen := h.len
  have hlen2 := k.len
  refine vc_ent ?_
  refine vc_in rfl rfl ?_
  by_cases hl : ls.length = ms.length
  rotate_left
  · repeat' (first | (refine go1 ?_; intros) | ((first | refine vl_caseG rfl rfl rfl rfl ?_ ?_ | refine v_cond rfl ?_ ?_) <;> (intro hb; (try simp only [hq1, hq2, hq3, hq4, ne_eq, hq5, hq6, hq7, hq8] at hb); try (exfalso; omega))) | fail)
    all_goals first | exact ⟨L, sei _ _ _, by rw [decide_eq_false (fun e => hl (lls_len e))], rfl⟩ | (exfalso; omega)
  repeat' (first | (refine go1 ?_; intros) | ((first | refine vl_caseG rfl rfl rfl rfl ?_ ?_ | refine v_cond rfl ?_ ?_) <;> (intro hb; (try simp only [hq1, hq2, hq3, hq4, ne_eq, hq5, hq6, hq7, hq8] at hb); try (exfalso; omega))) | fail)
  all_goals first | (exfalso; omega) | skip
  refine v_loopS Nat [2, 3] rfl (fun i => [(5, .int .i64 i)]) (fun i => i ≤ ls.length ∧ (lls ls).take i = (lls ms).take i) (fun i => ls.length - i) 0 ⟨Nat.zero_le _, by simp⟩ (by (repeat' (first | exact Sub.nil _ | refine Sub.cons rfl rfl ?_ | refine Sub.cons rfl ?_ ?_))) (fun i ⟨hi, he⟩ => ?_)
  by_cases hlt : i < ls.length
  · have hlt2 : i < ms.length := by omega
    have e := h.e i hlt
    have e2 := k.e i hlt2
    have hpos := h.pos i hlt
    have hpos2 := k.pos i hlt2
    haveI := hv.at i hlt
    haveI := hv2.at i hlt2
    have lok := h.at i hlt
    have kok := k.at i hlt2
    have hcl := Ln.len lok.own
    have kcl := Ln.len kok.own
    have hstep := lls_step hlt hlt2 he
    have hne := lls_ne hlt hlt2
    generalize ls[i] = x at *
    generalize ms[i] = y at *
    rw [lpl_eq] at hstep hne
    repeat' (first | (refine go1 ?_; intros) | ((first | refine vl_caseG rfl rfl rfl rfl ?_ ?_ | refine v_cond rfl ?_ ?_) <;> (intro hb; (try simp only [hq1, hq2, hq3, hq4, ne_eq, hq5, hq6, hq7, hq8] at hb); try (exfalso; omega))) | fail)
    (refine v_draw0 [] (by kernel_rfl) ?_ <;> (refine va_takeA 0 rfl rfl rfl rfl ?_) <;> (refine va_takeA 1 rfl rfl rfl rfl ?_) <;> (refine va_takeA 2 rfl rfl rfl rfl ?_) <;> (refine va_takeA 3 rfl rfl rfl rfl ?_) <;> (refine va_takeA 4 rfl rfl rfl rfl ?_) <;> (refine va_takeA 5 rfl rfl rfl rfl ?_) <;> (refine va_takeA 6 rfl rfl rfl rfl ?_) <;> (refine va_takeA 7 rfl rfl rfl rfl ?_) <;> (refine va_takeA 8 rfl rfl rfl rfl ?_) <;> (refine va_takeA 9 rfl rfl rfl rfl ?_))
    refine va_one 10 (by kernel_rfl) rfl rfl (vo_call rfl rfl ?_)
    refine vc_mono (rsameL_vc w0 _ x y lok kok) ?_
    rintro v L' ⟨rfl, rfl⟩
    by_cases hs : x.own = y.own ∧ x.xs = y.xs
    · rw [decide_eq_true hs]
      refine ⟨.inr (SE.ent (by repeat' (first | exact SE.refl _ | refine SE.cons _ ?_ | refine SE.trans (se_drop _ _) ?_)) _), ?_⟩
      ((refine va_takeA 11 rfl rfl rfl rfl ?_) <;> (refine va_done (by kernel_rfl) ?_))
      repeat' (first | (refine go1 ?_; intros) | ((first | refine vl_caseG rfl rfl rfl rfl ?_ ?_ | refine v_cond rfl ?_ ?_) <;> (intro hb; (try simp only [hq1, hq2, hq3, hq4, ne_eq, hq5, hq6, hq7, hq8] at hb); try (exfalso; omega))) | fail)
      exact ⟨rfl, i + 1, ⟨by omega, hstep hs⟩, by omega, by (repeat' (first | exact Sub.nil _ | refine Sub.cons rfl rfl ?_ | refine Sub.cons rfl ?_ ?_)), sei _ _ _⟩
    · rw [decide_eq_false hs]
      refine ⟨.inr (SE.ent (by repeat' (first | exact SE.refl _ | refine SE.cons _ ?_ | refine SE.trans (se_drop _ _) ?_)) _), ?_⟩
      ((refine va_takeA 11 rfl rfl rfl rfl ?_) <;> (refine va_done (by kernel_rfl) ?_))
      repeat' (first | (refine go1 ?_; intros) | ((first | refine vl_caseG rfl rfl rfl rfl ?_ ?_ | refine v_cond rfl ?_ ?_) <;> (intro hb; (try simp only [hq1, hq2, hq3, hq4, ne_eq, hq5, hq6, hq7, hq8] at hb); try (exfalso; omega))) | fail)
      exact ⟨L, sei _ _ _, by rw [decide_eq_false (hne hs)], rfl⟩
  · obtain rfl : i = ls.length := by omega
    rw [List.take_of_length_le (by simp), List.take_of_length_le (by simp; omega)] at he
    repeat' (first | (refine go1 ?_; intros) | ((first | refine vl_caseG rfl rfl rfl rfl ?_ ?_ | refine v_cond rfl ?_ ?_) <;> (intro hb; (try simp only [hq1, hq2, hq3, hq4, ne_eq, hq5, hq6, hq7, hq8] at hb); try (exfalso; omega))) | fail)
    exact ⟨L, sei _ _ _, by rw [decide_eq_true he], rfl⟩
end Go.Proofs.YtccbcdhpnkbkgaaDoor
