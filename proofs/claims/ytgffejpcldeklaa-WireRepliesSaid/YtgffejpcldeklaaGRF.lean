/-
  May a reply be (the document's)? A header among bytes, an account's bytes, a flag (the document's). A proof's bytes, and a reply's (the document's).
-/
import Derived.Test.YtgffejpcldeklaaGRE
import Derived.Test.YtgffejpcldeklaaRecD
import Derived.Test.YtgffejpcldeklaaGHA
import Derived.Test.YtgffejpcldeklaaVCutR
import Derived.Test.YtgffejpcldeklaaGRC
set_option linter.unusedVariables false
set_option linter.unusedSimpArgs false
set_option linter.unusedSectionVars false
set_option maxRecDepth 100000
set_option maxHeartbeats 8000000
namespace Go.Proofs.Ytgffejpcldeklaa
open Go Go.RowKit
open Classical

theorem rmayReply_vc (w0 : World) (L : List Asn) (r : Rp) (h : r.ok) [hr : RdC w0 L r.prf.va (bvs r.prf.vl)] [hr2 : RdC w0 L r.prf.pa (bvs r.prf.pl.flatten)] :
    VC Try.prog w0 18 [.agg r.cells.toArray] L fun v L' => v = .bool (decide (MayR r)) ∧ L' = L := by
  have hcl := Rp.len h
  have f0 := Rp.f0 h
  have f1 := Rp.f1 h
  have f2 := Rp.f2 h
  have f5 := Rp.f5 h
  have f6 := Rp.f6 h
  have f7 := Rp.f7 h
  have fg := Rp.fg h
  have fe := Rp.fe h
  haveI hoc : OC r.cells := oc_rp r
  refine vc_ent ?_
  refine vc_in rfl rfl ?_
  obtain ⟨cs, hcs⟩ : ∃ cs, cs = r.cells := ⟨_, rfl⟩
  rw [← hcs] at hcl f0 f1 f2 f5 f6 f7 fg fe hoc ⊢
  repeat' (first | (refine go1 ?_; intros) | (refine goCC ?_ ?_ <;> (intro hb; (try simp only [hSQ] at hb); try (exfalso; omega))) | fail)
  by_cases a1 : 8 < r.kind.toNat
  · have hno : ¬ MayR r := fun hm => by have := hm.kind; omega
    rw [decide_eq_false hno]
    (refine v_draw0 [] (by kernel_rfl) ?_ <;> (refine tA 0 ?_) <;> (refine tA 1 ?_) <;> (refine tA 2 ?_) <;> (refine tA 3 ?_) <;> (first | refine tG 4 ?_ | (first | refine pG 4 ?_ | refine pU 4 ?_) | (refine va_caseG 4 rfl rfl rfl rfl rfl ?_ ?_ <;> (intro hb; (try simp only [hSQ] at hb); try (exfalso; omega)) <;> first | refine tG 4 ?_ | (first | refine pG 4 ?_ | refine pU 4 ?_))) <;> (first | refine tG 5 ?_ | (first | refine pG 5 ?_ | refine pU 5 ?_) | (refine va_caseG 5 rfl rfl rfl rfl rfl ?_ ?_ <;> (intro hb; (try simp only [hSQ] at hb); try (exfalso; omega)) <;> first | refine tG 5 ?_ | (first | refine pG 5 ?_ | refine pU 5 ?_))) <;> (first | refine tG 6 ?_ | (first | refine pG 6 ?_ | refine pU 6 ?_) | (refine va_caseG 6 rfl rfl rfl rfl rfl ?_ ?_ <;> (intro hb; (try simp only [hSQ] at hb); try (exfalso; omega)) <;> first | refine tG 6 ?_ | (first | refine pG 6 ?_ | refine pU 6 ?_))) <;> (first | refine tG 7 ?_ | (first | refine pG 7 ?_ | refine pU 7 ?_) | (refine va_caseG 7 rfl rfl rfl rfl rfl ?_ ?_ <;> (intro hb; (try simp only [hSQ] at hb); try (exfalso; omega)) <;> first | refine tG 7 ?_ | (first | refine pG 7 ?_ | refine pU 7 ?_))) <;> (first | refine tG 8 ?_ | (first | refine pG 8 ?_ | refine pU 8 ?_) | (refine va_caseG 8 rfl rfl rfl rfl rfl ?_ ?_ <;> (intro hb; (try simp only [hSQ] at hb); try (exfalso; omega)) <;> first | refine tG 8 ?_ | (first | refine pG 8 ?_ | refine pU 8 ?_))) <;> (first | refine tG 9 ?_ | (first | refine pG 9 ?_ | refine pU 9 ?_) | (refine va_caseG 9 rfl rfl rfl rfl rfl ?_ ?_ <;> (intro hb; (try simp only [hSQ] at hb); try (exfalso; omega)) <;> first | refine tG 9 ?_ | (first | refine pG 9 ?_ | refine pU 9 ?_))) <;> (first | refine tG 10 ?_ | (first | refine pG 10 ?_ | refine pU 10 ?_) | (refine va_caseG 10 rfl rfl rfl rfl rfl ?_ ?_ <;> (intro hb; (try simp only [hSQ] at hb); try (exfalso; omega)) <;> first | refine tG 10 ?_ | (first | refine pG 10 ?_ | refine pU 10 ?_))) <;> (first | refine tG 11 ?_ | (first | refine pG 11 ?_ | refine pU 11 ?_) | (refine va_caseG 11 rfl rfl rfl rfl rfl ?_ ?_ <;> (intro hb; (try simp only [hSQ] at hb); try (exfalso; omega)) <;> first | refine tG 11 ?_ | (first | refine pG 11 ?_ | refine pU 11 ?_))) <;> (refine tA 12 ?_) <;> (refine tA 13 ?_) <;> (first | refine tG 14 ?_ | (first | refine pG 14 ?_ | refine pU 14 ?_) | (refine va_caseG 14 rfl rfl rfl rfl rfl ?_ ?_ <;> (intro hb; (try simp only [hSQ] at hb); try (exfalso; omega)) <;> first | refine tG 14 ?_ | (first | refine pG 14 ?_ | refine pU 14 ?_))) <;> (first | refine tG 15 ?_ | (first | refine pG 15 ?_ | refine pU 15 ?_) | (refine va_caseG 15 rfl rfl rfl rfl rfl ?_ ?_ <;> (intro hb; (try simp only [hSQ] at hb); try (exfalso; omega)) <;> first | refine tG 15 ?_ | (first | refine pG 15 ?_ | refine pU 15 ?_))) <;> (first | refine tG 16 ?_ | (first | refine pG 16 ?_ | refine pU 16 ?_) | (refine va_caseG 16 rfl rfl rfl rfl rfl ?_ ?_ <;> (intro hb; (try simp only [hSQ] at hb); try (exfalso; omega)) <;> first | refine tG 16 ?_ | (first | refine pG 16 ?_ | refine pU 16 ?_))) <;> (refine tA 17 ?_) <;> (refine tA 18 ?_) <;> (first | refine tG 19 ?_ | (first | refine pG 19 ?_ | refine pU 19 ?_) | (refine va_caseG 19 rfl rfl rfl rfl rfl ?_ ?_ <;> (intro hb; (try simp only [hSQ] at hb); try (exfalso; omega)) <;> first | refine tG 19 ?_ | (first | refine pG 19 ?_ | refine pU 19 ?_))) <;> (first | refine tG 20 ?_ | (first | refine pG 20 ?_ | refine pU 20 ?_) | (refine va_caseG 20 rfl rfl rfl rfl rfl ?_ ?_ <;> (intro hb; (try simp only [hSQ] at hb); try (exfalso; omega)) <;> first | refine tG 20 ?_ | (first | refine pG 20 ?_ | refine pU 20 ?_))) <;> (first | refine tG 21 ?_ | (first | refine pG 21 ?_ | refine pU 21 ?_) | (refine va_caseG 21 rfl rfl rfl rfl rfl ?_ ?_ <;> (intro hb; (try simp only [hSQ] at hb); try (exfalso; omega)) <;> first | refine tG 21 ?_ | (first | refine pG 21 ?_ | refine pU 21 ?_))) <;> (refine tA 22 ?_) <;> (refine tA 23 ?_) <;> (first | refine tG 24 ?_ | (first | refine pG 24 ?_ | refine pU 24 ?_) | (refine va_caseG 24 rfl rfl rfl rfl rfl ?_ ?_ <;> (intro hb; (try simp only [hSQ] at hb); try (exfalso; omega)) <;> first | refine tG 24 ?_ | (first | refine pG 24 ?_ | refine pU 24 ?_))) <;> (first | refine tG 25 ?_ | (first | refine pG 25 ?_ | refine pU 25 ?_) | (refine va_caseG 25 rfl rfl rfl rfl rfl ?_ ?_ <;> (intro hb; (try simp only [hSQ] at hb); try (exfalso; omega)) <;> first | refine tG 25 ?_ | (first | refine pG 25 ?_ | refine pU 25 ?_))))
    all_goals first | (exfalso; omega) | skip
    all_goals refine pG 26 ?_
    all_goals skip
    all_goals refine pG 27 ?_
    all_goals ((first | refine tG 28 ?_ | refine pG 28 ?_ | (refine va_caseG 28 rfl rfl rfl rfl rfl ?_ ?_ <;> (intro hb; (try simp only [hSQ] at hb); try (exfalso; omega)) <;> first | refine tG 28 ?_ | refine pG 28 ?_)) <;> (refine tA 29 ?_) <;> (refine va_done (by kernel_rfl) ?_))
    repeat' (first | (refine go1 ?_; intros) | (refine goCC ?_ ?_ <;> (intro hb; (try simp only [hSQ] at hb); try (exfalso; omega))) | fail)
    all_goals exact ⟨L, sei _ _ L, rfl, rfl⟩
  by_cases a2 : r.kind.toNat = 0 ∧ r.code = 0
  · have hno : ¬ MayR r := fun hm => hm.some' a2
    rw [decide_eq_false hno]
    obtain ⟨a3, a4⟩ := a2
    (refine v_draw0 [] (by kernel_rfl) ?_ <;> (refine tA 0 ?_) <;> (refine tA 1 ?_) <;> (refine tA 2 ?_) <;> (refine tA 3 ?_) <;> (first | refine tG 4 ?_ | (first | refine pG 4 ?_ | refine pU 4 ?_) | (refine va_caseG 4 rfl rfl rfl rfl rfl ?_ ?_ <;> (intro hb; (try simp only [hSQ] at hb); try (exfalso; omega)) <;> first | refine tG 4 ?_ | (first | refine pG 4 ?_ | refine pU 4 ?_))) <;> (first | refine tG 5 ?_ | (first | refine pG 5 ?_ | refine pU 5 ?_) | (refine va_caseG 5 rfl rfl rfl rfl rfl ?_ ?_ <;> (intro hb; (try simp only [hSQ] at hb); try (exfalso; omega)) <;> first | refine tG 5 ?_ | (first | refine pG 5 ?_ | refine pU 5 ?_))) <;> (first | refine tG 6 ?_ | (first | refine pG 6 ?_ | refine pU 6 ?_) | (refine va_caseG 6 rfl rfl rfl rfl rfl ?_ ?_ <;> (intro hb; (try simp only [hSQ] at hb); try (exfalso; omega)) <;> first | refine tG 6 ?_ | (first | refine pG 6 ?_ | refine pU 6 ?_))) <;> (first | refine tG 7 ?_ | (first | refine pG 7 ?_ | refine pU 7 ?_) | (refine va_caseG 7 rfl rfl rfl rfl rfl ?_ ?_ <;> (intro hb; (try simp only [hSQ] at hb); try (exfalso; omega)) <;> first | refine tG 7 ?_ | (first | refine pG 7 ?_ | refine pU 7 ?_))) <;> (first | refine tG 8 ?_ | (first | refine pG 8 ?_ | refine pU 8 ?_) | (refine va_caseG 8 rfl rfl rfl rfl rfl ?_ ?_ <;> (intro hb; (try simp only [hSQ] at hb); try (exfalso; omega)) <;> first | refine tG 8 ?_ | (first | refine pG 8 ?_ | refine pU 8 ?_))) <;> (first | refine tG 9 ?_ | (first | refine pG 9 ?_ | refine pU 9 ?_) | (refine va_caseG 9 rfl rfl rfl rfl rfl ?_ ?_ <;> (intro hb; (try simp only [hSQ] at hb); try (exfalso; omega)) <;> first | refine tG 9 ?_ | (first | refine pG 9 ?_ | refine pU 9 ?_))) <;> (first | refine tG 10 ?_ | (first | refine pG 10 ?_ | refine pU 10 ?_) | (refine va_caseG 10 rfl rfl rfl rfl rfl ?_ ?_ <;> (intro hb; (try simp only [hSQ] at hb); try (exfalso; omega)) <;> first | refine tG 10 ?_ | (first | refine pG 10 ?_ | refine pU 10 ?_))) <;> (first | refine tG 11 ?_ | (first | refine pG 11 ?_ | refine pU 11 ?_) | (refine va_caseG 11 rfl rfl rfl rfl rfl ?_ ?_ <;> (intro hb; (try simp only [hSQ] at hb); try (exfalso; omega)) <;> first | refine tG 11 ?_ | (first | refine pG 11 ?_ | refine pU 11 ?_))) <;> (refine tA 12 ?_) <;> (refine tA 13 ?_) <;> (first | refine tG 14 ?_ | (first | refine pG 14 ?_ | refine pU 14 ?_) | (refine va_caseG 14 rfl rfl rfl rfl rfl ?_ ?_ <;> (intro hb; (try simp only [hSQ] at hb); try (exfalso; omega)) <;> first | refine tG 14 ?_ | (first | refine pG 14 ?_ | refine pU 14 ?_))) <;> (first | refine tG 15 ?_ | (first | refine pG 15 ?_ | refine pU 15 ?_) | (refine va_caseG 15 rfl rfl rfl rfl rfl ?_ ?_ <;> (intro hb; (try simp only [hSQ] at hb); try (exfalso; omega)) <;> first | refine tG 15 ?_ | (first | refine pG 15 ?_ | refine pU 15 ?_))) <;> (first | refine tG 16 ?_ | (first | refine pG 16 ?_ | refine pU 16 ?_) | (refine va_caseG 16 rfl rfl rfl rfl rfl ?_ ?_ <;> (intro hb; (try simp only [hSQ] at hb); try (exfalso; omega)) <;> first | refine tG 16 ?_ | (first | refine pG 16 ?_ | refine pU 16 ?_))) <;> (refine tA 17 ?_) <;> (refine tA 18 ?_) <;> (first | refine tG 19 ?_ | (first | refine pG 19 ?_ | refine pU 19 ?_) | (refine va_caseG 19 rfl rfl rfl rfl rfl ?_ ?_ <;> (intro hb; (try simp only [hSQ] at hb); try (exfalso; omega)) <;> first | refine tG 19 ?_ | (first | refine pG 19 ?_ | refine pU 19 ?_))) <;> (first | refine tG 20 ?_ | (first | refine pG 20 ?_ | refine pU 20 ?_) | (refine va_caseG 20 rfl rfl rfl rfl rfl ?_ ?_ <;> (intro hb; (try simp only [hSQ] at hb); try (exfalso; omega)) <;> first | refine tG 20 ?_ | (first | refine pG 20 ?_ | refine pU 20 ?_))) <;> (first | refine tG 21 ?_ | (first | refine pG 21 ?_ | refine pU 21 ?_) | (refine va_caseG 21 rfl rfl rfl rfl rfl ?_ ?_ <;> (intro hb; (try simp only [hSQ] at hb); try (exfalso; omega)) <;> first | refine tG 21 ?_ | (first | refine pG 21 ?_ | refine pU 21 ?_))) <;> (refine tA 22 ?_) <;> (refine tA 23 ?_) <;> (first | refine tG 24 ?_ | (first | refine pG 24 ?_ | refine pU 24 ?_) | (refine va_caseG 24 rfl rfl rfl rfl rfl ?_ ?_ <;> (intro hb; (try simp only [hSQ] at hb); try (exfalso; omega)) <;> first | refine tG 24 ?_ | (first | refine pG 24 ?_ | refine pU 24 ?_))) <;> (first | refine tG 25 ?_ | (first | refine pG 25 ?_ | refine pU 25 ?_) | (refine va_caseG 25 rfl rfl rfl rfl rfl ?_ ?_ <;> (intro hb; (try simp only [hSQ] at hb); try (exfalso; omega)) <;> first | refine tG 25 ?_ | (first | refine pG 25 ?_ | refine pU 25 ?_))))
    all_goals first | (exfalso; omega) | skip
    all_goals refine pG 26 ?_
    all_goals skip
    all_goals refine pG 27 ?_
    all_goals ((first | refine tG 28 ?_ | refine pG 28 ?_ | (refine va_caseG 28 rfl rfl rfl rfl rfl ?_ ?_ <;> (intro hb; (try simp only [hSQ] at hb); try (exfalso; omega)) <;> first | refine tG 28 ?_ | refine pG 28 ?_)) <;> (refine tA 29 ?_) <;> (refine va_done (by kernel_rfl) ?_))
    repeat' (first | (refine go1 ?_; intros) | (refine goCC ?_ ?_ <;> (intro hb; (try simp only [hSQ] at hb); try (exfalso; omega))) | fail)
    all_goals exact ⟨L, sei _ _ L, rfl, rfl⟩
  by_cases a3 : r.code < 0
  · have hno : ¬ MayR r := fun hm => by have := hm.c0; omega
    rw [decide_eq_false hno]
    (refine v_draw0 [] (by kernel_rfl) ?_ <;> (refine tA 0 ?_) <;> (refine tA 1 ?_) <;> (refine tA 2 ?_) <;> (refine tA 3 ?_) <;> (first | refine tG 4 ?_ | (first | refine pG 4 ?_ | refine pU 4 ?_) | (refine va_caseG 4 rfl rfl rfl rfl rfl ?_ ?_ <;> (intro hb; (try simp only [hSQ] at hb); try (exfalso; omega)) <;> first | refine tG 4 ?_ | (first | refine pG 4 ?_ | refine pU 4 ?_))) <;> (first | refine tG 5 ?_ | (first | refine pG 5 ?_ | refine pU 5 ?_) | (refine va_caseG 5 rfl rfl rfl rfl rfl ?_ ?_ <;> (intro hb; (try simp only [hSQ] at hb); try (exfalso; omega)) <;> first | refine tG 5 ?_ | (first | refine pG 5 ?_ | refine pU 5 ?_))) <;> (first | refine tG 6 ?_ | (first | refine pG 6 ?_ | refine pU 6 ?_) | (refine va_caseG 6 rfl rfl rfl rfl rfl ?_ ?_ <;> (intro hb; (try simp only [hSQ] at hb); try (exfalso; omega)) <;> first | refine tG 6 ?_ | (first | refine pG 6 ?_ | refine pU 6 ?_))) <;> (first | refine tG 7 ?_ | (first | refine pG 7 ?_ | refine pU 7 ?_) | (refine va_caseG 7 rfl rfl rfl rfl rfl ?_ ?_ <;> (intro hb; (try simp only [hSQ] at hb); try (exfalso; omega)) <;> first | refine tG 7 ?_ | (first | refine pG 7 ?_ | refine pU 7 ?_))) <;> (first | refine tG 8 ?_ | (first | refine pG 8 ?_ | refine pU 8 ?_) | (refine va_caseG 8 rfl rfl rfl rfl rfl ?_ ?_ <;> (intro hb; (try simp only [hSQ] at hb); try (exfalso; omega)) <;> first | refine tG 8 ?_ | (first | refine pG 8 ?_ | refine pU 8 ?_))) <;> (first | refine tG 9 ?_ | (first | refine pG 9 ?_ | refine pU 9 ?_) | (refine va_caseG 9 rfl rfl rfl rfl rfl ?_ ?_ <;> (intro hb; (try simp only [hSQ] at hb); try (exfalso; omega)) <;> first | refine tG 9 ?_ | (first | refine pG 9 ?_ | refine pU 9 ?_))) <;> (first | refine tG 10 ?_ | (first | refine pG 10 ?_ | refine pU 10 ?_) | (refine va_caseG 10 rfl rfl rfl rfl rfl ?_ ?_ <;> (intro hb; (try simp only [hSQ] at hb); try (exfalso; omega)) <;> first | refine tG 10 ?_ | (first | refine pG 10 ?_ | refine pU 10 ?_))) <;> (first | refine tG 11 ?_ | (first | refine pG 11 ?_ | refine pU 11 ?_) | (refine va_caseG 11 rfl rfl rfl rfl rfl ?_ ?_ <;> (intro hb; (try simp only [hSQ] at hb); try (exfalso; omega)) <;> first | refine tG 11 ?_ | (first | refine pG 11 ?_ | refine pU 11 ?_))) <;> (refine tA 12 ?_) <;> (refine tA 13 ?_) <;> (first | refine tG 14 ?_ | (first | refine pG 14 ?_ | refine pU 14 ?_) | (refine va_caseG 14 rfl rfl rfl rfl rfl ?_ ?_ <;> (intro hb; (try simp only [hSQ] at hb); try (exfalso; omega)) <;> first | refine tG 14 ?_ | (first | refine pG 14 ?_ | refine pU 14 ?_))) <;> (first | refine tG 15 ?_ | (first | refine pG 15 ?_ | refine pU 15 ?_) | (refine va_caseG 15 rfl rfl rfl rfl rfl ?_ ?_ <;> (intro hb; (try simp only [hSQ] at hb); try (exfalso; omega)) <;> first | refine tG 15 ?_ | (first | refine pG 15 ?_ | refine pU 15 ?_))) <;> (first | refine tG 16 ?_ | (first | refine pG 16 ?_ | refine pU 16 ?_) | (refine va_caseG 16 rfl rfl rfl rfl rfl ?_ ?_ <;> (intro hb; (try simp only [hSQ] at hb); try (exfalso; omega)) <;> first | refine tG 16 ?_ | (first | refine pG 16 ?_ | refine pU 16 ?_))) <;> (refine tA 17 ?_) <;> (refine tA 18 ?_) <;> (first | refine tG 19 ?_ | (first | refine pG 19 ?_ | refine pU 19 ?_) | (refine va_caseG 19 rfl rfl rfl rfl rfl ?_ ?_ <;> (intro hb; (try simp only [hSQ] at hb); try (exfalso; omega)) <;> first | refine tG 19 ?_ | (first | refine pG 19 ?_ | refine pU 19 ?_))) <;> (first | refine tG 20 ?_ | (first | refine pG 20 ?_ | refine pU 20 ?_) | (refine va_caseG 20 rfl rfl rfl rfl rfl ?_ ?_ <;> (intro hb; (try simp only [hSQ] at hb); try (exfalso; omega)) <;> first | refine tG 20 ?_ | (first | refine pG 20 ?_ | refine pU 20 ?_))) <;> (first | refine tG 21 ?_ | (first | refine pG 21 ?_ | refine pU 21 ?_) | (refine va_caseG 21 rfl rfl rfl rfl rfl ?_ ?_ <;> (intro hb; (try simp only [hSQ] at hb); try (exfalso; omega)) <;> first | refine tG 21 ?_ | (first | refine pG 21 ?_ | refine pU 21 ?_))) <;> (refine tA 22 ?_) <;> (refine tA 23 ?_) <;> (first | refine tG 24 ?_ | (first | refine pG 24 ?_ | refine pU 24 ?_) | (refine va_caseG 24 rfl rfl rfl rfl rfl ?_ ?_ <;> (intro hb; (try simp only [hSQ] at hb); try (exfalso; omega)) <;> first | refine tG 24 ?_ | (first | refine pG 24 ?_ | refine pU 24 ?_))) <;> (first | refine tG 25 ?_ | (first | refine pG 25 ?_ | refine pU 25 ?_) | (refine va_caseG 25 rfl rfl rfl rfl rfl ?_ ?_ <;> (intro hb; (try simp only [hSQ] at hb); try (exfalso; omega)) <;> first | refine tG 25 ?_ | (first | refine pG 25 ?_ | refine pU 25 ?_))))
    all_goals first | (exfalso; omega) | skip
    all_goals refine pG 26 ?_
    all_goals skip
    all_goals refine pG 27 ?_
    all_goals ((first | refine tG 28 ?_ | refine pG 28 ?_ | (refine va_caseG 28 rfl rfl rfl rfl rfl ?_ ?_ <;> (intro hb; (try simp only [hSQ] at hb); try (exfalso; omega)) <;> first | refine tG 28 ?_ | refine pG 28 ?_)) <;> (refine tA 29 ?_) <;> (refine va_done (by kernel_rfl) ?_))
    repeat' (first | (refine go1 ?_; intros) | (refine goCC ?_ ?_ <;> (intro hb; (try simp only [hSQ] at hb); try (exfalso; omega))) | fail)
    all_goals exact ⟨L, sei _ _ L, rfl, rfl⟩
  by_cases a4 : 999 < r.code
  · have hno : ¬ MayR r := fun hm => by have := hm.c1; omega
    rw [decide_eq_false hno]
    (refine v_draw0 [] (by kernel_rfl) ?_ <;> (refine tA 0 ?_) <;> (refine tA 1 ?_) <;> (refine tA 2 ?_) <;> (refine tA 3 ?_) <;> (first | refine tG 4 ?_ | (first | refine pG 4 ?_ | refine pU 4 ?_) | (refine va_caseG 4 rfl rfl rfl rfl rfl ?_ ?_ <;> (intro hb; (try simp only [hSQ] at hb); try (exfalso; omega)) <;> first | refine tG 4 ?_ | (first | refine pG 4 ?_ | refine pU 4 ?_))) <;> (first | refine tG 5 ?_ | (first | refine pG 5 ?_ | refine pU 5 ?_) | (refine va_caseG 5 rfl rfl rfl rfl rfl ?_ ?_ <;> (intro hb; (try simp only [hSQ] at hb); try (exfalso; omega)) <;> first | refine tG 5 ?_ | (first | refine pG 5 ?_ | refine pU 5 ?_))) <;> (first | refine tG 6 ?_ | (first | refine pG 6 ?_ | refine pU 6 ?_) | (refine va_caseG 6 rfl rfl rfl rfl rfl ?_ ?_ <;> (intro hb; (try simp only [hSQ] at hb); try (exfalso; omega)) <;> first | refine tG 6 ?_ | (first | refine pG 6 ?_ | refine pU 6 ?_))) <;> (first | refine tG 7 ?_ | (first | refine pG 7 ?_ | refine pU 7 ?_) | (refine va_caseG 7 rfl rfl rfl rfl rfl ?_ ?_ <;> (intro hb; (try simp only [hSQ] at hb); try (exfalso; omega)) <;> first | refine tG 7 ?_ | (first | refine pG 7 ?_ | refine pU 7 ?_))) <;> (first | refine tG 8 ?_ | (first | refine pG 8 ?_ | refine pU 8 ?_) | (refine va_caseG 8 rfl rfl rfl rfl rfl ?_ ?_ <;> (intro hb; (try simp only [hSQ] at hb); try (exfalso; omega)) <;> first | refine tG 8 ?_ | (first | refine pG 8 ?_ | refine pU 8 ?_))) <;> (first | refine tG 9 ?_ | (first | refine pG 9 ?_ | refine pU 9 ?_) | (refine va_caseG 9 rfl rfl rfl rfl rfl ?_ ?_ <;> (intro hb; (try simp only [hSQ] at hb); try (exfalso; omega)) <;> first | refine tG 9 ?_ | (first | refine pG 9 ?_ | refine pU 9 ?_))) <;> (first | refine tG 10 ?_ | (first | refine pG 10 ?_ | refine pU 10 ?_) | (refine va_caseG 10 rfl rfl rfl rfl rfl ?_ ?_ <;> (intro hb; (try simp only [hSQ] at hb); try (exfalso; omega)) <;> first | refine tG 10 ?_ | (first | refine pG 10 ?_ | refine pU 10 ?_))) <;> (first | refine tG 11 ?_ | (first | refine pG 11 ?_ | refine pU 11 ?_) | (refine va_caseG 11 rfl rfl rfl rfl rfl ?_ ?_ <;> (intro hb; (try simp only [hSQ] at hb); try (exfalso; omega)) <;> first | refine tG 11 ?_ | (first | refine pG 11 ?_ | refine pU 11 ?_))) <;> (refine tA 12 ?_) <;> (refine tA 13 ?_) <;> (first | refine tG 14 ?_ | (first | refine pG 14 ?_ | refine pU 14 ?_) | (refine va_caseG 14 rfl rfl rfl rfl rfl ?_ ?_ <;> (intro hb; (try simp only [hSQ] at hb); try (exfalso; omega)) <;> first | refine tG 14 ?_ | (first | refine pG 14 ?_ | refine pU 14 ?_))) <;> (first | refine tG 15 ?_ | (first | refine pG 15 ?_ | refine pU 15 ?_) | (refine va_caseG 15 rfl rfl rfl rfl rfl ?_ ?_ <;> (intro hb; (try simp only [hSQ] at hb); try (exfalso; omega)) <;> first | refine tG 15 ?_ | (first | refine pG 15 ?_ | refine pU 15 ?_))) <;> (first | refine tG 16 ?_ | (first | refine pG 16 ?_ | refine pU 16 ?_) | (refine va_caseG 16 rfl rfl rfl rfl rfl ?_ ?_ <;> (intro hb; (try simp only [hSQ] at hb); try (exfalso; omega)) <;> first | refine tG 16 ?_ | (first | refine pG 16 ?_ | refine pU 16 ?_))) <;> (refine tA 17 ?_) <;> (refine tA 18 ?_) <;> (first | refine tG 19 ?_ | (first | refine pG 19 ?_ | refine pU 19 ?_) | (refine va_caseG 19 rfl rfl rfl rfl rfl ?_ ?_ <;> (intro hb; (try simp only [hSQ] at hb); try (exfalso; omega)) <;> first | refine tG 19 ?_ | (first | refine pG 19 ?_ | refine pU 19 ?_))) <;> (first | refine tG 20 ?_ | (first | refine pG 20 ?_ | refine pU 20 ?_) | (refine va_caseG 20 rfl rfl rfl rfl rfl ?_ ?_ <;> (intro hb; (try simp only [hSQ] at hb); try (exfalso; omega)) <;> first | refine tG 20 ?_ | (first | refine pG 20 ?_ | refine pU 20 ?_))) <;> (first | refine tG 21 ?_ | (first | refine pG 21 ?_ | refine pU 21 ?_) | (refine va_caseG 21 rfl rfl rfl rfl rfl ?_ ?_ <;> (intro hb; (try simp only [hSQ] at hb); try (exfalso; omega)) <;> first | refine tG 21 ?_ | (first | refine pG 21 ?_ | refine pU 21 ?_))) <;> (refine tA 22 ?_) <;> (refine tA 23 ?_) <;> (first | refine tG 24 ?_ | (first | refine pG 24 ?_ | refine pU 24 ?_) | (refine va_caseG 24 rfl rfl rfl rfl rfl ?_ ?_ <;> (intro hb; (try simp only [hSQ] at hb); try (exfalso; omega)) <;> first | refine tG 24 ?_ | (first | refine pG 24 ?_ | refine pU 24 ?_))) <;> (first | refine tG 25 ?_ | (first | refine pG 25 ?_ | refine pU 25 ?_) | (refine va_caseG 25 rfl rfl rfl rfl rfl ?_ ?_ <;> (intro hb; (try simp only [hSQ] at hb); try (exfalso; omega)) <;> first | refine tG 25 ?_ | (first | refine pG 25 ?_ | refine pU 25 ?_))))
    all_goals first | (exfalso; omega) | skip
    all_goals refine pG 26 ?_
    all_goals skip
    all_goals refine pG 27 ?_
    all_goals ((first | refine tG 28 ?_ | refine pG 28 ?_ | (refine va_caseG 28 rfl rfl rfl rfl rfl ?_ ?_ <;> (intro hb; (try simp only [hSQ] at hb); try (exfalso; omega)) <;> first | refine tG 28 ?_ | refine pG 28 ?_)) <;> (refine tA 29 ?_) <;> (refine va_done (by kernel_rfl) ?_))
    repeat' (first | (refine go1 ?_; intros) | (refine goCC ?_ ?_ <;> (intro hb; (try simp only [hSQ] at hb); try (exfalso; omega))) | fail)
    all_goals exact ⟨L, sei _ _ L, rfl, rfl⟩
  have hel := Evt.len h.hd
  haveI hoe : OC r.ev.cells := oc_evt _
  have hrl := Rec.len h.rc
  haveI hor : OC r.rc.cells := oc_rec _
  have hpl := Prf.len h.prf
  haveI hop : OC r.prf.cells := oc_prf _
  have e0 := Evt.f0 r.ev
  have e2 := Evt.f2 h.hd
  have hbs : r.same (bareQ r) ↔ r.at0 = bareR r := by rw [same_at0, bareQ_at0]
  have okq := bareQ_ok h
  haveI i1 : ∀ M [RdC w0 M r.prf.va (bvs r.prf.vl)], RdC w0 M (bareQ r).prf.va (bvs (bareQ r).prf.vl) := fun M hM => by
    rcases bareQ_prf r with e | e
    · rw [e]; exact rdC_nil _ _ _
    · rw [e]; exact hM
  haveI i2 : ∀ M [RdC w0 M r.prf.pa (bvs r.prf.pl.flatten)], RdC w0 M (bareQ r).prf.pa (bvs (bareQ r).prf.pl.flatten) := fun M hM => by
    rcases bareQ_prf r with e | e
    · rw [e]; exact rdC_nil _ _ _
    · rw [e]; exact hM
  have hql := Rp.len okq
  haveI hoq : OC (bareQ r).cells := oc_rp _
  rename_i g1
  refine v_cut Unit [1] rfl (fun _ => [(33, .bool (!decide (r.same (bareQ r))))]) (fun _ => blk g1 41 cs :: L) ?_ (fun _ => ?_)
  · by_cases kz : r.kind.toNat = 0
    · (refine v_draw0 [] (by kernel_rfl) ?_ <;> (refine tA 0 ?_) <;> (refine tA 1 ?_) <;> (refine tA 2 ?_) <;> (refine tA 3 ?_) <;> (first | refine tG 4 ?_ | (first | refine pG 4 ?_ | refine pU 4 ?_) | (refine va_caseG 4 rfl rfl rfl rfl rfl ?_ ?_ <;> (intro hb; (try simp only [hSQ] at hb); try (exfalso; omega)) <;> first | refine tG 4 ?_ | (first | refine pG 4 ?_ | refine pU 4 ?_))) <;> (first | refine tG 5 ?_ | (first | refine pG 5 ?_ | refine pU 5 ?_) | (refine va_caseG 5 rfl rfl rfl rfl rfl ?_ ?_ <;> (intro hb; (try simp only [hSQ] at hb); try (exfalso; omega)) <;> first | refine tG 5 ?_ | (first | refine pG 5 ?_ | refine pU 5 ?_))) <;> (first | refine tG 6 ?_ | (first | refine pG 6 ?_ | refine pU 6 ?_) | (refine va_caseG 6 rfl rfl rfl rfl rfl ?_ ?_ <;> (intro hb; (try simp only [hSQ] at hb); try (exfalso; omega)) <;> first | refine tG 6 ?_ | (first | refine pG 6 ?_ | refine pU 6 ?_))) <;> (first | refine tG 7 ?_ | (first | refine pG 7 ?_ | refine pU 7 ?_) | (refine va_caseG 7 rfl rfl rfl rfl rfl ?_ ?_ <;> (intro hb; (try simp only [hSQ] at hb); try (exfalso; omega)) <;> first | refine tG 7 ?_ | (first | refine pG 7 ?_ | refine pU 7 ?_))) <;> (first | refine tG 8 ?_ | (first | refine pG 8 ?_ | refine pU 8 ?_) | (refine va_caseG 8 rfl rfl rfl rfl rfl ?_ ?_ <;> (intro hb; (try simp only [hSQ] at hb); try (exfalso; omega)) <;> first | refine tG 8 ?_ | (first | refine pG 8 ?_ | refine pU 8 ?_))) <;> (first | refine tG 9 ?_ | (first | refine pG 9 ?_ | refine pU 9 ?_) | (refine va_caseG 9 rfl rfl rfl rfl rfl ?_ ?_ <;> (intro hb; (try simp only [hSQ] at hb); try (exfalso; omega)) <;> first | refine tG 9 ?_ | (first | refine pG 9 ?_ | refine pU 9 ?_))) <;> (first | refine tG 10 ?_ | (first | refine pG 10 ?_ | refine pU 10 ?_) | (refine va_caseG 10 rfl rfl rfl rfl rfl ?_ ?_ <;> (intro hb; (try simp only [hSQ] at hb); try (exfalso; omega)) <;> first | refine tG 10 ?_ | (first | refine pG 10 ?_ | refine pU 10 ?_))) <;> (first | refine tG 11 ?_ | (first | refine pG 11 ?_ | refine pU 11 ?_) | (refine va_caseG 11 rfl rfl rfl rfl rfl ?_ ?_ <;> (intro hb; (try simp only [hSQ] at hb); try (exfalso; omega)) <;> first | refine tG 11 ?_ | (first | refine pG 11 ?_ | refine pU 11 ?_))) <;> (refine tA 12 ?_) <;> (refine tA 13 ?_) <;> (first | refine tG 14 ?_ | (first | refine pG 14 ?_ | refine pU 14 ?_) | (refine va_caseG 14 rfl rfl rfl rfl rfl ?_ ?_ <;> (intro hb; (try simp only [hSQ] at hb); try (exfalso; omega)) <;> first | refine tG 14 ?_ | (first | refine pG 14 ?_ | refine pU 14 ?_))) <;> (first | refine tG 15 ?_ | (first | refine pG 15 ?_ | refine pU 15 ?_) | (refine va_caseG 15 rfl rfl rfl rfl rfl ?_ ?_ <;> (intro hb; (try simp only [hSQ] at hb); try (exfalso; omega)) <;> first | refine tG 15 ?_ | (first | refine pG 15 ?_ | refine pU 15 ?_))) <;> (first | refine tG 16 ?_ | (first | refine pG 16 ?_ | refine pU 16 ?_) | (refine va_caseG 16 rfl rfl rfl rfl rfl ?_ ?_ <;> (intro hb; (try simp only [hSQ] at hb); try (exfalso; omega)) <;> first | refine tG 16 ?_ | (first | refine pG 16 ?_ | refine pU 16 ?_))) <;> (refine tA 17 ?_) <;> (refine tA 18 ?_) <;> (first | refine tG 19 ?_ | (first | refine pG 19 ?_ | refine pU 19 ?_) | (refine va_caseG 19 rfl rfl rfl rfl rfl ?_ ?_ <;> (intro hb; (try simp only [hSQ] at hb); try (exfalso; omega)) <;> first | refine tG 19 ?_ | (first | refine pG 19 ?_ | refine pU 19 ?_))) <;> (first | refine tG 20 ?_ | (first | refine pG 20 ?_ | refine pU 20 ?_) | (refine va_caseG 20 rfl rfl rfl rfl rfl ?_ ?_ <;> (intro hb; (try simp only [hSQ] at hb); try (exfalso; omega)) <;> first | refine tG 20 ?_ | (first | refine pG 20 ?_ | refine pU 20 ?_))) <;> (first | refine tG 21 ?_ | (first | refine pG 21 ?_ | refine pU 21 ?_) | (refine va_caseG 21 rfl rfl rfl rfl rfl ?_ ?_ <;> (intro hb; (try simp only [hSQ] at hb); try (exfalso; omega)) <;> first | refine tG 21 ?_ | (first | refine pG 21 ?_ | refine pU 21 ?_))) <;> (refine tA 22 ?_) <;> (refine tA 23 ?_) <;> (first | refine tG 24 ?_ | (first | refine pG 24 ?_ | refine pU 24 ?_) | (refine va_caseG 24 rfl rfl rfl rfl rfl ?_ ?_ <;> (intro hb; (try simp only [hSQ] at hb); try (exfalso; omega)) <;> first | refine tG 24 ?_ | (first | refine pG 24 ?_ | refine pU 24 ?_))) <;> (first | refine tG 25 ?_ | (first | refine pG 25 ?_ | refine pU 25 ?_) | (refine va_caseG 25 rfl rfl rfl rfl rfl ?_ ?_ <;> (intro hb; (try simp only [hSQ] at hb); try (exfalso; omega)) <;> first | refine tG 25 ?_ | (first | refine pG 25 ?_ | refine pU 25 ?_))))
      all_goals first | (exfalso; omega) | skip
      first | refine va_oneG 26 (by kernel_rfl) rfl rfl rfl rfl rfl rfl (vo_call rfl rfl ?_) | refine va_oneG 26 (by kernel_rfl) rfl rfl rfl rfl rfl rfl (vo_callV rfl rfl rfl ?_)
      rw [hcs]
      refine vc_mono (rbare22_vc w0 _ r h) ?_
      rintro v L' ⟨rfl, rfl⟩
      rw [← hcs]
      refine ⟨.inr entD, ?_⟩
      skip
      first | refine va_oneG 27 (by kernel_rfl) rfl rfl rfl rfl rfl rfl (vo_call rfl rfl ?_) | refine va_oneG 27 (by kernel_rfl) rfl rfl rfl rfl rfl rfl (vo_callV rfl rfl rfl ?_)
      rw [hcs]
      refine vc_mono (rsame22_vc w0 _ r (bareQ r) h okq) ?_
      rintro v L' ⟨rfl, rfl⟩
      rw [← hcs]
      refine ⟨.inr entD, ?_⟩
      ((first | refine tG 28 ?_ | refine pG 28 ?_ | (refine va_caseG 28 rfl rfl rfl rfl rfl ?_ ?_ <;> (intro hb; (try simp only [hSQ] at hb); try (exfalso; omega)) <;> first | refine tG 28 ?_ | refine pG 28 ?_)) <;> (refine tA 29 ?_) <;> (refine va_done (by kernel_rfl) ?_))
      cases decide (r.same (bareQ r))
      all_goals
        repeat' (first | (refine go1 ?_; intros) | (refine goCC ?_ ?_ <;> (intro hb; (try simp only [hSQ] at hb); try (exfalso; omega))) | fail)
        exact ⟨rfl, (), by (exact sbS), sei _ _ _⟩
    (refine v_draw0 [] (by kernel_rfl) ?_ <;> (refine tA 0 ?_) <;> (refine tA 1 ?_) <;> (refine tA 2 ?_) <;> (refine tA 3 ?_) <;> (first | refine tG 4 ?_ | (first | refine pG 4 ?_ | refine pU 4 ?_) | (refine va_caseG 4 rfl rfl rfl rfl rfl ?_ ?_ <;> (intro hb; (try simp only [hSQ] at hb); try (exfalso; omega)) <;> first | refine tG 4 ?_ | (first | refine pG 4 ?_ | refine pU 4 ?_))) <;> (first | refine tG 5 ?_ | (first | refine pG 5 ?_ | refine pU 5 ?_) | (refine va_caseG 5 rfl rfl rfl rfl rfl ?_ ?_ <;> (intro hb; (try simp only [hSQ] at hb); try (exfalso; omega)) <;> first | refine tG 5 ?_ | (first | refine pG 5 ?_ | refine pU 5 ?_))) <;> (first | refine tG 6 ?_ | (first | refine pG 6 ?_ | refine pU 6 ?_) | (refine va_caseG 6 rfl rfl rfl rfl rfl ?_ ?_ <;> (intro hb; (try simp only [hSQ] at hb); try (exfalso; omega)) <;> first | refine tG 6 ?_ | (first | refine pG 6 ?_ | refine pU 6 ?_))) <;> (first | refine tG 7 ?_ | (first | refine pG 7 ?_ | refine pU 7 ?_) | (refine va_caseG 7 rfl rfl rfl rfl rfl ?_ ?_ <;> (intro hb; (try simp only [hSQ] at hb); try (exfalso; omega)) <;> first | refine tG 7 ?_ | (first | refine pG 7 ?_ | refine pU 7 ?_))) <;> (first | refine tG 8 ?_ | (first | refine pG 8 ?_ | refine pU 8 ?_) | (refine va_caseG 8 rfl rfl rfl rfl rfl ?_ ?_ <;> (intro hb; (try simp only [hSQ] at hb); try (exfalso; omega)) <;> first | refine tG 8 ?_ | (first | refine pG 8 ?_ | refine pU 8 ?_))) <;> (first | refine tG 9 ?_ | (first | refine pG 9 ?_ | refine pU 9 ?_) | (refine va_caseG 9 rfl rfl rfl rfl rfl ?_ ?_ <;> (intro hb; (try simp only [hSQ] at hb); try (exfalso; omega)) <;> first | refine tG 9 ?_ | (first | refine pG 9 ?_ | refine pU 9 ?_))) <;> (first | refine tG 10 ?_ | (first | refine pG 10 ?_ | refine pU 10 ?_) | (refine va_caseG 10 rfl rfl rfl rfl rfl ?_ ?_ <;> (intro hb; (try simp only [hSQ] at hb); try (exfalso; omega)) <;> first | refine tG 10 ?_ | (first | refine pG 10 ?_ | refine pU 10 ?_))) <;> (first | refine tG 11 ?_ | (first | refine pG 11 ?_ | refine pU 11 ?_) | (refine va_caseG 11 rfl rfl rfl rfl rfl ?_ ?_ <;> (intro hb; (try simp only [hSQ] at hb); try (exfalso; omega)) <;> first | refine tG 11 ?_ | (first | refine pG 11 ?_ | refine pU 11 ?_))) <;> (refine tA 12 ?_) <;> (refine tA 13 ?_) <;> (first | refine tG 14 ?_ | (first | refine pG 14 ?_ | refine pU 14 ?_) | (refine va_caseG 14 rfl rfl rfl rfl rfl ?_ ?_ <;> (intro hb; (try simp only [hSQ] at hb); try (exfalso; omega)) <;> first | refine tG 14 ?_ | (first | refine pG 14 ?_ | refine pU 14 ?_))) <;> (first | refine tG 15 ?_ | (first | refine pG 15 ?_ | refine pU 15 ?_) | (refine va_caseG 15 rfl rfl rfl rfl rfl ?_ ?_ <;> (intro hb; (try simp only [hSQ] at hb); try (exfalso; omega)) <;> first | refine tG 15 ?_ | (first | refine pG 15 ?_ | refine pU 15 ?_))) <;> (first | refine tG 16 ?_ | (first | refine pG 16 ?_ | refine pU 16 ?_) | (refine va_caseG 16 rfl rfl rfl rfl rfl ?_ ?_ <;> (intro hb; (try simp only [hSQ] at hb); try (exfalso; omega)) <;> first | refine tG 16 ?_ | (first | refine pG 16 ?_ | refine pU 16 ?_))) <;> (refine tA 17 ?_) <;> (refine tA 18 ?_) <;> (first | refine tG 19 ?_ | (first | refine pG 19 ?_ | refine pU 19 ?_) | (refine va_caseG 19 rfl rfl rfl rfl rfl ?_ ?_ <;> (intro hb; (try simp only [hSQ] at hb); try (exfalso; omega)) <;> first | refine tG 19 ?_ | (first | refine pG 19 ?_ | refine pU 19 ?_))) <;> (first | refine tG 20 ?_ | (first | refine pG 20 ?_ | refine pU 20 ?_) | (refine va_caseG 20 rfl rfl rfl rfl rfl ?_ ?_ <;> (intro hb; (try simp only [hSQ] at hb); try (exfalso; omega)) <;> first | refine tG 20 ?_ | (first | refine pG 20 ?_ | refine pU 20 ?_))) <;> (first | refine tG 21 ?_ | (first | refine pG 21 ?_ | refine pU 21 ?_) | (refine va_caseG 21 rfl rfl rfl rfl rfl ?_ ?_ <;> (intro hb; (try simp only [hSQ] at hb); try (exfalso; omega)) <;> first | refine tG 21 ?_ | (first | refine pG 21 ?_ | refine pU 21 ?_))) <;> (refine tA 22 ?_) <;> (refine tA 23 ?_) <;> (first | refine tG 24 ?_ | (first | refine pG 24 ?_ | refine pU 24 ?_) | (refine va_caseG 24 rfl rfl rfl rfl rfl ?_ ?_ <;> (intro hb; (try simp only [hSQ] at hb); try (exfalso; omega)) <;> first | refine tG 24 ?_ | (first | refine pG 24 ?_ | refine pU 24 ?_))) <;> (first | refine tG 25 ?_ | (first | refine pG 25 ?_ | refine pU 25 ?_) | (refine va_caseG 25 rfl rfl rfl rfl rfl ?_ ?_ <;> (intro hb; (try simp only [hSQ] at hb); try (exfalso; omega)) <;> first | refine tG 25 ?_ | (first | refine pG 25 ?_ | refine pU 25 ?_))))
    all_goals first | (exfalso; omega) | skip
    first | refine va_oneG 26 (by kernel_rfl) rfl rfl rfl rfl rfl rfl (vo_call rfl rfl ?_) | refine va_oneG 26 (by kernel_rfl) rfl rfl rfl rfl rfl rfl (vo_callV rfl rfl rfl ?_)
    rw [hcs]
    refine vc_mono (rbare22_vc w0 _ r h) ?_
    rintro v L' ⟨rfl, rfl⟩
    rw [← hcs]
    refine ⟨.inr entD, ?_⟩
    skip
    first | refine va_oneG 27 (by kernel_rfl) rfl rfl rfl rfl rfl rfl (vo_call rfl rfl ?_) | refine va_oneG 27 (by kernel_rfl) rfl rfl rfl rfl rfl rfl (vo_callV rfl rfl rfl ?_)
    rw [hcs]
    refine vc_mono (rsame22_vc w0 _ r (bareQ r) h okq) ?_
    rintro v L' ⟨rfl, rfl⟩
    rw [← hcs]
    refine ⟨.inr entD, ?_⟩
    ((first | refine tG 28 ?_ | refine pG 28 ?_ | (refine va_caseG 28 rfl rfl rfl rfl rfl ?_ ?_ <;> (intro hb; (try simp only [hSQ] at hb); try (exfalso; omega)) <;> first | refine tG 28 ?_ | refine pG 28 ?_)) <;> (refine tA 29 ?_) <;> (refine va_done (by kernel_rfl) ?_))
    cases decide (r.same (bareQ r))
    all_goals
      repeat' (first | (refine go1 ?_; intros) | (refine goCC ?_ ?_ <;> (intro hb; (try simp only [hSQ] at hb); try (exfalso; omega))) | fail)
      exact ⟨rfl, (), by (exact sbS), sei _ _ _⟩
  by_cases hs : r.same (bareQ r)
  rotate_left
  · rw [decide_eq_false hs]
    repeat' (first | (refine go1 ?_; intros) | (refine goCC ?_ ?_ <;> (intro hb; (try simp only [hSQ] at hb); try (exfalso; omega))) | fail)
    exact ⟨L, sei _ _ L, congrArg Value.bool (decide_eq_false (p := MayR r) (fun hm => hs (hbs.2 hm.bare))).symm, rfl⟩
  rw [decide_eq_true hs]
  have hbr := hbs.1 hs
  refine v_condF rfl ?_
  refine v_skip ?_
  refine thn_n ?_
  refine v_seq ?_
  refine v_seq ?_
  refine v_cut Unit [1] rfl (fun _ => [(51, .bool (!decide ((0 ≤ r.height ∧ r.height ≤ 1073741824) ∧ 0 ≤ r.sub ∧ r.sub < 1073741824)))]) (fun _ => blk g1 41 cs :: L) ?_ (fun _ => ?_)
  · have hsub : (0 ≤ r.height ∧ r.height ≤ 1073741824 ∧ 0 ≤ r.sub) → (!decide ((0 ≤ r.height ∧ r.height ≤ 1073741824) ∧ 0 ≤ r.sub ∧ r.sub < 1073741824)) = decide (1073741824 ≤ r.sub) := fun hx => by
      by_cases q : 1073741824 ≤ r.sub
      · rw [decide_eq_true q, decide_eq_false (by omega)]
        rfl
      · rw [decide_eq_false q, decide_eq_true (by omega)]
        rfl
    repeat' (first | (refine go1 ?_; intros) | (refine goCC ?_ ?_ <;> (intro hb; (try simp only [hSQ] at hb); try (exfalso; omega))) | fail)
    all_goals refine ⟨rfl, (), ?_, sei _ _ _⟩
    all_goals first | rw [decide_eq_false (by omega)] | rw [hsub (by omega)]
    all_goals (exact sbS)
  by_cases hr1 : (0 ≤ r.height ∧ r.height ≤ 1073741824) ∧ 0 ≤ r.sub ∧ r.sub < 1073741824
  rotate_left
  · rw [decide_eq_false hr1]
    repeat' (first | (refine go1 ?_; intros) | (refine goCC ?_ ?_ <;> (intro hb; (try simp only [hSQ] at hb); try (exfalso; omega))) | fail)
    exact ⟨L, sei _ _ L, congrArg Value.bool (decide_eq_false (p := MayR r) (fun hm => hr1 ⟨⟨hm.h0, hm.h1⟩, hm.s0, hm.s1⟩)).symm, rfl⟩
  rw [decide_eq_true hr1]
  refine v_condF rfl ?_
  refine v_skip ?_
  refine thn_n ?_
  refine v_seq ?_
  refine v_seq ?_
  refine v_cut Unit [1] rfl (fun _ => [(81, .bool (!decide ((r.code = 0 → r.kind.toNat = 3 → r.rc.may = true) ∧ (r.code = 0 → r.kind.toNat = 4 → r.prf.may = true))))]) (fun _ => blk g1 41 cs :: L) ?_ (fun _ => ?_)
  · by_cases hc0 : r.code = 0
    rotate_left
    · repeat' (first | (refine goU ?_; intros) | (refine goCC ?_ ?_ <;> (intro hb; (try simp only [hSQ] at hb); try (exfalso; omega))) | fail)
      exact ⟨rfl, (), by rw [decide_eq_true ⟨fun e => absurd e hc0, fun e => absurd e hc0⟩]; (exact sbS), sei _ _ _⟩
    by_cases hk3 : r.kind.toNat = 3
    · repeat' (first | (refine goU ?_; intros) | (refine goCC ?_ ?_ <;> (intro hb; (try simp only [hSQ] at hb); try (exfalso; omega))) | fail)
      refine clV ?_
      refine vc_mono (rrMay_vc w0 _ r.rc h.rc) ?_
      rintro v L' ⟨rfl, rfl⟩
      cases hm3 : r.rc.may
      · repeat' (first | (refine goU ?_; intros) | (refine goCC ?_ ?_ <;> (intro hb; (try simp only [hSQ] at hb); try (exfalso; omega))) | fail)
        exact ⟨rfl, (), by rw [decide_eq_false (fun e => absurd (e.1 hc0 hk3) (by simp))]; (exact sbS), sei _ _ _⟩
      repeat' (first | (refine goU ?_; intros) | (refine goCC ?_ ?_ <;> (intro hb; (try simp only [hSQ] at hb); try (exfalso; omega))) | fail)
      exact ⟨rfl, (), by rw [decide_eq_true ⟨fun _ _ => rfl, fun _ e => by omega⟩]; (exact sbS), sei _ _ _⟩
    by_cases hk4 : r.kind.toNat = 4
    · repeat' (first | (refine goU ?_; intros) | (refine goCC ?_ ?_ <;> (intro hb; (try simp only [hSQ] at hb); try (exfalso; omega))) | fail)
      refine clV ?_
      refine vc_mono (may_vc w0 _ r.prf h.prf) ?_
      rintro v L' ⟨rfl, rfl⟩
      cases hm4 : r.prf.may
      · repeat' (first | (refine goU ?_; intros) | (refine goCC ?_ ?_ <;> (intro hb; (try simp only [hSQ] at hb); try (exfalso; omega))) | fail)
        exact ⟨rfl, (), by rw [decide_eq_false (fun e => absurd (e.2 hc0 hk4) (by simp))]; (exact sbS), sei _ _ _⟩
      repeat' (first | (refine goU ?_; intros) | (refine goCC ?_ ?_ <;> (intro hb; (try simp only [hSQ] at hb); try (exfalso; omega))) | fail)
      exact ⟨rfl, (), by rw [decide_eq_true ⟨fun _ e => by omega, fun _ _ => rfl⟩]; (exact sbS), sei _ _ _⟩
    repeat' (first | (refine goU ?_; intros) | (refine goCC ?_ ?_ <;> (intro hb; (try simp only [hSQ] at hb); try (exfalso; omega))) | fail)
    exact ⟨rfl, (), by rw [decide_eq_true ⟨fun _ e => by omega, fun _ e => by omega⟩]; (exact sbS), sei _ _ _⟩
  by_cases hr2 : (r.code = 0 → r.kind.toNat = 3 → r.rc.may = true) ∧ (r.code = 0 → r.kind.toNat = 4 → r.prf.may = true)
  rotate_left
  · rw [decide_eq_false hr2]
    repeat' (first | (refine goU ?_; intros) | (refine goCC ?_ ?_ <;> (intro hb; (try simp only [hSQ] at hb); try (exfalso; omega))) | fail)
    exact ⟨L, sei _ _ L, congrArg Value.bool (decide_eq_false (p := MayR r) (fun hm => hr2 ⟨hm.rc, hm.prf⟩)).symm, rfl⟩
  rw [decide_eq_true hr2]
  obtain ⟨hrc, hprf⟩ := hr2
  have efit := Evt.fits h.hd
  have e0fit := Evt.fits (e := ev0) hd0_ok
  have einj := Evt.inj (b := ev0) h.hd hd0_ok
  have hhl := Hd.len h.hd
  haveI hoh : OC r.ev.hd.cells := oc_hd _
  obtain ⟨es, hes⟩ : ∃ es, es = r.ev.cells := ⟨_, rfl⟩
  rw [← hes] at hel hoe e0 e2 fe efit einj
  repeat' (first | (refine goU ?_; intros) | (refine goCC ?_ ?_ <;> (intro hb; (try simp only [hSQ] at hb); try (exfalso; omega))) | fail)
  all_goals first | (refine ⟨L, sei _ _ L, congrArg Value.bool (decide_eq_false (p := MayR r) (fun hm => ?_)).symm, rfl⟩; have q5 := hm.n0; have q6 := hm.n1; omega) | skip
  refine clV ?_
  refine vc_mono (rmay_vc w0 _ r.ev.hd h.hd) ?_
  rintro v L' ⟨rfl, rfl⟩
  cases hmh : r.ev.hd.may
  · repeat' (first | (refine goU ?_; intros) | (refine goCC ?_ ?_ <;> (intro hb; (try simp only [hSQ] at hb); try (exfalso; omega))) | fail)
    exact ⟨L, sei _ _ L, congrArg Value.bool (decide_eq_false (p := MayR r) (fun hm => by have := hm.hd; rw [hmh] at this; cases this)).symm, rfl⟩
  cases hg : r.gap
  · rw [hg] at fg
    repeat' (first | (refine goU ?_; intros) | (refine goCC ?_ ?_ <;> (intro hb; (try simp only [hSQ] at hb); try (exfalso; omega))) | fail)
    exact ⟨L, sei _ _ L, congrArg Value.bool (decide_eq_true (p := MayR r) ⟨by omega, by omega, by omega, by omega, hbr, by omega, by omega, by omega, by omega, hrc, hprf, by omega, by omega, hmh, fun e => by rw [hg] at e; cases e⟩).symm, rfl⟩
  rw [hg] at fg
  repeat' (first | (refine goU ?_; intros) | (refine goCC ?_ ?_ <;> (intro hb; (try simp only [hSQ] at hb); try (exfalso; omega))) | fail)
  refine vl_q rfl rfl rfl rfl (vq_eqCells rfl rfl efit e0fit einj) ?_
  repeat' (first | (refine goU ?_; intros) | (refine goCC ?_ ?_ <;> (intro hb; (try simp only [hSQ] at hb); try (exfalso; omega))) | fail)
  refine ⟨L, sei _ _ L, congrArg Value.bool (decide_eq_decide.2 ⟨fun e => ?_, fun hm => hm.gap hg⟩), rfl⟩
  exact ⟨by omega, by omega, by omega, by omega, hbr, by omega, by omega, by omega, by omega, hrc, hprf, by omega, by omega, hmh, fun _ => e⟩
end Go.Proofs.Ytgffejpcldeklaa
namespace Go.Proofs.Ytgffejpcldeklaa
open Go Go.RowKit
open Classical

theorem rflag22_vc (w0 : World) (L : List Asn) (b : Bool) :
    VC Try.prog w0 57 [.bool b] L fun v L' => v = .int .u8 ((fl b).toNat : Int) ∧ L' = L := by
  refine vc_ent ?_
  refine vc_in rfl rfl ?_
  cases b
  all_goals
    repeat' (first | (refine go1 ?_; intros) | (refine goCC ?_ ?_ <;> (intro hb; (try simp only [hSQ] at hb); try (exfalso; omega))) | fail)
    exact ⟨L, Ent.refl _ _, rfl, rfl⟩
theorem raccB_vc (w0 : World) (L : List Asn) (m b : Nat) (hm : m < 18446744073709551616) (hb : b < 18446744073709551616) :
    VC Try.prog w0 54 [.agg #[.int .u64 m, .int .u64 b]] L fun v L' => ∃ a c, v = .slice a (accB m b).length c ∧ L' = ownB a c (accB m b) :: L := by
  have d1 := digs_length m 8
  have d2 := digs_length b 8
  unfold accB
  refine vc_ent ?_
  refine vc_in rfl rfl ?_
  repeat' (first | (refine go1 ?_; intros) | (refine goCC ?_ ?_ <;> (intro hb; (try simp only [hSQ] at hb); try (exfalso; omega))) | fail)
  refine clV ?_
  refine vc_mono (digits_vc w0 _ m 8 (by decide) (by decide) hm) ?_
  rintro v L' ⟨a1, c1, b1, rfl, rfl⟩
  repeat' (first | (refine go1 ?_; intros) | (refine goCC ?_ ?_ <;> (intro hb; (try simp only [hSQ] at hb); try (exfalso; omega))) | fail)
  refine clV ?_
  refine vc_mono (digits_vc w0 _ b 8 (by decide) (by decide) hb) ?_
  rintro v L' ⟨a2, c2, b2, rfl, rfl⟩
  generalize digs m 8 = X at *
  generalize digs b 8 = Y at *
  rw [← d1]
  repeat' (first | (refine go1 ?_; intros) | (refine goCC ?_ ?_ <;> (intro hb; (try simp only [hSQ] at hb); try (exfalso; omega))) | fail)
  rename_i a3 c3 _ _
  refine ⟨ownB a3 c3 (X ++ Y) :: L, ?_, a3, c3, by rw [List.length_append, d2, d1], rfl⟩
  rw [own_app a3 c3 X Y X.length (by omega)]
  exact sei _ _ _
theorem rdg14_vc (w0 : World) (L : List Asn) (a : Option Addr) (c : Nat) (b : List UInt8) (i : Nat) {n : Nat} (hn : n = b.length) (hi : i + 32 ≤ b.length) (hl : b.length ≤ 1000000) [hr : RdC w0 L a (bvs b)] :
    VC Try.prog w0 65 [.slice a n c, .int .i64 i] L fun v L' => v = .agg (bvs ((b.drop i).take 32)).toArray ∧ L' = L := by
  subst hn
  obtain ⟨D, hD⟩ : ∃ D, D = (b.drop i).take 32 := ⟨_, rfl⟩
  have hDl : D.length = 32 := by rw [hD]; simp; omega
  rw [← hD]
  refine vc_ent ?_
  refine vc_in rfl rfl ?_
  repeat' (first | (refine go1 ?_; intros) | (refine goCC ?_ ?_ <;> (intro hb; (try simp only [hSQ] at hb); try (exfalso; omega))) | fail)
  rename_i g4 g5
  refine v_loopF Nat [0, 1, 4, 5] rfl (fun j => [(6, .int .i64 j)]) (fun _ j => blk g5 24 (bvs (idM D j)) :: blk g4 24 (bvs (List.replicate 32 0)) :: L) (fun j => j ≤ 32) (fun j => 32 - j) 0 (Nat.zero_le _) (by (exact sbS)) ?_ ?_
  · rw [idM_0]
    exact Ent.refl _ _
  intro j hj
  have hjw := idM_length D hDl j hj
  by_cases hlt : j < 32
  · have hg := bvs_at b (i + j) (by omega)
    have hbp : 0 < (bvs b).length := by rw [bvs_length]; omega
    have hst := idM_set D hDl j hlt
    have e1 : b[i + j]'(by omega) = D[j]'(by omega) := by simp only [hD, List.getElem_take, List.getElem_drop]
    have hsp : splice (bvs (idM D j)) (0 + j) [.int .u8 (b[i + j]'(by omega)).toNat] = bvs (idM D (j + 1)) := by
      rw [Nat.zero_add, splice_b _ _ (by omega), e1, hst]
    have hcl : (bvs (idM D j)).length = 32 := by rw [bvs_length]; exact hjw
    generalize bvs (idM D j) = cs at *
    repeat' (first | (refine go1 ?_; intros) | (refine goCC ?_ ?_ <;> (intro hb; (try simp only [hSQ] at hb); try (exfalso; omega))) | fail)
    rw [hsp]
    exact ⟨rfl, j + 1, by omega, by omega, by (exact sbS), Ent.refl _ _⟩
  · obtain rfl : j = 32 := by omega
    rw [idM_all D hDl] at hjw ⊢
    repeat' (first | (refine go1 ?_; intros) | (refine goCC ?_ ?_ <;> (intro hb; (try simp only [hSQ] at hb); try (exfalso; omega))) | fail)
    all_goals first | (exfalso; omega) | exact ⟨L, sei _ _ _, rfl, rfl⟩
theorem rhRead_vc (w0 : World) (L : List Asn) (a : Option Addr) (cap : Nat) (l : List UInt8) {n : Nat} (hn : n = l.length) (hcap : l.length ≤ cap) (hl : l.length ≤ 1000000) [hr : RdC w0 L a (bvs l)] :
    VC Try.prog w0 29 [.slice a n cap] L fun v L' => v = .tuple #[.agg (hdRead l).1.cells.toArray, .int .i64 (hdRead l).2] ∧ L' = L := by
  subst hn
  have hzlen := Hd.len hd0_ok
  refine vc_ent ?_
  refine vc_in rfl rfl ?_
  by_cases h1 : l.length < 108
  · have e : hdRead l = (hd0, 10) := by simp [hdRead, h1]
    rw [e]
    repeat' (first | (refine go1 ?_; intros) | (refine goCC ?_ ?_ <;> (intro hb; (try simp only [hSQ] at hb); try (exfalso; omega))) | fail)
    all_goals exact ⟨_, (se_drop _ _).ent w0, rfl, rfl⟩
  by_cases h2 : 108 < l.length
  · have e : hdRead l = (hd0, 11) := by simp [hdRead, h1, h2]
    rw [e]
    repeat' (first | (refine go1 ?_; intros) | (refine goCC ?_ ?_ <;> (intro hb; (try simp only [hSQ] at hb); try (exfalso; omega))) | fail)
    all_goals exact ⟨_, (se_drop _ _).ent w0, rfl, rfl⟩
  have h108 : l.length = 108 := by omega
  haveI r1 : ∀ (M : List Asn) [RdC w0 M a (bvs l)], RdC w0 M (subA a 0 cap 1) (bvs (l.take 8)) := fun M _ => rd_cut 0 8 cap (by omega)
  haveI r2 : ∀ (M : List Asn) [RdC w0 M a (bvs l)], RdC w0 M (subA a 104 cap 1) (bvs (l.drop 104)) := fun M _ => rd_drop 104 cap hcap
  have hlt1 := numOf_lt (l.take 8)
  have hlt2 := numOf_lt (l.drop 104)
  have ho := hdOf_ok h108
  have hol := Hd.len ho
  have hrr : hdRead l = if (hdOf l).may = true then (hdOf l, 0) else (hd0, 8) := by simp [hdRead, h1, h2]
  have hmay : (hdOf l).may = decide (numOf (l.take 8) ≤ 1073741824 ∧ numOf (l.drop 104) ≤ 256) := by
    unfold Hd.may hdOf
    exact decide_eq_decide.2 (by dsimp only; omega)
  have hcells : (hdOf l).cells = .int .i64 (numOf (l.take 8) : Int) :: (bvs ((l.drop 8).take 32) ++ (bvs ((l.drop 40).take 32) ++ (bvs ((l.drop 72).take 32) ++ [.int .i64 (numOf (l.drop 104) : Int)]))) := rfl
  have l1 : ((l.drop 8).take 32).length = 32 := by simp; omega
  have l2 : ((l.drop 40).take 32).length = 32 := by simp; omega
  have l3 : ((l.drop 72).take 32).length = 32 := by simp; omega
  have hcl : l.take 8 = (l.take 8).drop 0 := rfl
  rw [hrr]
  repeat' (first | (refine go1 ?_; intros) | (refine goCC ?_ ?_ <;> (intro hb; (try simp only [hSQ] at hb); try (exfalso; omega))) | fail)
  rename_i g1 _
  refine v_cut Unit [0, 2, 3] rfl (fun _ => [(4, .int .u64 (numOf (l.take 8) : Int)), (5, .int .u64 (numOf (l.drop 104) : Int))]) (fun _ => blk g1 35 hd0.cells :: L) ?_ (fun _ => ?_)
  · refine v_id ?_
    refine v_draw0 [] (by kernel_rfl) ?_
    refine tA 0 ?_
    refine tA 1 ?_
    refine tA 3 ?_
    refine tA 4 ?_
    refine va_one 2 (by kernel_rfl) rfl rfl ?_
    first | refine vo_call rfl rfl ?_ | refine vo_callV rfl rfl rfl ?_
    refine vc_mono (number_vc w0 _ _ _ (l.take 8) (by first | (simp; done) | (simp; omega)) (by first | (simp; done) | (simp; omega))) ?_
    rintro v L' ⟨rfl, rfl⟩
    refine ⟨.inr (sei _ _ _), ?_⟩
    refine va_one 5 (by kernel_rfl) rfl rfl ?_
    first | refine vo_call rfl rfl ?_ | refine vo_callV rfl rfl rfl ?_
    refine vc_mono (number_vc w0 _ _ _ (l.drop 104) (by first | (simp; done) | (simp; omega)) (by first | (simp; done) | (simp; omega))) ?_
    rintro v L' ⟨rfl, rfl⟩
    refine ⟨.inr (sei _ _ _), ?_⟩
    refine tA 6 ?_
    refine tA 7 ?_
    refine va_done (by kernel_rfl) ?_
    exact ⟨rfl, (), by (exact sbS), Ent.refl _ _⟩
  generalize numOf (l.take 8) = N at *
  generalize numOf (l.drop 104) = M at *
  by_cases hok : N ≤ 1073741824 ∧ M ≤ 256
  · rw [hmay, decide_eq_true hok, if_pos rfl]
    have hw1 : IntKind.i64.wrap (N : Int) = (N : Int) := by simp only [IntKind.wrap_i64]; omega
    have hw2 : IntKind.i64.wrap (M : Int) = (M : Int) := by simp only [IntKind.wrap_i64]; omega
    obtain ⟨hN, hM⟩ := hok
    repeat' (first | (refine go1 ?_; intros) | (refine goCC ?_ ?_ <;> (intro hb; (try simp only [hSQ] at hb); try (exfalso; omega))) | fail)
    all_goals first | (exfalso; omega) | skip
    refine clV ?_
    refine vc_mono (rdg14_vc w0 _ a cap l 8 rfl (by omega) hl) ?_
    rintro v L' ⟨rfl, rfl⟩
    repeat' (first | (refine go1 ?_; intros) | (refine goCC ?_ ?_ <;> (intro hb; (try simp only [hSQ] at hb); try (exfalso; omega))) | fail)
    refine clV ?_
    refine vc_mono (rdg14_vc w0 _ a cap l 40 rfl (by omega) hl) ?_
    rintro v L' ⟨rfl, rfl⟩
    repeat' (first | (refine go1 ?_; intros) | (refine goCC ?_ ?_ <;> (intro hb; (try simp only [hSQ] at hb); try (exfalso; omega))) | fail)
    refine clV ?_
    refine vc_mono (rdg14_vc w0 _ a cap l 72 rfl (by omega) hl) ?_
    rintro v L' ⟨rfl, rfl⟩
    generalize (l.drop 8).take 32 = D1 at *
    generalize (l.drop 40).take 32 = D2 at *
    generalize (l.drop 72).take 32 = D3 at *
    generalize hdOf l = H at *
    repeat' (first | (refine goB ?_; intros) | (refine goCC ?_ ?_ <;> (intro hb; (try simp only [hSQ] at hb); try (exfalso; omega))) | fail)
    refine vl_q rfl rfl rfl rfl (vq_build rfl rfl (by simp [plOf, Value.cells, l1, l2, l3]) (by simp [Value.cells, l1, l2, l3])) ?_
    rw [← hcells]
    haveI hoc : OC H.cells := oc_hd _
    repeat' (first | (refine go1 ?_; intros) | (refine goCC ?_ ?_ <;> (intro hb; (try simp only [hSQ] at hb); try (exfalso; omega))) | fail)
    exact ⟨_, (se_drop _ _).ent w0, rfl, rfl⟩
  · rw [hmay, decide_eq_false hok, if_neg (by decide)]
    repeat' (first | (refine go1 ?_; intros) | (refine goCC ?_ ?_ <;> (intro hb; (try simp only [hSQ] at hb); try (exfalso; omega))) | fail)
    all_goals first | (exfalso; omega) | exact ⟨_, (se_drop _ _).ent w0, rfl, rfl⟩
end Go.Proofs.Ytgffejpcldeklaa
namespace Go.Proofs.Ytgffejpcldeklaa
open Go Go.RowKit
open Classical

theorem rofProof_vc (w0 : World) (L : List Asn) (p : Prf) (h : p.ok) (hvl : p.vl.length ≤ 4096) (hpl : p.pl.length ≤ 65535) [hr : RdC w0 L p.va (bvs p.vl)] [hr2 : RdC w0 L p.pa (bvs p.pl.flatten)] :
    VC Try.prog w0 56 [.agg p.cells.toArray] L fun v L' => ∃ a' c', v = .slice a' (prfB p).length c' ∧ L' = ownB a' c' (prfB p) :: L := by
  have f0 := Prf.f0 h
  have f1 := Prf.f1 h
  have f2 := Prf.f2 h
  have f3 := Prf.f3 h
  have f4 := Prf.f4 h
  have hlk := h.key
  have hlo := h.other
  have hdg := h.dg
  have hkd := h.kind
  have hAl := prfA_len h hvl
  have hA : prfA p = (p.key ++ [UInt8.ofNat p.kind] ++ (if p.kind = 2 then p.other else [])) ++ (if p.kind ≠ 0 then digs p.vl.length 2 ++ p.vl else []) := by simp [prfA]
  have hp2 := digs_length p.vl.length 2
  have hkn : (UInt8.ofNat p.kind).toNat = p.kind := by simp; omega
  rw [prfB_A]
  refine vc_ent ?_
  refine vc_in rfl rfl ?_
  generalize hcs : p.cells = cs at *
  have hcl : cs.length = 67 := by rw [← hcs]; exact Prf.len h
  obtain ⟨K, hK⟩ : ∃ K, K = p.key ++ [UInt8.ofNat p.kind] := ⟨_, rfl⟩
  have hKl : K.length = 33 := by rw [hK]; simp [hlk]
  obtain ⟨K2, hK2⟩ : ∃ K2, K2 = K ++ (if p.kind = 2 then p.other else []) := ⟨_, rfl⟩
  rw [← hK, ← hK2] at hA
  haveI r0 : ∀ g M, RdC w0 (blk g 33 cs :: M) (some ⟨g, 0, none⟩) (bvs p.key) := fun g M => rdC_part 0 32 f0
  haveI r1 : ∀ g M, RdC w0 (blk g 33 cs :: M) (some ⟨g, 0 + 33, none⟩) (bvs p.other) := fun g M => rdC_part (0 + 33) 32 f2
  have hol2 : p.other.length = 32 * 1 := hlo
  have hkl2 : p.key.length = 32 * 1 := hlk
  have hK1 : ∀ a c, own 5 1 a (32 + 1) c (bvs p.key ++ [.int .u8 (p.kind : Int)]) = ownB a c K := fun a c => by
    unfold ownB
    rw [hKl, hK, bvs_append]
    show _ = own _ _ _ _ _ (bvs p.key ++ [.int .u8 ((UInt8.ofNat p.kind).toNat : Int)])
    rw [hkn]
  have hKl' : K.length = 32 + 1 := hKl
  by_cases k0 : p.kind = 0
  · rw [if_neg (by omega), List.append_nil] at hK2
    rw [if_neg (by omega), List.append_nil] at hA
    rw [hA]
    repeat' (first | (refine go1 ?_; intros) | (refine goCC ?_ ?_ <;> (intro hb; (try simp only [hSQ] at hb); try (exfalso; omega))) | fail)
    all_goals first | (exfalso; omega) | skip
    rename_i g1 a2 c2 _ _ g3 a3 c3 _ _ _
    rw [hK1, ← hKl', hK2]
    generalize K = T at *
    refine clV ?_
    refine vc_mono (rnumber22_vc w0 _ (p.pl.length : Int) 2 (by omega) (by omega) (by decide) (by decide)) ?_
    rintro v L' ⟨a4, c4, rfl, rfl⟩
    rw [Int.toNat_natCast]
    have hdl := digs_length p.pl.length 2
    rw [show ownB a4 c4 (digs p.pl.length 2) = own 5 1 a4 2 c4 (bvs (digs p.pl.length 2)) by unfold ownB; rw [hdl]]
    generalize digs p.pl.length 2 = D at *
    repeat' (first | (refine go1 ?_; intros) | (refine goCC ?_ ?_ <;> (intro hb; (try simp only [hSQ] at hb); try (exfalso; omega))) | fail)
    rename_i a5 c5 _ _
    rw [← own_app a5 c5 T D 2 hdl]
    have hTD : (T ++ D).length = T.length + 2 := by rw [List.length_append, hdl]
    refine v_loopF (Nat × Option Addr × Nat) [1] rfl (fun x => [(4, .int .i64 x.1), (3, .slice x.2.1 ((T ++ D) ++ (p.pl.take x.1).flatten).length x.2.2)]) (fun _ x => ownB x.2.1 x.2.2 ((T ++ D) ++ (p.pl.take x.1).flatten) :: blk g1 33 cs :: L) (fun x => x.1 ≤ p.pl.length) (fun x => p.pl.length - x.1) (0, a5, c5) (Nat.zero_le _) ?_ ?_ ?_
    · simp only [List.take_zero, List.flatten_nil, List.append_nil]
      rw [hTD]
      (exact sbS)
    · simp only [List.take_zero, List.flatten_nil, List.append_nil]
      exact sei _ _ _
    rintro ⟨i, a6, c6⟩ hi
    dsimp only at hi ⊢
    by_cases hlt : i < p.pl.length
    rotate_left
    · obtain rfl : i = p.pl.length := by omega
      rw [List.take_length]
      repeat' (first | (refine go1 ?_; intros) | (refine goCC ?_ ?_ <;> (intro hb; (try simp only [hSQ] at hb); try (exfalso; omega))) | fail)
      exact ⟨_, sei _ _ _, a6, c6, rfl, rfl⟩
    have hst : (T ++ D) ++ (p.pl.take (i + 1)).flatten = ((T ++ D) ++ (p.pl.take i).flatten) ++ p.pl[i] := by rw [flat_take hlt, ← List.append_assoc (T ++ D)]
    have hbn : ((p.pl.take i).flatten).length ≤ i * 32 := by
      rw [Dg.len (fun x hx => hdg x (List.mem_of_mem_take hx)), List.length_take]
      exact Nat.mul_le_mul_right _ (Nat.min_le_left _ _)
    have hGl : ((T ++ D) ++ (p.pl.take i).flatten).length ≤ 3000000 := by
      rw [List.length_append]
      omega
    have hgx := hdg.bat i hlt
    have hx32 := hdg _ (List.getElem_mem hlt)
    have hfx := hdg.len
    have hpx : 0 < p.pl.flatten.length := by omega
    have hpx2 : 0 < (bvs p.pl.flatten).length := by rw [bvs_length]; exact hpx
    haveI r5 : ∀ M [RdC w0 M p.pa (bvs p.pl.flatten)], RdC w0 M (offA p.pa (i * 32)) (bvs p.pl[i]) := fun M _ => rdC_at (i * 32) (by rw [bvs_length, hx32]; exact hgx)
    have hx32' : p.pl[i].length = 32 * 1 := hx32
    generalize (T ++ D) ++ (p.pl.take i).flatten = G at *
    generalize p.pl[i] = S at *
    repeat' (first | (refine go1 ?_; intros) | (refine goCC ?_ ?_ <;> (intro hb; (try simp only [hSQ] at hb); try (exfalso; omega))) | fail)
    rename_i a7 c7 _ _
    refine ⟨rfl, (i + 1, a7, c7), by dsimp only; omega, by dsimp only; omega, ?_, ?_⟩
    · dsimp only
      rw [hst, List.length_append, hx32]
      (exact sbS)
    · dsimp only
      rw [hst, own_app a7 c7 G _ _ hx32]
      exact sei _ _ _
  rw [if_pos k0] at hA
  by_cases k2 : p.kind = 2
  · rw [if_pos k2] at hK2
    rw [hA]
    have hK2l : K2.length = 32 + 1 + 32 := by rw [hK2, List.length_append, hKl, hlo]
    repeat' (first | (refine go1 ?_; intros) | (refine goCC ?_ ?_ <;> (intro hb; (try simp only [hSQ] at hb); try (exfalso; omega))) | fail)
    all_goals first | (exfalso; omega) | skip
    rename_i g1 a2 c2 _ _ g3 a3 c3 _ _ _ a4 c4 _ _
    rw [show own 5 1 a4 (32 + 1 + 32) c4 (bvs p.key ++ [.int .u8 (p.kind : Int)] ++ bvs p.other) = ownB a4 c4 K2 by
      unfold ownB
      rw [hK2l, hK2, bvs_append, hK, bvs_append]
      show _ = own _ _ _ _ _ (bvs p.key ++ [.int .u8 ((UInt8.ofNat p.kind).toNat : Int)] ++ bvs p.other)
      rw [hkn], ← hK2l]
    refine clV ?_
    refine vc_mono (rnumber22_vc w0 _ (p.vl.length : Int) 2 (by omega) (by omega) (by decide) (by decide)) ?_
    rintro v L' ⟨a4, c4, rfl, rfl⟩
    rw [Int.toNat_natCast]
    rw [show ownB a4 c4 (digs p.vl.length 2) = own 5 1 a4 2 c4 (bvs (digs p.vl.length 2)) by unfold ownB; rw [hp2]]
    generalize digs p.vl.length 2 = E at *
    repeat' (first | (refine go1 ?_; intros) | (refine goCC ?_ ?_ <;> (intro hb; (try simp only [hSQ] at hb); try (exfalso; omega))) | fail)
    rename_i a5 c5 _ _ a6 c6 _ _
    have hTl : (K2 ++ (E ++ p.vl)).length = K2.length + 2 + p.vl.length := by rw [List.length_append, List.length_append, hp2]; omega
    rw [show own 5 1 a6 (K2.length + 2 + p.vl.length) c6 (bvs K2 ++ bvs E ++ bvs p.vl) = ownB a6 c6 (K2 ++ (E ++ p.vl)) by unfold ownB; rw [hTl, bvs_append, bvs_append, List.append_assoc], ← hTl]
    generalize K2 ++ (E ++ p.vl) = T at *
    repeat' (first | (refine go1 ?_; intros) | (refine goCC ?_ ?_ <;> (intro hb; (try simp only [hSQ] at hb); try (exfalso; omega))) | fail)
    refine clV ?_
    refine vc_mono (rnumber22_vc w0 _ (p.pl.length : Int) 2 (by omega) (by omega) (by decide) (by decide)) ?_
    rintro v L' ⟨a4, c4, rfl, rfl⟩
    rw [Int.toNat_natCast]
    have hdl := digs_length p.pl.length 2
    rw [show ownB a4 c4 (digs p.pl.length 2) = own 5 1 a4 2 c4 (bvs (digs p.pl.length 2)) by unfold ownB; rw [hdl]]
    generalize digs p.pl.length 2 = D at *
    repeat' (first | (refine go1 ?_; intros) | (refine goCC ?_ ?_ <;> (intro hb; (try simp only [hSQ] at hb); try (exfalso; omega))) | fail)
    rename_i a5 c5 _ _
    rw [← own_app a5 c5 T D 2 hdl]
    have hTD : (T ++ D).length = T.length + 2 := by rw [List.length_append, hdl]
    refine v_loopF (Nat × Option Addr × Nat) [1] rfl (fun x => [(4, .int .i64 x.1), (3, .slice x.2.1 ((T ++ D) ++ (p.pl.take x.1).flatten).length x.2.2)]) (fun _ x => ownB x.2.1 x.2.2 ((T ++ D) ++ (p.pl.take x.1).flatten) :: blk g1 33 cs :: L) (fun x => x.1 ≤ p.pl.length) (fun x => p.pl.length - x.1) (0, a5, c5) (Nat.zero_le _) ?_ ?_ ?_
    · simp only [List.take_zero, List.flatten_nil, List.append_nil]
      rw [hTD]
      (exact sbS)
    · simp only [List.take_zero, List.flatten_nil, List.append_nil]
      exact sei _ _ _
    rintro ⟨i, a6, c6⟩ hi
    dsimp only at hi ⊢
    by_cases hlt : i < p.pl.length
    rotate_left
    · obtain rfl : i = p.pl.length := by omega
      rw [List.take_length]
      repeat' (first | (refine go1 ?_; intros) | (refine goCC ?_ ?_ <;> (intro hb; (try simp only [hSQ] at hb); try (exfalso; omega))) | fail)
      exact ⟨_, sei _ _ _, a6, c6, rfl, rfl⟩
    have hst : (T ++ D) ++ (p.pl.take (i + 1)).flatten = ((T ++ D) ++ (p.pl.take i).flatten) ++ p.pl[i] := by rw [flat_take hlt, ← List.append_assoc (T ++ D)]
    have hbn : ((p.pl.take i).flatten).length ≤ i * 32 := by
      rw [Dg.len (fun x hx => hdg x (List.mem_of_mem_take hx)), List.length_take]
      exact Nat.mul_le_mul_right _ (Nat.min_le_left _ _)
    have hGl : ((T ++ D) ++ (p.pl.take i).flatten).length ≤ 3000000 := by
      rw [List.length_append]
      omega
    have hgx := hdg.bat i hlt
    have hx32 := hdg _ (List.getElem_mem hlt)
    have hfx := hdg.len
    have hpx : 0 < p.pl.flatten.length := by omega
    have hpx2 : 0 < (bvs p.pl.flatten).length := by rw [bvs_length]; exact hpx
    haveI r5 : ∀ M [RdC w0 M p.pa (bvs p.pl.flatten)], RdC w0 M (offA p.pa (i * 32)) (bvs p.pl[i]) := fun M _ => rdC_at (i * 32) (by rw [bvs_length, hx32]; exact hgx)
    have hx32' : p.pl[i].length = 32 * 1 := hx32
    generalize (T ++ D) ++ (p.pl.take i).flatten = G at *
    generalize p.pl[i] = S at *
    repeat' (first | (refine go1 ?_; intros) | (refine goCC ?_ ?_ <;> (intro hb; (try simp only [hSQ] at hb); try (exfalso; omega))) | fail)
    rename_i a7 c7 _ _
    refine ⟨rfl, (i + 1, a7, c7), by dsimp only; omega, by dsimp only; omega, ?_, ?_⟩
    · dsimp only
      rw [hst, List.length_append, hx32]
      (exact sbS)
    · dsimp only
      rw [hst, own_app a7 c7 G _ _ hx32]
      exact sei _ _ _
  rw [if_neg k2, List.append_nil] at hK2
  rw [hA]
  have hK2l : K2.length = 32 + 1 := by rw [hK2]; exact hKl
  repeat' (first | (refine go1 ?_; intros) | (refine goCC ?_ ?_ <;> (intro hb; (try simp only [hSQ] at hb); try (exfalso; omega))) | fail)
  all_goals first | (exfalso; omega) | skip
  rename_i g1 a2 c2 _ _ g3 a3 c3 _ _ _
  rw [hK1, ← hKl', ← hK2]
  refine clV ?_
  refine vc_mono (rnumber22_vc w0 _ (p.vl.length : Int) 2 (by omega) (by omega) (by decide) (by decide)) ?_
  rintro v L' ⟨a4, c4, rfl, rfl⟩
  rw [Int.toNat_natCast]
  rw [show ownB a4 c4 (digs p.vl.length 2) = own 5 1 a4 2 c4 (bvs (digs p.vl.length 2)) by unfold ownB; rw [hp2]]
  generalize digs p.vl.length 2 = E at *
  repeat' (first | (refine go1 ?_; intros) | (refine goCC ?_ ?_ <;> (intro hb; (try simp only [hSQ] at hb); try (exfalso; omega))) | fail)
  rename_i a5 c5 _ _ a6 c6 _ _
  have hTl : (K2 ++ (E ++ p.vl)).length = K2.length + 2 + p.vl.length := by rw [List.length_append, List.length_append, hp2]; omega
  rw [show own 5 1 a6 (K2.length + 2 + p.vl.length) c6 (bvs K2 ++ bvs E ++ bvs p.vl) = ownB a6 c6 (K2 ++ (E ++ p.vl)) by unfold ownB; rw [hTl, bvs_append, bvs_append, List.append_assoc], ← hTl]
  generalize K2 ++ (E ++ p.vl) = T at *
  repeat' (first | (refine go1 ?_; intros) | (refine goCC ?_ ?_ <;> (intro hb; (try simp only [hSQ] at hb); try (exfalso; omega))) | fail)
  refine clV ?_
  refine vc_mono (rnumber22_vc w0 _ (p.pl.length : Int) 2 (by omega) (by omega) (by decide) (by decide)) ?_
  rintro v L' ⟨a4, c4, rfl, rfl⟩
  rw [Int.toNat_natCast]
  have hdl := digs_length p.pl.length 2
  rw [show ownB a4 c4 (digs p.pl.length 2) = own 5 1 a4 2 c4 (bvs (digs p.pl.length 2)) by unfold ownB; rw [hdl]]
  generalize digs p.pl.length 2 = D at *
  repeat' (first | (refine go1 ?_; intros) | (refine goCC ?_ ?_ <;> (intro hb; (try simp only [hSQ] at hb); try (exfalso; omega))) | fail)
  rename_i a5 c5 _ _
  rw [← own_app a5 c5 T D 2 hdl]
  have hTD : (T ++ D).length = T.length + 2 := by rw [List.length_append, hdl]
  refine v_loopF (Nat × Option Addr × Nat) [1] rfl (fun x => [(4, .int .i64 x.1), (3, .slice x.2.1 ((T ++ D) ++ (p.pl.take x.1).flatten).length x.2.2)]) (fun _ x => ownB x.2.1 x.2.2 ((T ++ D) ++ (p.pl.take x.1).flatten) :: blk g1 33 cs :: L) (fun x => x.1 ≤ p.pl.length) (fun x => p.pl.length - x.1) (0, a5, c5) (Nat.zero_le _) ?_ ?_ ?_
  · simp only [List.take_zero, List.flatten_nil, List.append_nil]
    rw [hTD]
    (exact sbS)
  · simp only [List.take_zero, List.flatten_nil, List.append_nil]
    exact sei _ _ _
  rintro ⟨i, a6, c6⟩ hi
  dsimp only at hi ⊢
  by_cases hlt : i < p.pl.length
  rotate_left
  · obtain rfl : i = p.pl.length := by omega
    rw [List.take_length]
    repeat' (first | (refine go1 ?_; intros) | (refine goCC ?_ ?_ <;> (intro hb; (try simp only [hSQ] at hb); try (exfalso; omega))) | fail)
    exact ⟨_, sei _ _ _, a6, c6, rfl, rfl⟩
  have hst : (T ++ D) ++ (p.pl.take (i + 1)).flatten = ((T ++ D) ++ (p.pl.take i).flatten) ++ p.pl[i] := by rw [flat_take hlt, ← List.append_assoc (T ++ D)]
  have hbn : ((p.pl.take i).flatten).length ≤ i * 32 := by
    rw [Dg.len (fun x hx => hdg x (List.mem_of_mem_take hx)), List.length_take]
    exact Nat.mul_le_mul_right _ (Nat.min_le_left _ _)
  have hGl : ((T ++ D) ++ (p.pl.take i).flatten).length ≤ 3000000 := by
    rw [List.length_append]
    omega
  have hgx := hdg.bat i hlt
  have hx32 := hdg _ (List.getElem_mem hlt)
  have hfx := hdg.len
  have hpx : 0 < p.pl.flatten.length := by omega
  have hpx2 : 0 < (bvs p.pl.flatten).length := by rw [bvs_length]; exact hpx
  haveI r5 : ∀ M [RdC w0 M p.pa (bvs p.pl.flatten)], RdC w0 M (offA p.pa (i * 32)) (bvs p.pl[i]) := fun M _ => rdC_at (i * 32) (by rw [bvs_length, hx32]; exact hgx)
  have hx32' : p.pl[i].length = 32 * 1 := hx32
  generalize (T ++ D) ++ (p.pl.take i).flatten = G at *
  generalize p.pl[i] = S at *
  repeat' (first | (refine go1 ?_; intros) | (refine goCC ?_ ?_ <;> (intro hb; (try simp only [hSQ] at hb); try (exfalso; omega))) | fail)
  rename_i a7 c7 _ _
  refine ⟨rfl, (i + 1, a7, c7), by dsimp only; omega, by dsimp only; omega, ?_, ?_⟩
  · dsimp only
    rw [hst, List.length_append, hx32]
    (exact sbS)
  · dsimp only
    rw [hst, own_app a7 c7 G _ _ hx32]
    exact sei _ _ _
end Go.Proofs.Ytgffejpcldeklaa
