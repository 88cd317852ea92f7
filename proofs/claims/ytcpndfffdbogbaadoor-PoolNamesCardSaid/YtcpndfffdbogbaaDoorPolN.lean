/-
  Pools: the chapter's examples.
-/
import Derived.Test.YtcpndfffdbogbaaDoorPolK
set_option linter.unusedVariables false
set_option linter.unusedSimpArgs false
namespace Go.Proofs.YtcpndfffdbogbaaDoor
open Go Go.RowKit
set_option linter.unusedVariables false
set_option linter.unusedSimpArgs false
set_option linter.unusedSectionVars false
open Classical

theorem draw_none : drawO (List.replicate 2 []) [] 0 2 1 = ([], [], 2) := by
  have e : drawO (List.replicate 2 []) [] 0 2 1 = turnO (List.replicate 2 []) 2 (fun i => drawQ (atC (List.replicate 2 []) i) [] 0 1) [] := if_pos ⟨mayO_zero (by decide) (by decide), st0⟩
  rw [e]
  exact if_neg (by rw [List.length_replicate]; decide)
theorem may_rep (n : Nat) (h1 : 1 ≤ n) (h8 : n ≤ 8) : mayPo (List.replicate n shE) = true := mayO_iff.2 (by rw [shl_rep]; exact mayO_zero h1 h8)
theorem may_none : mayPo [] = false := by
  refine Bool.eq_false_iff.2 (fun h => ?_)
  have := (mayO_iff.1 h).lo
  exact absurd this (by decide)
set_option maxRecDepth 100000 in
set_option maxHeartbeats 4000000 in
theorem poolNames_vc (w0 : World) [hK : RdA w0 (some ⟨0, 0, none⟩) (wds K64)] :
    VC Tryd.prog w0 4 [] [] fun u L' => u = .bool true := by
  haveI rn : ∀ M, RdNs w0 M [] := fun M => rdNs0 w0 M
  haveI rz : ∀ M, RdC w0 M none (ndc []) := fun M => rdC_nil _ _ _
  haveI rs : ∀ M, RdC w0 M none (shc []) := fun M => rdC_nil _ _ _
  haveI rt : ∀ M, RdSs w0 M [] := fun M => ⟨fun s hs => absurd hs (by simp)⟩
  refine vc_in rfl rfl ?_
  repeat' (first | (refine go1 ?_; intros) | (refine goCC ?_ ?_ <;> (intro hb; (try simp only [hSQ] at hb); try (exfalso; omega))) | fail)
  refine vl_o rfl (vo_call rfl rfl ?_)
  refine vc_mono (pat_vc w0 _ (List.replicate 32 0) 0 (by simp)) ?_
  rintro u L' ⟨rfl, rfl⟩
  rw [if_neg (by decide)]
  repeat' (first | (refine go1 ?_; intros) | (refine goCC ?_ ?_ <;> (intro hb; (try simp only [hSQ] at hb); try (exfalso; omega))) | fail)
  refine vl_o rfl (vo_call rfl rfl ?_)
  refine vc_mono (pnew_vc w0 _ 9) ?_
  rintro u L' ⟨a9, c9, s9, rfl, hs9, rfl⟩
  rw [if_neg (by decide)]
  repeat' (first | (refine go1 ?_; intros) | (refine goCC ?_ ?_ <;> (intro hb; (try simp only [hSQ] at hb); try (exfalso; omega))) | fail)
  refine vl_o rfl (vo_call rfl rfl ?_)
  refine vc_mono (pnew_vc w0 _ 2) ?_
  rintro v L' ⟨a, c, ss, rfl, hss, rfl⟩
  rw [if_pos (by decide), show (2 : Int).toNat = 2 from rfl] at hss
  subst hss
  rw [if_pos (by decide), List.length_replicate]
  repeat' (first | (refine go1 ?_; intros) | (refine goCC ?_ ?_ <;> (intro hb; (try simp only [hSQ] at hb); try (exfalso; omega))) | fail)
  refine vl_o rfl (vo_call rfl rfl ?_)
  refine vc_mono (pdraw_vc w0 _ a c (List.replicate 2 shE) 2 none 0 [] 0 1 rfl rfl (sh_rep_ok 2 (by decide)) (fun s hs => by rw [List.eq_of_mem_replicate hs]; exact ⟨by decide, fun l hl => absurd hl (by simp [shE]), fun l hl => absurd hl (by simp [shE])⟩) nsOk0 (by decide)) ?_
  rw [shl_rep, draw_none]
  rintro v L' ⟨a2, c2, ts, b2, d2, rfl, hts, hto, rfl⟩
  dsimp only
  repeat' (first | (refine go1 ?_; intros) | (refine goCC ?_ ?_ <;> (intro hb; (try simp only [hSQ] at hb); try (exfalso; omega))) | fail)
  refine vl_o rfl (vo_call rfl rfl ?_)
  refine vc_mono (lalive21_vc w0 _) ?_
  rintro u L' ⟨rfl, rfl⟩
  repeat' (first | (refine go1 ?_; intros) | (refine goCC ?_ ?_ <;> (intro hb; (try simp only [hSQ] at hb); try (exfalso; omega))) | fail)
  refine vl_o rfl (vo_call rfl rfl ?_)
  refine vc_mono (pcheck21_vc w0 _ none 0 [] rfl ⟨fun _ h => (by cases h), by simp⟩) ?_
  rintro u L' ⟨rfl, rfl⟩
  rw [may_none]
  repeat' (first | (refine go1 ?_; intros) | (refine goCC ?_ ?_ <;> (intro hb; (try simp only [hSQ] at hb); try (exfalso; omega))) | fail)
  refine vl_o rfl (vo_call rfl rfl ?_)
  refine vc_mono (pcheck21_vc w0 _ a c (List.replicate 2 shE) rfl (sh_rep_ok 2 (by decide))) ?_
  rintro u L' ⟨rfl, rfl⟩
  rw [may_rep 2 (by decide) (by decide)]
  repeat' (first | (refine go1 ?_; intros) | (refine goCC ?_ ?_ <;> (intro hb; (try simp only [hSQ] at hb); try (exfalso; omega))) | fail)
  exact rfl
end Go.Proofs.YtcpndfffdbogbaaDoor
