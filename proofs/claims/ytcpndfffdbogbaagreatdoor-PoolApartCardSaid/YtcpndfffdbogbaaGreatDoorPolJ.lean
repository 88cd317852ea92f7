/-
  What becomes of pools: the law.
-/
import Derived.Test.YtcpndfffdbogbaaGreatDoorGPB
import Derived.Test.YtcpndfffdbogbaaGreatDoorShdW
set_option linter.unusedVariables false
set_option linter.unusedSimpArgs false
namespace Go.Proofs.YtcpndfffdbogbaaGreatDoor
open Go Go.RowKit
set_option linter.unusedVariables false
set_option linter.unusedSimpArgs false
set_option linter.unusedSectionVars false
open Classical

set_option maxRecDepth 100000 in
set_option maxHeartbeats 1000000 in
theorem great21S_vc (w0 : World) (L : List Asn) (a : Option Addr) (c : Nat) (ss : List Sh) {n : Nat} (hn : n = ss.length) (hk : ∀ s ∈ ss, s.ls.length ≤ 9223372036854775807 ∧ ∀ p ∈ s.ls, p.own.length = 32 ∧ (∀ x ∈ p.xs, x.ok) ∧ p.xs.length ≤ 9223372036854775807) (hl : ss.length ≤ 9223372036854775807) [hr : RdC w0 L a (shc ss)] [hv : RdSs w0 L ss] :
    VC Tryz.prog w0 16 [.slice a n c] L fun v L' => ∃ b, v = .bool b ∧ (b = false → ss.length ≤ 10 ∧ SsOk ss ∧ ∀ s ∈ ss, s.ls.length ≤ 6 ∧ ∀ l ∈ s.ls, l.xs.length ≤ 20) ∧ L' = L := by
  subst hn
  refine vc_ent ?_
  refine vc_in rfl rfl ?_
  repeat' (first | (refine go1 ?_; intros) | (refine goCC ?_ ?_ <;> (intro hb; (try simp only [hSQ] at hb); try (exfalso; omega))) | fail)
  refine v_loopS Nat [0] rfl (fun i => [(3, .int .i64 i)]) (fun i => i ≤ ss.length ∧ i ≤ 10 ∧ ∀ j (hj : j < ss.length), j < i → ss[j].ls.length ≤ 6 ∧ ∀ l ∈ ss[j].ls, l.xs.length ≤ 20) (fun i => ss.length - i) 0 ⟨Nat.zero_le _, Nat.zero_le _, fun j hj h => by omega⟩ (by (repeat' (first | exact Sub.nil _ | refine Sub.cons rfl rfl ?_ | refine Sub.cons rfl ?_ ?_))) (fun i ⟨hi, h10, hj⟩ => ?_)
  by_cases hlt : i < ss.length ∧ i < 10
  · obtain ⟨h1, h2⟩ := hlt
    have e' := shs_e1 i h1
    have hpos : 0 < (shc ss).length := by rw [shs_len]; omega
    obtain ⟨k1, k2⟩ := hk _ (List.getElem_mem h1)
    haveI := hv.at i h1
    haveI := hv.at2 i h1
    repeat' (first | (refine go1 ?_; intros) | (refine goCC ?_ ?_ <;> (intro hb; (try simp only [hSQ] at hb); try (exfalso; omega))) | fail)
    all_goals first | (exfalso; omega) | skip
    refine vl_o rfl (vo_call rfl rfl ?_)
    refine vc_mono (great20_vc w0 _ ss[i].a ss[i].c ss[i].ls rfl (fun p hp => ⟨(k2 p hp).1, (k2 p hp).2.2⟩) k1) ?_
    rintro v L' ⟨b, rfl, hg, hL⟩
    obtain rfl := hL.symm
    cases b with
    | true =>
      repeat' (first | (refine go1 ?_; intros) | (refine goCC ?_ ?_ <;> (intro hb; (try simp only [hSQ] at hb); try (exfalso; omega))) | fail)
      exact ⟨L, sei _ _ _, true, rfl, by simp, rfl⟩
    | false =>
      have hg := hg rfl
      repeat' (first | (refine go1 ?_; intros) | (refine goCC ?_ ?_ <;> (intro hb; (try simp only [hSQ] at hb); try (exfalso; omega))) | fail)
      refine ⟨rfl, i + 1, ⟨by omega, by omega, fun j hj2 hji => ?_⟩, by omega, by (repeat' (first | exact Sub.nil _ | refine Sub.cons rfl rfl ?_ | refine Sub.cons rfl ?_ ?_)), Ent.refl _ _⟩
      by_cases e : j = i
      · subst e
        exact hg
      · exact hj j hj2 (by omega)
  · repeat' (first | (refine go1 ?_; intros) | (refine goCC ?_ ?_ <;> (intro hb; (try simp only [hSQ] at hb); try (exfalso; omega))) | fail)
    all_goals first
      | (exfalso; omega)
      | (refine ⟨L, sei _ _ _, _, rfl, fun e => ?_, rfl⟩
         have h3 := of_decide_eq_false e
         have hall : ∀ s ∈ ss, s.ls.length ≤ 6 ∧ ∀ l ∈ s.ls, l.xs.length ≤ 20 := fun s hs => by
           obtain ⟨j, hj2, rfl⟩ := List.getElem_of_mem hs
           exact hj j hj2 (by omega)
         exact ⟨by omega, ⟨fun s hs => LsOk.of0 (hk s hs).2 (hall s hs), by omega⟩, hall⟩)
end Go.Proofs.YtcpndfffdbogbaaGreatDoor
