/-
  Pairs: the laws PairsBack and PairsWays.
-/
import Derived.Test.YtmfpiodcioakhaaDoorGM
import Derived.Test.YtmfpiodcioakhaaDoorGJ
set_option linter.unusedVariables false
set_option linter.unusedSimpArgs false
namespace Go.Proofs.YtmfpiodcioakhaaDoor
open Go Go.RowKit
set_option linter.unusedVariables false
set_option linter.unusedSimpArgs false
open Classical

theorem putOk {ps ns : List PR} (h : PsOk ps) {k v : List UInt8} (hk : k.length = 32) (hv : v.length ≤ 1000000) (e : kvs ns = putM (kvs ps) k v) : PsOk ns := by
  unfold putM at e
  split at e
  · rename_i h0
    obtain ⟨h1, h2, h3⟩ := putE_iff.1 h0
    have hK : K32 (kvs ns) := by rw [e]; exact h.k32.put hk
    refine ⟨fun p hp => hK p.kv (List.mem_map.2 ⟨p, hp, rfl⟩), fun p hp => ?_, ?_⟩
    · have hx : p.kv ∈ kvs ns := List.mem_map.2 ⟨p, hp, rfl⟩
      rw [e, mem_put h.k32 hk] at hx
      rcases hx with hx | ⟨hx, _⟩
      · rw [(Prod.mk.inj hx).2]; exact hv
      · obtain ⟨q, hq, e2⟩ := List.mem_map.1 hx
        rw [← (Prod.mk.inj e2).2]; exact h.vl q hq
    · have := congrArg List.length e
      simp only [List.length_map] at this
      omega
  · have : ns = [] := by simpa using e
    subst this; exact psOk_nil


set_option maxRecDepth 100000 in
set_option maxHeartbeats 8000000 in
theorem pairsWays_vc (w0 : World) (a : Option Addr) (c : Nat) (ps : List PR) (p q : PR) {n : Nat} (hn : n = ps.length) (h0 : PsOk0 ps) (hp : p.key.length = 32) (hq : q.key.length = 32) (hc0 : ps.length ≤ c) [hK : RdA w0 (some ⟨0, 0, none⟩) (wds K64)] [hr : RdC w0 [] a (prc ps)] [hv : RdVs w0 [] ps] [r1 : RdC w0 [] p.a (bvs p.v)] [r2 : RdC w0 [] q.a (bvs q.v)] :
    VC Tryd.prog w0 4 [.slice a n c, .agg p.cells.toArray, .agg q.cells.toArray] [] fun u L' => u = .bool true := by
  subst hn
  have f0 := PR.f0 hp
  have f1 := PR.f1 hp
  have hcp := PR.len hp
  have g0 := PR.f0 hq
  have g1 := PR.f1 hq
  have hcq := PR.len hq
  generalize p.cells = cs at *
  generalize q.cells = ds at *
  refine vc_in rfl rfl ?_
  repeat' (first | (refine go1 ?_; intros) | (refine vl_caseG rfl rfl rfl rfl ?_ ?_ <;> (intro hb; (try simp only [decide_eq_true_eq, decide_eq_false_iff_not, Bool.not_eq_true', Bool.not_eq_false', ne_eq, Decidable.not_not, Option.isNone_iff_eq_none, not_true_eq_false, not_false_eq_true] at hb); try (exfalso; omega))) | (refine v_cond rfl ?_ ?_ <;> (intro hb; (try simp only [decide_eq_true_eq, decide_eq_false_iff_not, Bool.not_eq_true', Bool.not_eq_false', ne_eq, Decidable.not_not, Option.isNone_iff_eq_none, not_true_eq_false, not_false_eq_true] at hb); try (exfalso; omega))) | fail)
  refine vl_o rfl (vo_call rfl rfl ?_)
  refine vc_mono (alive5_vc w0 _) ?_
  rintro u L' ⟨rfl, rfl⟩
  repeat' (first | (refine go1 ?_; intros) | (refine vl_caseG rfl rfl rfl rfl ?_ ?_ <;> (intro hb; (try simp only [decide_eq_true_eq, decide_eq_false_iff_not, Bool.not_eq_true', Bool.not_eq_false', ne_eq, Decidable.not_not, Option.isNone_iff_eq_none, not_true_eq_false, not_false_eq_true] at hb); try (exfalso; omega))) | (refine v_cond rfl ?_ ?_ <;> (intro hb; (try simp only [decide_eq_true_eq, decide_eq_false_iff_not, Bool.not_eq_true', Bool.not_eq_false', ne_eq, Decidable.not_not, Option.isNone_iff_eq_none, not_true_eq_false, not_false_eq_true] at hb); try (exfalso; omega))) | fail)
  refine vl_o rfl (vo_call rfl rfl ?_)
  refine vc_mono (great5_vc w0 _ a c ps 20 rfl h0) ?_
  rintro u L' ⟨rfl, rfl⟩
  by_cases hA : GrP 20 ps
  · rw [decide_eq_true hA]
    repeat' (first | (refine go1 ?_; intros) | (refine vl_caseG rfl rfl rfl rfl ?_ ?_ <;> (intro hb; (try simp only [decide_eq_true_eq, decide_eq_false_iff_not, Bool.not_eq_true', Bool.not_eq_false', ne_eq, Decidable.not_not, Option.isNone_iff_eq_none, not_true_eq_false, not_false_eq_true] at hb); try (exfalso; omega))) | (refine v_cond rfl ?_ ?_ <;> (intro hb; (try simp only [decide_eq_true_eq, decide_eq_false_iff_not, Bool.not_eq_true', Bool.not_eq_false', ne_eq, Decidable.not_not, Option.isNone_iff_eq_none, not_true_eq_false, not_false_eq_true] at hb); try (exfalso; omega))) | fail)
    rfl
  rw [decide_eq_false hA]
  have h : PsOk ps := h0.ok (by decide) hA
  by_cases hpl : 100 < p.v.length
  · repeat' (first | (refine go1 ?_; intros) | (refine vl_caseG rfl rfl rfl rfl ?_ ?_ <;> (intro hb; (try simp only [decide_eq_true_eq, decide_eq_false_iff_not, Bool.not_eq_true', Bool.not_eq_false', ne_eq, Decidable.not_not, Option.isNone_iff_eq_none, not_true_eq_false, not_false_eq_true] at hb); try (exfalso; omega))) | (refine v_cond rfl ?_ ?_ <;> (intro hb; (try simp only [decide_eq_true_eq, decide_eq_false_iff_not, Bool.not_eq_true', Bool.not_eq_false', ne_eq, Decidable.not_not, Option.isNone_iff_eq_none, not_true_eq_false, not_false_eq_true] at hb); try (exfalso; omega))) | fail)
    rfl
  by_cases hql : 100 < q.v.length
  · repeat' (first | (refine go1 ?_; intros) | (refine vl_caseG rfl rfl rfl rfl ?_ ?_ <;> (intro hb; (try simp only [decide_eq_true_eq, decide_eq_false_iff_not, Bool.not_eq_true', Bool.not_eq_false', ne_eq, Decidable.not_not, Option.isNone_iff_eq_none, not_true_eq_false, not_false_eq_true] at hb); try (exfalso; omega))) | (refine v_cond rfl ?_ ?_ <;> (intro hb; (try simp only [decide_eq_true_eq, decide_eq_false_iff_not, Bool.not_eq_true', Bool.not_eq_false', ne_eq, Decidable.not_not, Option.isNone_iff_eq_none, not_true_eq_false, not_false_eq_true] at hb); try (exfalso; omega))) | fail)
    rfl
  by_cases hpq : p.key = q.key
  · repeat' (first | (refine go1 ?_; intros) | (refine vl_caseG rfl rfl rfl rfl ?_ ?_ <;> (intro hb; (try simp only [decide_eq_true_eq, decide_eq_false_iff_not, Bool.not_eq_true', Bool.not_eq_false', ne_eq, Decidable.not_not, Option.isNone_iff_eq_none, not_true_eq_false, not_false_eq_true] at hb); try (exfalso; omega))) | (refine v_cond rfl ?_ ?_ <;> (intro hb; (try simp only [decide_eq_true_eq, decide_eq_false_iff_not, Bool.not_eq_true', Bool.not_eq_false', ne_eq, Decidable.not_not, Option.isNone_iff_eq_none, not_true_eq_false, not_false_eq_true] at hb); try (exfalso; omega))) | fail)
    all_goals first | rfl | exact absurd hpq hb
  repeat' (first | (refine go1 ?_; intros) | (refine vl_caseG rfl rfl rfl rfl ?_ ?_ <;> (intro hb; (try simp only [decide_eq_true_eq, decide_eq_false_iff_not, Bool.not_eq_true', Bool.not_eq_false', ne_eq, Decidable.not_not, Option.isNone_iff_eq_none, not_true_eq_false, not_false_eq_true] at hb); try (exfalso; omega))) | (refine v_cond rfl ?_ ?_ <;> (intro hb; (try simp only [decide_eq_true_eq, decide_eq_false_iff_not, Bool.not_eq_true', Bool.not_eq_false', ne_eq, Decidable.not_not, Option.isNone_iff_eq_none, not_true_eq_false, not_false_eq_true] at hb); try (exfalso; omega))) | fail)
  all_goals first | exact absurd hb hpq | skip
  refine vl_o rfl (vo_call rfl rfl ?_)
  refine vc_mono (pput_vc w0 _ a c ps p.key p.a p.c p.v rfl rfl h hp (by omega)) ?_
  rintro u L' ⟨_, rfl, a1, c1, n1, rfl, e1, rfl⟩
  have ok1 := putOk h hp (by omega) e1
  repeat' (first | (refine go1 ?_; intros) | (refine vl_caseG rfl rfl rfl rfl ?_ ?_ <;> (intro hb; (try simp only [decide_eq_true_eq, decide_eq_false_iff_not, Bool.not_eq_true', Bool.not_eq_false', ne_eq, Decidable.not_not, Option.isNone_iff_eq_none, not_true_eq_false, not_false_eq_true] at hb); try (exfalso; omega))) | (refine v_cond rfl ?_ ?_ <;> (intro hb; (try simp only [decide_eq_true_eq, decide_eq_false_iff_not, Bool.not_eq_true', Bool.not_eq_false', ne_eq, Decidable.not_not, Option.isNone_iff_eq_none, not_true_eq_false, not_false_eq_true] at hb); try (exfalso; omega))) | fail)
  refine vl_o rfl (vo_call rfl rfl ?_)
  refine vc_mono (pput_vc w0 _ a1 c1 n1 q.key q.a q.c q.v rfl rfl ok1 hq (by omega)) ?_
  rintro u L' ⟨_, rfl, a2, c2, n2, rfl, e2, rfl⟩
  have ok2 := putOk ok1 hq (by omega) e2
  repeat' (first | (refine go1 ?_; intros) | (refine vl_caseG rfl rfl rfl rfl ?_ ?_ <;> (intro hb; (try simp only [decide_eq_true_eq, decide_eq_false_iff_not, Bool.not_eq_true', Bool.not_eq_false', ne_eq, Decidable.not_not, Option.isNone_iff_eq_none, not_true_eq_false, not_false_eq_true] at hb); try (exfalso; omega))) | (refine v_cond rfl ?_ ?_ <;> (intro hb; (try simp only [decide_eq_true_eq, decide_eq_false_iff_not, Bool.not_eq_true', Bool.not_eq_false', ne_eq, Decidable.not_not, Option.isNone_iff_eq_none, not_true_eq_false, not_false_eq_true] at hb); try (exfalso; omega))) | fail)
  refine vl_o rfl (vo_call rfl rfl ?_)
  refine vc_mono (pput_vc w0 _ a c ps q.key q.a q.c q.v rfl rfl h hq (by omega)) ?_
  rintro u L' ⟨_, rfl, a3, c3, n3, rfl, e3, rfl⟩
  have ok3 := putOk h hq (by omega) e3
  repeat' (first | (refine go1 ?_; intros) | (refine vl_caseG rfl rfl rfl rfl ?_ ?_ <;> (intro hb; (try simp only [decide_eq_true_eq, decide_eq_false_iff_not, Bool.not_eq_true', Bool.not_eq_false', ne_eq, Decidable.not_not, Option.isNone_iff_eq_none, not_true_eq_false, not_false_eq_true] at hb); try (exfalso; omega))) | (refine v_cond rfl ?_ ?_ <;> (intro hb; (try simp only [decide_eq_true_eq, decide_eq_false_iff_not, Bool.not_eq_true', Bool.not_eq_false', ne_eq, Decidable.not_not, Option.isNone_iff_eq_none, not_true_eq_false, not_false_eq_true] at hb); try (exfalso; omega))) | fail)
  refine vl_o rfl (vo_call rfl rfl ?_)
  refine vc_mono (pput_vc w0 _ a3 c3 n3 p.key p.a p.c p.v rfl rfl ok3 hp (by omega)) ?_
  rintro u L' ⟨_, rfl, a4, c4, n4, rfl, e4, rfl⟩
  have ok4 := putOk ok3 hp (by omega) e4
  -- which of them go
  have hw : putE (kvs ps) p.key p.v = 0 ∧ putE (kvs n1) q.key q.v = 0 → putE (kvs ps) q.key q.v = 0 ∧ putE (kvs n3) p.key p.v = 0 ∧ kvs n4 = kvs n2 ∧ MapOk (kvs n2) := by
    rintro ⟨x1, x2⟩
    have y1 : kvs n1 = putF (kvs ps) p.key p.v := by rw [e1, putM, if_pos x1]
    have y2 : kvs n2 = putF (kvs n1) q.key q.v := by rw [e2, putM, if_pos x2]
    rw [y1] at x2 y2
    obtain ⟨z1, z2, z3⟩ := ways h.k32 hp hq hpq x1 x2
    have y3 : kvs n3 = putF (kvs ps) q.key q.v := by rw [e3, putM, if_pos z1]
    rw [← y3] at z2 z3
    have y4 : kvs n4 = putF (kvs n3) p.key p.v := by rw [e4, putM, if_pos z2]
    refine ⟨z1, z2, by rw [y4, z3, y2], ?_⟩
    rw [y2]
    exact mapOk_put x2 (h.k32.put hp) hq
  have hw2 : putE (kvs ps) q.key q.v = 0 ∧ putE (kvs n3) p.key p.v = 0 → putE (kvs ps) p.key p.v = 0 ∧ putE (kvs n1) q.key q.v = 0 := by
    rintro ⟨x1, x2⟩
    have y3 : kvs n3 = putF (kvs ps) q.key q.v := by rw [e3, putM, if_pos x1]
    rw [y3] at x2
    obtain ⟨z1, z2, z3⟩ := ways h.k32 hq hp (fun e => hpq e.symm) x1 x2
    have y1 : kvs n1 = putF (kvs ps) p.key p.v := by rw [e1, putM, if_pos z1]
    exact ⟨z1, by rw [y1]; exact z2⟩
  by_cases hall : putE (kvs ps) p.key p.v = 0 ∧ putE (kvs n1) q.key q.v = 0
  · obtain ⟨z1, z2, z3, z4⟩ := hw hall
    rw [hall.1, hall.2, z1, z2]
    repeat' (first | (refine go1 ?_; intros) | (refine vl_caseG rfl rfl rfl rfl ?_ ?_ <;> (intro hb; (try simp only [decide_eq_true_eq, decide_eq_false_iff_not, Bool.not_eq_true', Bool.not_eq_false', ne_eq, Decidable.not_not, Option.isNone_iff_eq_none, not_true_eq_false, not_false_eq_true] at hb); try (exfalso; omega))) | (refine v_cond rfl ?_ ?_ <;> (intro hb; (try simp only [decide_eq_true_eq, decide_eq_false_iff_not, Bool.not_eq_true', Bool.not_eq_false', ne_eq, Decidable.not_not, Option.isNone_iff_eq_none, not_true_eq_false, not_false_eq_true] at hb); try (exfalso; omega))) | fail)
    refine vl_o rfl (vo_call rfl rfl ?_)
    refine vc_know (φ := n2.length ≤ c2) (fun w hs => ?_) (fun hc2 => ?_)
    · first | exact (hs.ownLen 4 rfl).2.1 | exact (hs.ownLen 5 rfl).2.1 | exact (hs.ownLen 3 rfl).2.1 | exact (hs.ownLen 6 rfl).2.1
    refine vc_mono (pRoot_vc w0 _ a2 c2 n2 rfl hc2 ok2) ?_
    rintro u L' ⟨rfl, rfl⟩
    have hS := rootM_len (kvs n2)
    rw [if_pos z4]
    repeat' (first | (refine go1 ?_; intros) | (refine vl_caseG rfl rfl rfl rfl ?_ ?_ <;> (intro hb; (try simp only [decide_eq_true_eq, decide_eq_false_iff_not, Bool.not_eq_true', Bool.not_eq_false', ne_eq, Decidable.not_not, Option.isNone_iff_eq_none, not_true_eq_false, not_false_eq_true] at hb); try (exfalso; omega))) | (refine v_cond rfl ?_ ?_ <;> (intro hb; (try simp only [decide_eq_true_eq, decide_eq_false_iff_not, Bool.not_eq_true', Bool.not_eq_false', ne_eq, Decidable.not_not, Option.isNone_iff_eq_none, not_true_eq_false, not_false_eq_true] at hb); try (exfalso; omega))) | fail)
    refine vl_o rfl (vo_call rfl rfl ?_)
    refine vc_know (φ := n4.length ≤ c4) (fun w hs => ?_) (fun hc4 => ?_)
    · first | exact (hs.ownLen 1 rfl).2.1 | exact (hs.ownLen 0 rfl).2.1 | exact (hs.ownLen 2 rfl).2.1
    refine vc_mono (pRoot_vc w0 _ a4 c4 n4 rfl hc4 ok4) ?_
    rintro u L' ⟨rfl, rfl⟩
    rw [z3, if_pos z4]
    generalize rootM (kvs n2) = S at *
    repeat' (first | (refine goE ?_; intros) | (refine vl_caseG rfl rfl rfl rfl ?_ ?_ <;> (intro hb; (try simp only [decide_eq_true_eq, decide_eq_false_iff_not, Bool.not_eq_true', Bool.not_eq_false', ne_eq, Decidable.not_not, Option.isNone_iff_eq_none, not_true_eq_false, not_false_eq_true] at hb); try (exfalso; omega))) | (refine v_cond rfl ?_ ?_ <;> (intro hb; (try simp only [decide_eq_true_eq, decide_eq_false_iff_not, Bool.not_eq_true', Bool.not_eq_false', ne_eq, Decidable.not_not, Option.isNone_iff_eq_none, not_true_eq_false, not_false_eq_true] at hb); try (exfalso; omega))) | fail)
    refine vl_o rfl (vo_call rfl rfl ?_)
    refine vc_mono (rsame_vc w0 _ a2 c2 n2 a4 c4 n4 rfl rfl ok2 ok4) ?_
    rintro u L' ⟨rfl, rfl⟩
    rw [decide_eq_true z3.symm]
    repeat' (first | (refine goE ?_; intros) | (refine vl_caseG rfl rfl rfl rfl ?_ ?_ <;> (intro hb; (try simp only [decide_eq_true_eq, decide_eq_false_iff_not, Bool.not_eq_true', Bool.not_eq_false', ne_eq, Decidable.not_not, Option.isNone_iff_eq_none, not_true_eq_false, not_false_eq_true] at hb); try (exfalso; omega))) | (refine v_cond rfl ?_ ?_ <;> (intro hb; (try simp only [decide_eq_true_eq, decide_eq_false_iff_not, Bool.not_eq_true', Bool.not_eq_false', ne_eq, Decidable.not_not, Option.isNone_iff_eq_none, not_true_eq_false, not_false_eq_true] at hb); try (exfalso; omega))) | fail)
    rfl
  · have hnot : ¬ (putE (kvs ps) q.key q.v = 0 ∧ putE (kvs n3) p.key p.v = 0) := fun e => hall (hw2 e)
    generalize putE (kvs ps) p.key p.v = E1 at *
    generalize putE (kvs n1) q.key q.v = E2 at *
    generalize putE (kvs ps) q.key q.v = E3 at *
    generalize putE (kvs n3) p.key p.v = E4 at *
    repeat' (first | (refine go1 ?_; intros) | (refine vl_caseG rfl rfl rfl rfl ?_ ?_ <;> (intro hb; (try simp only [decide_eq_true_eq, decide_eq_false_iff_not, Bool.not_eq_true', Bool.not_eq_false', ne_eq, Decidable.not_not, Option.isNone_iff_eq_none, not_true_eq_false, not_false_eq_true] at hb); try (exfalso; omega))) | (refine v_cond rfl ?_ ?_ <;> (intro hb; (try simp only [decide_eq_true_eq, decide_eq_false_iff_not, Bool.not_eq_true', Bool.not_eq_false', ne_eq, Decidable.not_not, Option.isNone_iff_eq_none, not_true_eq_false, not_false_eq_true] at hb); try (exfalso; omega))) | fail)
    all_goals first | rfl | (exfalso; omega) | skip
    all_goals first | rfl | (simp; omega) | skip
end Go.Proofs.YtmfpiodcioakhaaDoor
