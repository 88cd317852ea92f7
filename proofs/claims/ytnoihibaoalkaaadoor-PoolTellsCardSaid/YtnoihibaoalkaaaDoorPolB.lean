/-
  Pools: how great one is, how many transactions it has, twins, whether two are the same.
-/
import Derived.Test.YtnoihibaoalkaaaDoorPolA
set_option linter.unusedVariables false
set_option linter.unusedSimpArgs false
namespace Go.Proofs.YtnoihibaoalkaaaDoor
open Go Go.RowKit
set_option linter.unusedVariables false
set_option linter.unusedSimpArgs false
open Classical

set_option maxRecDepth 100000 in
set_option maxHeartbeats 1000000 in
theorem great21_vc (w0 : World) (L : List Asn) (a : Option Addr) (c : Nat) (ss : List Sh) {n : Nat} (hn : n = ss.length) (hk : ∀ s ∈ ss, s.ls.length ≤ 9223372036854775807 ∧ ∀ p ∈ s.ls, p.own.length = 32 ∧ (∀ x ∈ p.xs, x.ok) ∧ p.xs.length ≤ 9223372036854775807) (hl : ss.length ≤ 9223372036854775807) [hr : RdC w0 L a (shc ss)] [hv : RdSs w0 L ss] :
    VC Tryd.prog w0 23 [.slice a n c] L fun v L' => ∃ b, v = .bool b ∧ (b = false → ss.length ≤ 10 ∧ SsOk ss) ∧ L' = L := by
  subst hn
  refine vc_ent ?_
  refine vc_in rfl rfl ?_
  repeat' (first | (refine go1 ?_; intros) | (refine vl_caseG rfl rfl rfl rfl ?_ ?_ <;> (intro hb; (try simp only [decide_eq_true_eq, decide_eq_false_iff_not, Bool.not_eq_true', Bool.not_eq_false', ne_eq, Decidable.not_not, Option.isNone_iff_eq_none, not_true_eq_false, not_false_eq_true] at hb); try (exfalso; omega))) | (refine v_cond rfl ?_ ?_ <;> (intro hb; (try simp only [decide_eq_true_eq, decide_eq_false_iff_not, Bool.not_eq_true', Bool.not_eq_false', ne_eq, Decidable.not_not, Option.isNone_iff_eq_none, not_true_eq_false, not_false_eq_true] at hb); try (exfalso; omega))) | fail)
  refine v_loopS Nat [0] rfl (fun i => [(3, .int .i64 i)]) (fun i => i ≤ ss.length ∧ i ≤ 10 ∧ ∀ j (hj : j < ss.length), j < i → LsOk ss[j].ls) (fun i => ss.length - i) 0 ⟨Nat.zero_le _, Nat.zero_le _, fun j hj h => by omega⟩ (by (repeat' (first | exact Sub.nil _ | refine Sub.cons rfl rfl ?_ | refine Sub.cons rfl ?_ ?_))) (fun i ⟨hi, h10, hj⟩ => ?_)
  by_cases hlt : i < ss.length ∧ i < 10
  · obtain ⟨h1, h2⟩ := hlt
    have e' := shs_e1 i h1
    have hpos : 0 < (shc ss).length := by rw [shs_len]; omega
    obtain ⟨k1, k2⟩ := hk _ (List.getElem_mem h1)
    haveI := hv.at i h1
    haveI := hv.at2 i h1
    repeat' (first | (refine go1 ?_; intros) | (refine vl_caseG rfl rfl rfl rfl ?_ ?_ <;> (intro hb; (try simp only [decide_eq_true_eq, decide_eq_false_iff_not, Bool.not_eq_true', Bool.not_eq_false', ne_eq, Decidable.not_not, Option.isNone_iff_eq_none, not_true_eq_false, not_false_eq_true] at hb); try (exfalso; omega))) | (refine v_cond rfl ?_ ?_ <;> (intro hb; (try simp only [decide_eq_true_eq, decide_eq_false_iff_not, Bool.not_eq_true', Bool.not_eq_false', ne_eq, Decidable.not_not, Option.isNone_iff_eq_none, not_true_eq_false, not_false_eq_true] at hb); try (exfalso; omega))) | fail)
    all_goals first | (exfalso; omega) | skip
    refine vl_o rfl (vo_call rfl rfl ?_)
    refine vc_mono (great20_vc w0 _ ss[i].a ss[i].c ss[i].ls rfl (fun p hp => ⟨(k2 p hp).1, (k2 p hp).2.2⟩) k1) ?_
    rintro v L' ⟨b, rfl, hg, hL⟩
    obtain rfl := hL.symm
    cases b with
    | true =>
      repeat' (first | (refine go1 ?_; intros) | (refine vl_caseG rfl rfl rfl rfl ?_ ?_ <;> (intro hb; (try simp only [decide_eq_true_eq, decide_eq_false_iff_not, Bool.not_eq_true', Bool.not_eq_false', ne_eq, Decidable.not_not, Option.isNone_iff_eq_none, not_true_eq_false, not_false_eq_true] at hb); try (exfalso; omega))) | (refine v_cond rfl ?_ ?_ <;> (intro hb; (try simp only [decide_eq_true_eq, decide_eq_false_iff_not, Bool.not_eq_true', Bool.not_eq_false', ne_eq, Decidable.not_not, Option.isNone_iff_eq_none, not_true_eq_false, not_false_eq_true] at hb); try (exfalso; omega))) | fail)
      exact ⟨L, sei _ _ _, true, rfl, by simp, rfl⟩
    | false =>
      obtain ⟨g1, g2⟩ := hg rfl
      repeat' (first | (refine go1 ?_; intros) | (refine vl_caseG rfl rfl rfl rfl ?_ ?_ <;> (intro hb; (try simp only [decide_eq_true_eq, decide_eq_false_iff_not, Bool.not_eq_true', Bool.not_eq_false', ne_eq, Decidable.not_not, Option.isNone_iff_eq_none, not_true_eq_false, not_false_eq_true] at hb); try (exfalso; omega))) | (refine v_cond rfl ?_ ?_ <;> (intro hb; (try simp only [decide_eq_true_eq, decide_eq_false_iff_not, Bool.not_eq_true', Bool.not_eq_false', ne_eq, Decidable.not_not, Option.isNone_iff_eq_none, not_true_eq_false, not_false_eq_true] at hb); try (exfalso; omega))) | fail)
      refine ⟨rfl, i + 1, ⟨by omega, by omega, fun j hj2 hji => ?_⟩, by omega, by (repeat' (first | exact Sub.nil _ | refine Sub.cons rfl rfl ?_ | refine Sub.cons rfl ?_ ?_)), Ent.refl _ _⟩
      by_cases e : j = i
      · subst e
        exact ⟨fun p hp => ⟨(k2 p hp).1, (k2 p hp).2.1, by have := g2 p hp; omega⟩, by omega⟩
      · exact hj j hj2 (by omega)
  · repeat' (first | (refine go1 ?_; intros) | (refine vl_caseG rfl rfl rfl rfl ?_ ?_ <;> (intro hb; (try simp only [decide_eq_true_eq, decide_eq_false_iff_not, Bool.not_eq_true', Bool.not_eq_false', ne_eq, Decidable.not_not, Option.isNone_iff_eq_none, not_true_eq_false, not_false_eq_true] at hb); try (exfalso; omega))) | (refine v_cond rfl ?_ ?_ <;> (intro hb; (try simp only [decide_eq_true_eq, decide_eq_false_iff_not, Bool.not_eq_true', Bool.not_eq_false', ne_eq, Decidable.not_not, Option.isNone_iff_eq_none, not_true_eq_false, not_false_eq_true] at hb); try (exfalso; omega))) | fail)
    all_goals first
      | (exfalso; omega)
      | (refine ⟨L, sei _ _ _, _, rfl, fun e => ?_, rfl⟩
         have h3 := of_decide_eq_false e
         refine ⟨by omega, fun s hs => ?_, by omega⟩
         obtain ⟨j, hj2, rfl⟩ := List.getElem_of_mem hs
         exact hj j hj2 (by omega))
theorem cntS_take {ss : List Sh} {i : Nat} (hi : i < ss.length) : ((ss.take (i + 1)).map fun s => cntL s.ls).sum = ((ss.take i).map fun s => cntL s.ls).sum + cntL ss[i].ls := by
  rw [List.take_succ_eq_append_getElem hi, List.map_append, List.sum_append]
  simp only [List.map_cons, List.map_nil, List.sum_cons, List.sum_nil, Nat.add_zero]
def cntS (ss : List Sh) : Nat := (ss.map fun s => cntL s.ls).sum
/-- Few enough that their count is no overflow. -/
theorem cntS_le {ss : List Sh} (h : SsOk ss) (hl : ss.length ≤ 10) (h6 : ∀ s ∈ ss, cntL s.ls ≤ 1000000000000) : ∀ i, ((ss.take i).map fun s => cntL s.ls).sum ≤ 10000000000000 := by
  intro i
  have key : ∀ l : List Sh, (∀ s ∈ l, cntL s.ls ≤ 1000000000000) → (l.map fun s => cntL s.ls).sum ≤ l.length * 1000000000000 := by
    intro l
    induction l with
    | nil => intro _; simp
    | cons x l ih =>
      intro hx
      have h1 := ih (fun s hs => hx s (List.mem_cons_of_mem _ hs))
      have h2 := hx x (by simp)
      simp only [List.map_cons, List.sum_cons, List.length_cons]
      omega
  have := key (ss.take i) (fun s hs => h6 s (List.mem_of_mem_take hs))
  have hle : (ss.take i).length ≤ 10 := by rw [List.length_take]; omega
  omega
set_option maxRecDepth 100000 in
set_option maxHeartbeats 1000000 in
theorem pcount_vc (w0 : World) (L : List Asn) (a : Option Addr) (c : Nat) (ss : List Sh) {n : Nat} (hn : n = ss.length) (h : SsOk ss) (hl : ss.length ≤ 10) [hr : RdC w0 L a (shc ss)] [hv : RdSs w0 L ss] :
    VC Tryd.prog w0 32 [.slice a n c] L fun v L' => v = .int .i64 (cntS ss) ∧ L' = L := by
  subst hn
  have hlen := h.len
  have hb := cntS_le h hl (fun s hs => Nat.le_trans (cntL_le (h.ok s hs)) (by have := (h.ok s hs).len; omega))
  refine vc_ent ?_
  refine vc_in rfl rfl ?_
  repeat' (first | (refine go1 ?_; intros) | (refine vl_caseG rfl rfl rfl rfl ?_ ?_ <;> (intro hb; (try simp only [decide_eq_true_eq, decide_eq_false_iff_not, Bool.not_eq_true', Bool.not_eq_false', ne_eq, Decidable.not_not, Option.isNone_iff_eq_none, not_true_eq_false, not_false_eq_true] at hb); try (exfalso; omega))) | (refine v_cond rfl ?_ ?_ <;> (intro hb; (try simp only [decide_eq_true_eq, decide_eq_false_iff_not, Bool.not_eq_true', Bool.not_eq_false', ne_eq, Decidable.not_not, Option.isNone_iff_eq_none, not_true_eq_false, not_false_eq_true] at hb); try (exfalso; omega))) | fail)
  refine v_loopS (Nat × Nat) [5, 6] rfl (fun x => [(7, .int .i64 x.1), (2, .int .i64 x.2)]) (fun x => x.1 ≤ ss.length ∧ x.2 = ((ss.take x.1).map fun s => cntL s.ls).sum) (fun x => ss.length - x.1) (0, 0) ⟨Nat.zero_le _, rfl⟩ (by (repeat' (first | exact Sub.nil _ | refine Sub.cons rfl rfl ?_ | refine Sub.cons rfl ?_ ?_))) ?_
  rintro ⟨i, k⟩ ⟨hi, hk⟩
  dsimp only at hi hk ⊢
  by_cases hlt : i < ss.length
  · have e' := shs_e1 i hlt
    have hpos := h.pos i hlt
    haveI := hv.at i hlt
    haveI := hv.at2 i hlt
    have hst := cntS_take hlt
    have hb2 := hb (i + 1)
    rw [hst] at hb2
    rw [← hk] at hst hb2
    have sok := h.at i hlt
    repeat' (first | (refine go1 ?_; intros) | (refine vl_caseG rfl rfl rfl rfl ?_ ?_ <;> (intro hb; (try simp only [decide_eq_true_eq, decide_eq_false_iff_not, Bool.not_eq_true', Bool.not_eq_false', ne_eq, Decidable.not_not, Option.isNone_iff_eq_none, not_true_eq_false, not_false_eq_true] at hb); try (exfalso; omega))) | (refine v_cond rfl ?_ ?_ <;> (intro hb; (try simp only [decide_eq_true_eq, decide_eq_false_iff_not, Bool.not_eq_true', Bool.not_eq_false', ne_eq, Decidable.not_not, Option.isNone_iff_eq_none, not_true_eq_false, not_false_eq_true] at hb); try (exfalso; omega))) | fail)
    refine vl_o rfl (vo_call rfl rfl ?_)
    refine vc_mono (scount_vc w0 _ ss[i].a ss[i].c ss[i].ls rfl sok) ?_
    rintro v L' ⟨rfl, rfl⟩
    repeat' (first | (refine go1 ?_; intros) | (refine vl_caseG rfl rfl rfl rfl ?_ ?_ <;> (intro hb; (try simp only [decide_eq_true_eq, decide_eq_false_iff_not, Bool.not_eq_true', Bool.not_eq_false', ne_eq, Decidable.not_not, Option.isNone_iff_eq_none, not_true_eq_false, not_false_eq_true] at hb); try (exfalso; omega))) | (refine v_cond rfl ?_ ?_ <;> (intro hb; (try simp only [decide_eq_true_eq, decide_eq_false_iff_not, Bool.not_eq_true', Bool.not_eq_false', ne_eq, Decidable.not_not, Option.isNone_iff_eq_none, not_true_eq_false, not_false_eq_true] at hb); try (exfalso; omega))) | fail)
    refine ⟨rfl, (i + 1, k + cntL ss[i].ls), ⟨by dsimp only; omega, by dsimp only; omega⟩, by dsimp only; omega, ?_, sei _ _ _⟩
    (repeat' (first | exact Sub.nil _ | refine Sub.cons rfl rfl ?_ | refine Sub.cons rfl ?_ ?_))
  · obtain rfl : i = ss.length := by omega
    rw [List.take_length] at hk
    repeat' (first | (refine go1 ?_; intros) | (refine vl_caseG rfl rfl rfl rfl ?_ ?_ <;> (intro hb; (try simp only [decide_eq_true_eq, decide_eq_false_iff_not, Bool.not_eq_true', Bool.not_eq_false', ne_eq, Decidable.not_not, Option.isNone_iff_eq_none, not_true_eq_false, not_false_eq_true] at hb); try (exfalso; omega))) | (refine v_cond rfl ?_ ?_ <;> (intro hb; (try simp only [decide_eq_true_eq, decide_eq_false_iff_not, Bool.not_eq_true', Bool.not_eq_false', ne_eq, Decidable.not_not, Option.isNone_iff_eq_none, not_true_eq_false, not_false_eq_true] at hb); try (exfalso; omega))) | fail)
    exact ⟨L, sei _ _ _, by rw [hk]; rfl, rfl⟩
set_option maxRecDepth 100000 in
set_option maxHeartbeats 1000000 in
theorem rcount21_vc (w0 : World) (L : List Asn) (a : Option Addr) (c : Nat) (ss : List Sh) {n : Nat} (hn : n = ss.length) (h : SsOk ss) (hl : ss.length ≤ 10) [hr : RdC w0 L a (shc ss)] [hv : RdSs w0 L ss] :
    VC Tryd.prog w0 33 [.slice a n c] L fun v L' => v = .int .i64 (cntS ss) ∧ L' = L := by
  subst hn
  have hlen := h.len
  have hb := cntS_le h hl (fun s hs => Nat.le_trans (cntL_le (h.ok s hs)) (by have := (h.ok s hs).len; omega))
  refine vc_ent ?_
  refine vc_in rfl rfl ?_
  repeat' (first | (refine go1 ?_; intros) | (refine vl_caseG rfl rfl rfl rfl ?_ ?_ <;> (intro hb; (try simp only [decide_eq_true_eq, decide_eq_false_iff_not, Bool.not_eq_true', Bool.not_eq_false', ne_eq, Decidable.not_not, Option.isNone_iff_eq_none, not_true_eq_false, not_false_eq_true] at hb); try (exfalso; omega))) | (refine v_cond rfl ?_ ?_ <;> (intro hb; (try simp only [decide_eq_true_eq, decide_eq_false_iff_not, Bool.not_eq_true', Bool.not_eq_false', ne_eq, Decidable.not_not, Option.isNone_iff_eq_none, not_true_eq_false, not_false_eq_true] at hb); try (exfalso; omega))) | fail)
  refine v_loopS (Nat × Nat) [0] rfl (fun x => [(4, .int .i64 x.1), (3, .int .i64 x.2)]) (fun x => x.1 ≤ ss.length ∧ x.2 = ((ss.take x.1).map fun s => cntL s.ls).sum) (fun x => ss.length - x.1) (0, 0) ⟨Nat.zero_le _, rfl⟩ (by (repeat' (first | exact Sub.nil _ | refine Sub.cons rfl rfl ?_ | refine Sub.cons rfl ?_ ?_))) ?_
  rintro ⟨i, k⟩ ⟨hi, hk⟩
  dsimp only at hi hk ⊢
  by_cases hlt : i < ss.length
  · have e' := shs_e1 i hlt
    have hpos := h.pos i hlt
    haveI := hv.at i hlt
    haveI := hv.at2 i hlt
    have hst := cntS_take hlt
    have hb2 := hb (i + 1)
    rw [hst] at hb2
    rw [← hk] at hst hb2
    have sok := h.at i hlt
    repeat' (first | (refine go1 ?_; intros) | (refine vl_caseG rfl rfl rfl rfl ?_ ?_ <;> (intro hb; (try simp only [decide_eq_true_eq, decide_eq_false_iff_not, Bool.not_eq_true', Bool.not_eq_false', ne_eq, Decidable.not_not, Option.isNone_iff_eq_none, not_true_eq_false, not_false_eq_true] at hb); try (exfalso; omega))) | (refine v_cond rfl ?_ ?_ <;> (intro hb; (try simp only [decide_eq_true_eq, decide_eq_false_iff_not, Bool.not_eq_true', Bool.not_eq_false', ne_eq, Decidable.not_not, Option.isNone_iff_eq_none, not_true_eq_false, not_false_eq_true] at hb); try (exfalso; omega))) | fail)
    refine vl_o rfl (vo_call rfl rfl ?_)
    refine vc_mono (rcount20_vc w0 _ ss[i].a ss[i].c ss[i].ls rfl sok) ?_
    rintro v L' ⟨rfl, rfl⟩
    repeat' (first | (refine go1 ?_; intros) | (refine vl_caseG rfl rfl rfl rfl ?_ ?_ <;> (intro hb; (try simp only [decide_eq_true_eq, decide_eq_false_iff_not, Bool.not_eq_true', Bool.not_eq_false', ne_eq, Decidable.not_not, Option.isNone_iff_eq_none, not_true_eq_false, not_false_eq_true] at hb); try (exfalso; omega))) | (refine v_cond rfl ?_ ?_ <;> (intro hb; (try simp only [decide_eq_true_eq, decide_eq_false_iff_not, Bool.not_eq_true', Bool.not_eq_false', ne_eq, Decidable.not_not, Option.isNone_iff_eq_none, not_true_eq_false, not_false_eq_true] at hb); try (exfalso; omega))) | fail)
    refine ⟨rfl, (i + 1, k + cntL ss[i].ls), ⟨by dsimp only; omega, by dsimp only; omega⟩, by dsimp only; omega, ?_, sei _ _ _⟩
    (repeat' (first | exact Sub.nil _ | refine Sub.cons rfl rfl ?_ | refine Sub.cons rfl ?_ ?_))
  · obtain rfl : i = ss.length := by omega
    rw [List.take_length] at hk
    repeat' (first | (refine go1 ?_; intros) | (refine vl_caseG rfl rfl rfl rfl ?_ ?_ <;> (intro hb; (try simp only [decide_eq_true_eq, decide_eq_false_iff_not, Bool.not_eq_true', Bool.not_eq_false', ne_eq, Decidable.not_not, Option.isNone_iff_eq_none, not_true_eq_false, not_false_eq_true] at hb); try (exfalso; omega))) | (refine v_cond rfl ?_ ?_ <;> (intro hb; (try simp only [decide_eq_true_eq, decide_eq_false_iff_not, Bool.not_eq_true', Bool.not_eq_false', ne_eq, Decidable.not_not, Option.isNone_iff_eq_none, not_true_eq_false, not_false_eq_true] at hb); try (exfalso; omega))) | fail)
    exact ⟨L, sei _ _ _, by rw [hk]; rfl, rfl⟩
/-! ### Twins -/
theorem shl_snoc {ss ts : List Sh} {i : Nat} (hi : i < ss.length) (hp : shl ts = (shl ss).take i) (s : Sh) (hs : lls s.ls = lls ss[i].ls) : shl (ts ++ [s]) = (shl ss).take (i + 1) := by
  show List.map _ (ts ++ [s]) = _
  rw [List.map_append, show List.map (fun s : Sh => lls s.ls) ts = shl ts from rfl, hp, List.take_succ_eq_append_getElem (by simpa using hi), List.getElem_map]
  simp [hs]
set_option maxRecDepth 100000 in
set_option maxHeartbeats 1000000 in
theorem rtwin21_vc (w0 : World) (L : List Asn) (a : Option Addr) (c : Nat) (ss : List Sh) {n : Nat} (hn : n = ss.length) (h : SsOk ss) [hr : RdC w0 L a (shc ss)] [hv : RdSs w0 L ss] :
    VC Tryd.prog w0 24 [.slice a n c] L (RPo L ss) := by
  subst hn
  have hlen := h.len
  refine vc_ent ?_
  refine vc_in rfl rfl ?_
  repeat' (first | (refine go1 ?_; intros) | (refine vl_caseG rfl rfl rfl rfl ?_ ?_ <;> (intro hb; (try simp only [decide_eq_true_eq, decide_eq_false_iff_not, Bool.not_eq_true', Bool.not_eq_false', ne_eq, Decidable.not_not, Option.isNone_iff_eq_none, not_true_eq_false, not_false_eq_true] at hb); try (exfalso; omega))) | (refine v_cond rfl ?_ ?_ <;> (intro hb; (try simp only [decide_eq_true_eq, decide_eq_false_iff_not, Bool.not_eq_true', Bool.not_eq_false', ne_eq, Decidable.not_not, Option.isNone_iff_eq_none, not_true_eq_false, not_false_eq_true] at hb); try (exfalso; omega))) | fail)
  refine v_loopF (List Sh × Option Addr × Nat) [0] rfl (fun x => [(4, .int .i64 x.1.length), (3, .slice x.2.1 x.1.length x.2.2)]) (fun _ x => ownSs x.2.1 x.2.2 x.1 :: shA x.1 :: L) (fun x => x.1.length ≤ ss.length ∧ shl x.1 = (shl ss).take x.1.length) (fun x => ss.length - x.1.length) ([], none, 0) ⟨Nat.zero_le _, by simp⟩ (by (repeat' (first | exact Sub.nil _ | refine Sub.cons rfl rfl ?_ | refine Sub.cons rfl ?_ ?_))) ((se_ss_nil L).ent w0) ?_
  rintro ⟨ts, a', c'⟩ ⟨hi, hp⟩
  dsimp only at hi hp ⊢
  obtain ⟨i, hni⟩ : ∃ i, i = ts.length := ⟨_, rfl⟩
  rw [← hni] at hi hp
  by_cases hlt : i < ss.length
  · rw [show ownSs a' c' ts = own 128 1 a' i c' (shc ts) by rw [hni], ← hni]
    have e' := shs_e1 i hlt
    have hpos := h.pos i hlt
    haveI := hv.at i hlt
    haveI := hv.at2 i hlt
    have sok := h.at i hlt
    have htl : (shc ts).length = i := by rw [shs_len, hni]
    repeat' (first | (refine go1 ?_; intros) | (refine vl_caseG rfl rfl rfl rfl ?_ ?_ <;> (intro hb; (try simp only [decide_eq_true_eq, decide_eq_false_iff_not, Bool.not_eq_true', Bool.not_eq_false', ne_eq, Decidable.not_not, Option.isNone_iff_eq_none, not_true_eq_false, not_false_eq_true] at hb); try (exfalso; omega))) | (refine v_cond rfl ?_ ?_ <;> (intro hb; (try simp only [decide_eq_true_eq, decide_eq_false_iff_not, Bool.not_eq_true', Bool.not_eq_false', ne_eq, Decidable.not_not, Option.isNone_iff_eq_none, not_true_eq_false, not_false_eq_true] at hb); try (exfalso; omega))) | fail)
    refine vl_o rfl (vo_call rfl rfl ?_)
    refine vc_mono (rtwin20_vc w0 _ ss[i].a ss[i].c ss[i].ls rfl sok) ?_
    rintro v L' ⟨a2, c2, ms, rfl, hms, rfl⟩
    repeat' (first | (refine go1 ?_; intros) | (refine vl_caseG rfl rfl rfl rfl ?_ ?_ <;> (intro hb; (try simp only [decide_eq_true_eq, decide_eq_false_iff_not, Bool.not_eq_true', Bool.not_eq_false', ne_eq, Decidable.not_not, Option.isNone_iff_eq_none, not_true_eq_false, not_false_eq_true] at hb); try (exfalso; omega))) | (refine v_cond rfl ?_ ?_ <;> (intro hb; (try simp only [decide_eq_true_eq, decide_eq_false_iff_not, Bool.not_eq_true', Bool.not_eq_false', ne_eq, Decidable.not_not, Option.isNone_iff_eq_none, not_true_eq_false, not_false_eq_true] at hb); try (exfalso; omega))) | fail)
    rename_i g a3 c3 _ _
    refine ⟨rfl, (ts ++ [⟨a2, c2, ms⟩], a3, c3), ⟨by simp; omega, ?_⟩, by simp; omega, ?_, ?_⟩
    · simp only [List.length_append, List.length_cons, List.length_nil, ← hni, Nat.zero_add]
      exact shl_snoc hlt hp ⟨a2, c2, ms⟩ hms
    · simp only [List.length_append, List.length_cons, List.length_nil, ← hni, Nat.zero_add]
      (repeat' (first | exact Sub.nil _ | refine Sub.cons rfl rfl ?_ | refine Sub.cons rfl ?_ ?_))
    · rw [ownSs_snoc, ← hni]
      simp only [List.append_nil]
      refine (sei w0 _ (ownLs a2 c2 ms :: tsA ms :: shA ts :: own 128 1 a3 (i + 1) c3 (shc ts ++ [.slice a2 ms.length c2]) :: L)).trans (((se_shA_snoc ts _ ⟨a2, c2, ms⟩).ent w0).trans ((se_swap _ _ _).ent w0))
  · have hin : i = ss.length := by omega
    repeat' (first | (refine go1 ?_; intros) | (refine vl_caseG rfl rfl rfl rfl ?_ ?_ <;> (intro hb; (try simp only [decide_eq_true_eq, decide_eq_false_iff_not, Bool.not_eq_true', Bool.not_eq_false', ne_eq, Decidable.not_not, Option.isNone_iff_eq_none, not_true_eq_false, not_false_eq_true] at hb); try (exfalso; omega))) | (refine v_cond rfl ?_ ?_ <;> (intro hb; (try simp only [decide_eq_true_eq, decide_eq_false_iff_not, Bool.not_eq_true', Bool.not_eq_false', ne_eq, Decidable.not_not, Option.isNone_iff_eq_none, not_true_eq_false, not_false_eq_true] at hb); try (exfalso; omega))) | fail)
    exact ⟨_, Ent.refl _ _, a', c', ts, rfl, by rw [hp, List.take_of_length_le (by simp; omega)], rfl⟩
set_option maxRecDepth 100000 in
set_option maxHeartbeats 1000000 in
theorem ptwin21_vc (w0 : World) (L : List Asn) (a : Option Addr) (c : Nat) (ss : List Sh) {n : Nat} (hn : n = ss.length) (h : SsOk ss) [hr : RdC w0 L a (shc ss)] [hv : RdSs w0 L ss] :
    VC Tryd.prog w0 35 [.slice a n c] L (RPo L ss) := by
  subst hn
  have hlen := h.len
  refine vc_ent ?_
  refine vc_in rfl rfl ?_
  repeat' (first | (refine go1 ?_; intros) | (refine vl_caseG rfl rfl rfl rfl ?_ ?_ <;> (intro hb; (try simp only [decide_eq_true_eq, decide_eq_false_iff_not, Bool.not_eq_true', Bool.not_eq_false', ne_eq, Decidable.not_not, Option.isNone_iff_eq_none, not_true_eq_false, not_false_eq_true] at hb); try (exfalso; omega))) | (refine v_cond rfl ?_ ?_ <;> (intro hb; (try simp only [decide_eq_true_eq, decide_eq_false_iff_not, Bool.not_eq_true', Bool.not_eq_false', ne_eq, Decidable.not_not, Option.isNone_iff_eq_none, not_true_eq_false, not_false_eq_true] at hb); try (exfalso; omega))) | fail)
  refine v_loopF (List Sh × Option Addr × Nat) [6, 7] rfl (fun x => [(8, .int .i64 x.1.length), (3, .slice x.2.1 x.1.length x.2.2)]) (fun _ x => ownSs x.2.1 x.2.2 x.1 :: shA x.1 :: L) (fun x => x.1.length ≤ ss.length ∧ shl x.1 = (shl ss).take x.1.length) (fun x => ss.length - x.1.length) ([], none, 0) ⟨Nat.zero_le _, by simp⟩ (by (repeat' (first | exact Sub.nil _ | refine Sub.cons rfl rfl ?_ | refine Sub.cons rfl ?_ ?_))) ((se_ss_nil L).ent w0) ?_
  rintro ⟨ts, a', c'⟩ ⟨hi, hp⟩
  dsimp only at hi hp ⊢
  obtain ⟨i, hni⟩ : ∃ i, i = ts.length := ⟨_, rfl⟩
  rw [← hni] at hi hp
  by_cases hlt : i < ss.length
  · rw [show ownSs a' c' ts = own 128 1 a' i c' (shc ts) by rw [hni], ← hni]
    have e' := shs_e1 i hlt
    have hpos := h.pos i hlt
    haveI := hv.at i hlt
    haveI := hv.at2 i hlt
    have sok := h.at i hlt
    have htl : (shc ts).length = i := by rw [shs_len, hni]
    repeat' (first | (refine go1 ?_; intros) | (refine vl_caseG rfl rfl rfl rfl ?_ ?_ <;> (intro hb; (try simp only [decide_eq_true_eq, decide_eq_false_iff_not, Bool.not_eq_true', Bool.not_eq_false', ne_eq, Decidable.not_not, Option.isNone_iff_eq_none, not_true_eq_false, not_false_eq_true] at hb); try (exfalso; omega))) | (refine v_cond rfl ?_ ?_ <;> (intro hb; (try simp only [decide_eq_true_eq, decide_eq_false_iff_not, Bool.not_eq_true', Bool.not_eq_false', ne_eq, Decidable.not_not, Option.isNone_iff_eq_none, not_true_eq_false, not_false_eq_true] at hb); try (exfalso; omega))) | fail)
    refine vl_o rfl (vo_call rfl rfl ?_)
    refine vc_mono (stwin_vc w0 _ ss[i].a ss[i].c ss[i].ls rfl sok) ?_
    rintro v L' ⟨a2, c2, ms, rfl, hms, rfl⟩
    repeat' (first | (refine go1 ?_; intros) | (refine vl_caseG rfl rfl rfl rfl ?_ ?_ <;> (intro hb; (try simp only [decide_eq_true_eq, decide_eq_false_iff_not, Bool.not_eq_true', Bool.not_eq_false', ne_eq, Decidable.not_not, Option.isNone_iff_eq_none, not_true_eq_false, not_false_eq_true] at hb); try (exfalso; omega))) | (refine v_cond rfl ?_ ?_ <;> (intro hb; (try simp only [decide_eq_true_eq, decide_eq_false_iff_not, Bool.not_eq_true', Bool.not_eq_false', ne_eq, Decidable.not_not, Option.isNone_iff_eq_none, not_true_eq_false, not_false_eq_true] at hb); try (exfalso; omega))) | fail)
    rename_i g0 g a3 c3 _ _
    refine ⟨rfl, (ts ++ [⟨a2, c2, ms⟩], a3, c3), ⟨by simp; omega, ?_⟩, by simp; omega, ?_, ?_⟩
    · simp only [List.length_append, List.length_cons, List.length_nil, ← hni, Nat.zero_add]
      exact shl_snoc hlt hp ⟨a2, c2, ms⟩ hms
    · simp only [List.length_append, List.length_cons, List.length_nil, ← hni, Nat.zero_add]
      (repeat' (first | exact Sub.nil _ | refine Sub.cons rfl rfl ?_ | refine Sub.cons rfl ?_ ?_))
    · rw [ownSs_snoc, ← hni]
      simp only [List.append_nil]
      refine (sei w0 _ (ownLs a2 c2 ms :: tsA ms :: shA ts :: own 128 1 a3 (i + 1) c3 (shc ts ++ [.slice a2 ms.length c2]) :: L)).trans (((se_shA_snoc ts _ ⟨a2, c2, ms⟩).ent w0).trans ((se_swap _ _ _).ent w0))
  · have hin : i = ss.length := by omega
    repeat' (first | (refine go1 ?_; intros) | (refine vl_caseG rfl rfl rfl rfl ?_ ?_ <;> (intro hb; (try simp only [decide_eq_true_eq, decide_eq_false_iff_not, Bool.not_eq_true', Bool.not_eq_false', ne_eq, Decidable.not_not, Option.isNone_iff_eq_none, not_true_eq_false, not_false_eq_true] at hb); try (exfalso; omega))) | (refine v_cond rfl ?_ ?_ <;> (intro hb; (try simp only [decide_eq_true_eq, decide_eq_false_iff_not, Bool.not_eq_true', Bool.not_eq_false', ne_eq, Decidable.not_not, Option.isNone_iff_eq_none, not_true_eq_false, not_false_eq_true] at hb); try (exfalso; omega))) | fail)
    exact ⟨_, Ent.refl _ _, a', c', ts, by rw [← hni, hin], by rw [hp, List.take_of_length_le (by simp; omega)], rfl⟩
/-! ### Whether two are the same -/
set_option maxRecDepth 100000 in
set_option maxHeartbeats 1000000 in
theorem rsame21_vc (w0 : World) (L : List Asn) (a : Option Addr) (c : Nat) (ss : List Sh) (b : Option Addr) (d : Nat) (ts : List Sh) {n m : Nat} (hn : n = ss.length) (hm : m = ts.length) (h : SsOk ss) (k : SsOk ts) [hr : RdC w0 L a (shc ss)] [hv : RdSs w0 L ss] [hr2 : RdC w0 L b (shc ts)] [hv2 : RdSs w0 L ts] :
    VC Tryd.prog w0 29 [.slice a n c, .slice b m d] L fun v L' => v = .bool (decide (shl ss = shl ts)) ∧ L' = L := by
  subst hn
  subst hm
  have hlen := h.len
  have hlen2 := k.len
  refine vc_ent ?_
  refine vc_in rfl rfl ?_
  by_cases hl : ss.length = ts.length
  rotate_left
  · repeat' (first | (refine go1 ?_; intros) | (refine vl_caseG rfl rfl rfl rfl ?_ ?_ <;> (intro hb; (try simp only [decide_eq_true_eq, decide_eq_false_iff_not, Bool.not_eq_true', Bool.not_eq_false', ne_eq, Decidable.not_not, Option.isNone_iff_eq_none, not_true_eq_false, not_false_eq_true] at hb); try (exfalso; omega))) | (refine v_cond rfl ?_ ?_ <;> (intro hb; (try simp only [decide_eq_true_eq, decide_eq_false_iff_not, Bool.not_eq_true', Bool.not_eq_false', ne_eq, Decidable.not_not, Option.isNone_iff_eq_none, not_true_eq_false, not_false_eq_true] at hb); try (exfalso; omega))) | fail)
    all_goals first | exact ⟨L, sei _ _ _, by rw [decide_eq_false (fun e => hl (shl_len e))], rfl⟩ | (exfalso; omega)
  repeat' (first | (refine go1 ?_; intros) | (refine vl_caseG rfl rfl rfl rfl ?_ ?_ <;> (intro hb; (try simp only [decide_eq_true_eq, decide_eq_false_iff_not, Bool.not_eq_true', Bool.not_eq_false', ne_eq, Decidable.not_not, Option.isNone_iff_eq_none, not_true_eq_false, not_false_eq_true] at hb); try (exfalso; omega))) | (refine v_cond rfl ?_ ?_ <;> (intro hb; (try simp only [decide_eq_true_eq, decide_eq_false_iff_not, Bool.not_eq_true', Bool.not_eq_false', ne_eq, Decidable.not_not, Option.isNone_iff_eq_none, not_true_eq_false, not_false_eq_true] at hb); try (exfalso; omega))) | fail)
  all_goals first | (exfalso; omega) | skip
  refine v_loopS Nat [0, 1] rfl (fun i => [(5, .int .i64 i)]) (fun i => i ≤ ss.length ∧ (shl ss).take i = (shl ts).take i) (fun i => ss.length - i) 0 ⟨Nat.zero_le _, by simp⟩ (by (repeat' (first | exact Sub.nil _ | refine Sub.cons rfl rfl ?_ | refine Sub.cons rfl ?_ ?_))) (fun i ⟨hi, he⟩ => ?_)
  by_cases hlt : i < ss.length
  · have hlt2 : i < ts.length := by omega
    have e1' := shs_e1 i hlt
    have e2' := shs_e1 i hlt2
    have hpos := h.pos i hlt
    have hpos2 := k.pos i hlt2
    haveI := hv.at i hlt
    haveI := hv.at2 i hlt
    haveI := hv2.at i hlt2
    haveI := hv2.at2 i hlt2
    have lok := h.at i hlt
    have kok := k.at i hlt2
    have hstep := shl_step hlt hlt2 he
    have hne : ¬ lls ss[i].ls = lls ts[i].ls → ¬ shl ss = shl ts := fun e f => e (shl_get f hlt hlt2)
    repeat' (first | (refine go1 ?_; intros) | (refine vl_caseG rfl rfl rfl rfl ?_ ?_ <;> (intro hb; (try simp only [decide_eq_true_eq, decide_eq_false_iff_not, Bool.not_eq_true', Bool.not_eq_false', ne_eq, Decidable.not_not, Option.isNone_iff_eq_none, not_true_eq_false, not_false_eq_true] at hb); try (exfalso; omega))) | (refine v_cond rfl ?_ ?_ <;> (intro hb; (try simp only [decide_eq_true_eq, decide_eq_false_iff_not, Bool.not_eq_true', Bool.not_eq_false', ne_eq, Decidable.not_not, Option.isNone_iff_eq_none, not_true_eq_false, not_false_eq_true] at hb); try (exfalso; omega))) | fail)
    (refine v_draw0 [] (by kernel_rfl) ?_ <;> (refine va_takeA 0 rfl rfl rfl rfl ?_) <;> (refine va_takeA 1 rfl rfl rfl rfl ?_) <;> (refine va_takeA 2 rfl rfl rfl rfl ?_) <;> (refine va_takeA 3 rfl rfl rfl rfl ?_) <;> (refine va_takeA 4 rfl rfl rfl rfl ?_) <;> (refine va_takeA 5 rfl rfl rfl rfl ?_) <;> (refine va_takeA 6 rfl rfl rfl rfl ?_) <;> (refine va_takeA 7 rfl rfl rfl rfl ?_))
    refine va_one 8 (by kernel_rfl) rfl rfl (vo_call rfl rfl ?_)
    refine vc_mono (rsame20_vc w0 _ ss[i].a ss[i].c ss[i].ls ts[i].a ts[i].c ts[i].ls rfl rfl lok kok) ?_
    rintro v L' ⟨rfl, hL⟩
    obtain rfl := hL.symm
    by_cases hs : lls ss[i].ls = lls ts[i].ls
    · rw [decide_eq_true hs]
      refine ⟨.inr (SE.ent (by repeat' (first | exact SE.refl _ | refine SE.cons _ ?_ | refine SE.trans (se_drop _ _) ?_)) _), ?_⟩
      ((refine va_takeA 9 rfl rfl rfl rfl ?_) <;> (refine va_done (by kernel_rfl) ?_))
      repeat' (first | (refine go1 ?_; intros) | (refine vl_caseG rfl rfl rfl rfl ?_ ?_ <;> (intro hb; (try simp only [decide_eq_true_eq, decide_eq_false_iff_not, Bool.not_eq_true', Bool.not_eq_false', ne_eq, Decidable.not_not, Option.isNone_iff_eq_none, not_true_eq_false, not_false_eq_true] at hb); try (exfalso; omega))) | (refine v_cond rfl ?_ ?_ <;> (intro hb; (try simp only [decide_eq_true_eq, decide_eq_false_iff_not, Bool.not_eq_true', Bool.not_eq_false', ne_eq, Decidable.not_not, Option.isNone_iff_eq_none, not_true_eq_false, not_false_eq_true] at hb); try (exfalso; omega))) | fail)
      exact ⟨rfl, i + 1, ⟨by omega, hstep hs⟩, by omega, by (repeat' (first | exact Sub.nil _ | refine Sub.cons rfl rfl ?_ | refine Sub.cons rfl ?_ ?_)), sei _ _ _⟩
    · rw [decide_eq_false hs]
      refine ⟨.inr (SE.ent (by repeat' (first | exact SE.refl _ | refine SE.cons _ ?_ | refine SE.trans (se_drop _ _) ?_)) _), ?_⟩
      ((refine va_takeA 9 rfl rfl rfl rfl ?_) <;> (refine va_done (by kernel_rfl) ?_))
      repeat' (first | (refine go1 ?_; intros) | (refine vl_caseG rfl rfl rfl rfl ?_ ?_ <;> (intro hb; (try simp only [decide_eq_true_eq, decide_eq_false_iff_not, Bool.not_eq_true', Bool.not_eq_false', ne_eq, Decidable.not_not, Option.isNone_iff_eq_none, not_true_eq_false, not_false_eq_true] at hb); try (exfalso; omega))) | (refine v_cond rfl ?_ ?_ <;> (intro hb; (try simp only [decide_eq_true_eq, decide_eq_false_iff_not, Bool.not_eq_true', Bool.not_eq_false', ne_eq, Decidable.not_not, Option.isNone_iff_eq_none, not_true_eq_false, not_false_eq_true] at hb); try (exfalso; omega))) | fail)
      exact ⟨L, sei _ _ _, by rw [decide_eq_false (hne hs)], rfl⟩
  · obtain rfl : i = ss.length := by omega
    rw [List.take_of_length_le (by simp), List.take_of_length_le (by simp; omega)] at he
    repeat' (first | (refine go1 ?_; intros) | (refine vl_caseG rfl rfl rfl rfl ?_ ?_ <;> (intro hb; (try simp only [decide_eq_true_eq, decide_eq_false_iff_not, Bool.not_eq_true', Bool.not_eq_false', ne_eq, Decidable.not_not, Option.isNone_iff_eq_none, not_true_eq_false, not_false_eq_true] at hb); try (exfalso; omega))) | (refine v_cond rfl ?_ ?_ <;> (intro hb; (try simp only [decide_eq_true_eq, decide_eq_false_iff_not, Bool.not_eq_true', Bool.not_eq_false', ne_eq, Decidable.not_not, Option.isNone_iff_eq_none, not_true_eq_false, not_false_eq_true] at hb); try (exfalso; omega))) | fail)
    exact ⟨L, sei _ _ _, by rw [decide_eq_true he], rfl⟩
set_option maxRecDepth 100000 in
set_option maxHeartbeats 1000000 in
theorem eqSs_vc (w0 : World) (L : List Asn) (a : Option Addr) (c : Nat) (ss : List Sh) (b : Option Addr) (d : Nat) (ts : List Sh) {n m : Nat} (hn : n = ss.length) (hm : m = ts.length) (h : SsOk ss) (k : SsOk ts) [hr : RdC w0 L a (shc ss)] [hv : RdSs w0 L ss] [hr2 : RdC w0 L b (shc ts)] [hv2 : RdSs w0 L ts] :
    VC Tryd.prog w0 72 [.slice a n c, .slice b m d, .func (.func 73) #[] #[]] L fun v L' => v = .bool (decide (shl ss = shl ts)) ∧ L' = L := by
  subst hn
  subst hm
  have hlen := h.len
  have hlen2 := k.len
  refine vc_ent ?_
  refine vc_in rfl rfl ?_
  repeat' (first | (refine goN ?_; intros) | (refine vl_caseG rfl rfl rfl rfl ?_ ?_ <;> (intro hb; (try simp only [decide_eq_true_eq, decide_eq_false_iff_not, Bool.not_eq_true', Bool.not_eq_false', ne_eq, Decidable.not_not, Option.isNone_iff_eq_none, not_true_eq_false, not_false_eq_true] at hb); try (exfalso; omega))) | (refine v_cond rfl ?_ ?_ <;> (intro hb; (try simp only [decide_eq_true_eq, decide_eq_false_iff_not, Bool.not_eq_true', Bool.not_eq_false', ne_eq, Decidable.not_not, Option.isNone_iff_eq_none, not_true_eq_false, not_false_eq_true] at hb); try (exfalso; omega))) | fail)
  · exact ⟨_, sei _ _ _, by rw [decide_eq_false (fun e => by have := shl_len e; omega)], rfl⟩
  have hl : ss.length = ts.length := by omega
  refine v_loopS Nat [0, 1, 2, 15, 16] rfl (fun i => [(17, .int .i64 i)]) (fun i => i ≤ ss.length ∧ (shl ss).take i = (shl ts).take i) (fun i => ss.length - i) 0 ⟨Nat.zero_le _, by simp⟩ (by (repeat' (first | exact Sub.nil _ | refine Sub.cons rfl rfl ?_ | refine Sub.cons rfl ?_ ?_))) (fun i ⟨hi, he⟩ => ?_)
  by_cases hlt : i < ss.length
  · have hlt2 : i < ts.length := by omega
    have e1' := shs_e1 i hlt
    have e2' := shs_e1 i hlt2
    have hpos := h.pos i hlt
    have hpos2 := k.pos i hlt2
    haveI := hv.at i hlt
    haveI := hv.at2 i hlt
    haveI := hv2.at i hlt2
    haveI := hv2.at2 i hlt2
    have lok := h.at i hlt
    have kok := k.at i hlt2
    have hstep := shl_step hlt hlt2 he
    have hne : ¬ lls ss[i].ls = lls ts[i].ls → ¬ shl ss = shl ts := fun e f => e (shl_get f hlt hlt2)
    repeat' (first | (refine goN ?_; intros) | (refine vl_caseG rfl rfl rfl rfl ?_ ?_ <;> (intro hb; (try simp only [decide_eq_true_eq, decide_eq_false_iff_not, Bool.not_eq_true', Bool.not_eq_false', ne_eq, Decidable.not_not, Option.isNone_iff_eq_none, not_true_eq_false, not_false_eq_true] at hb); try (exfalso; omega))) | (refine v_cond rfl ?_ ?_ <;> (intro hb; (try simp only [decide_eq_true_eq, decide_eq_false_iff_not, Bool.not_eq_true', Bool.not_eq_false', ne_eq, Decidable.not_not, Option.isNone_iff_eq_none, not_true_eq_false, not_false_eq_true] at hb); try (exfalso; omega))) | fail)
    refine vl_o rfl (vo_callV rfl rfl rfl ?_)
    refine vc_mono (ssame_vc w0 _ ss[i].a ss[i].c ss[i].ls ts[i].a ts[i].c ts[i].ls rfl rfl lok kok) ?_
    rintro v L' ⟨rfl, hL⟩
    obtain rfl := hL.symm
    by_cases hs : lls ss[i].ls = lls ts[i].ls
    · rw [decide_eq_true hs]
      repeat' (first | (refine go1 ?_; intros) | (refine vl_caseG rfl rfl rfl rfl ?_ ?_ <;> (intro hb; (try simp only [decide_eq_true_eq, decide_eq_false_iff_not, Bool.not_eq_true', Bool.not_eq_false', ne_eq, Decidable.not_not, Option.isNone_iff_eq_none, not_true_eq_false, not_false_eq_true] at hb); try (exfalso; omega))) | (refine v_cond rfl ?_ ?_ <;> (intro hb; (try simp only [decide_eq_true_eq, decide_eq_false_iff_not, Bool.not_eq_true', Bool.not_eq_false', ne_eq, Decidable.not_not, Option.isNone_iff_eq_none, not_true_eq_false, not_false_eq_true] at hb); try (exfalso; omega))) | fail)
      exact ⟨rfl, i + 1, ⟨by omega, hstep hs⟩, by omega, by (repeat' (first | exact Sub.nil _ | refine Sub.cons rfl rfl ?_ | refine Sub.cons rfl ?_ ?_)), sei _ _ _⟩
    · rw [decide_eq_false hs]
      repeat' (first | (refine go1 ?_; intros) | (refine vl_caseG rfl rfl rfl rfl ?_ ?_ <;> (intro hb; (try simp only [decide_eq_true_eq, decide_eq_false_iff_not, Bool.not_eq_true', Bool.not_eq_false', ne_eq, Decidable.not_not, Option.isNone_iff_eq_none, not_true_eq_false, not_false_eq_true] at hb); try (exfalso; omega))) | (refine v_cond rfl ?_ ?_ <;> (intro hb; (try simp only [decide_eq_true_eq, decide_eq_false_iff_not, Bool.not_eq_true', Bool.not_eq_false', ne_eq, Decidable.not_not, Option.isNone_iff_eq_none, not_true_eq_false, not_false_eq_true] at hb); try (exfalso; omega))) | fail)
      exact ⟨L, sei _ _ _, by rw [decide_eq_false (hne hs)], rfl⟩
  · obtain rfl : i = ss.length := by omega
    rw [List.take_of_length_le (by simp), List.take_of_length_le (by simp; omega)] at he
    repeat' (first | (refine go1 ?_; intros) | (refine vl_caseG rfl rfl rfl rfl ?_ ?_ <;> (intro hb; (try simp only [decide_eq_true_eq, decide_eq_false_iff_not, Bool.not_eq_true', Bool.not_eq_false', ne_eq, Decidable.not_not, Option.isNone_iff_eq_none, not_true_eq_false, not_false_eq_true] at hb); try (exfalso; omega))) | (refine v_cond rfl ?_ ?_ <;> (intro hb; (try simp only [decide_eq_true_eq, decide_eq_false_iff_not, Bool.not_eq_true', Bool.not_eq_false', ne_eq, Decidable.not_not, Option.isNone_iff_eq_none, not_true_eq_false, not_false_eq_true] at hb); try (exfalso; omega))) | fail)
    exact ⟨L, sei _ _ _, by rw [decide_eq_true he], rfl⟩
theorem psame21_vc (w0 : World) (L : List Asn) (a : Option Addr) (c : Nat) (ss : List Sh) (b : Option Addr) (d : Nat) (ts : List Sh) {n m : Nat} (hn : n = ss.length) (hm : m = ts.length) (h : SsOk ss) (k : SsOk ts) [hr : RdC w0 L a (shc ss)] [hv : RdSs w0 L ss] [hr2 : RdC w0 L b (shc ts)] [hv2 : RdSs w0 L ts] :
    VC Tryd.prog w0 34 [.slice a n c, .slice b m d] L fun v L' => v = .bool (decide (shl ss = shl ts)) ∧ L' = L := by
  subst hn
  subst hm
  refine vc_ent ?_
  refine vc_in rfl rfl ?_
  repeat' (first | (refine go1 ?_; intros) | (refine vl_caseG rfl rfl rfl rfl ?_ ?_ <;> (intro hb; (try simp only [decide_eq_true_eq, decide_eq_false_iff_not, Bool.not_eq_true', Bool.not_eq_false', ne_eq, Decidable.not_not, Option.isNone_iff_eq_none, not_true_eq_false, not_false_eq_true] at hb); try (exfalso; omega))) | (refine v_cond rfl ?_ ?_ <;> (intro hb; (try simp only [decide_eq_true_eq, decide_eq_false_iff_not, Bool.not_eq_true', Bool.not_eq_false', ne_eq, Decidable.not_not, Option.isNone_iff_eq_none, not_true_eq_false, not_false_eq_true] at hb); try (exfalso; omega))) | fail)
  refine vl_o rfl (vo_call rfl rfl ?_)
  refine vc_mono (eqSs_vc w0 _ a c ss b d ts rfl rfl h k) ?_
  rintro v L' ⟨rfl, hL⟩
  obtain rfl := hL.symm
  repeat' (first | (refine go1 ?_; intros) | (refine vl_caseG rfl rfl rfl rfl ?_ ?_ <;> (intro hb; (try simp only [decide_eq_true_eq, decide_eq_false_iff_not, Bool.not_eq_true', Bool.not_eq_false', ne_eq, Decidable.not_not, Option.isNone_iff_eq_none, not_true_eq_false, not_false_eq_true] at hb); try (exfalso; omega))) | (refine v_cond rfl ?_ ?_ <;> (intro hb; (try simp only [decide_eq_true_eq, decide_eq_false_iff_not, Bool.not_eq_true', Bool.not_eq_false', ne_eq, Decidable.not_not, Option.isNone_iff_eq_none, not_true_eq_false, not_false_eq_true] at hb); try (exfalso; omega))) | fail)
  exact ⟨L, sei _ _ _, rfl, rfl⟩
end Go.Proofs.YtnoihibaoalkaaaDoor
