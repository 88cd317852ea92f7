/-
  Whether shards are a pool.
-/
import Derived.Test.YtcpndfffdbogbaaDoorPolB
import Derived.Test.YtcpndfffdbogbaaDoorGS
set_option linter.unusedVariables false
set_option linter.unusedSimpArgs false
namespace Go.Proofs.YtcpndfffdbogbaaDoor
open Go Go.RowKit
set_option linter.unusedVariables false
set_option linter.unusedSimpArgs false
open Classical

/-- Whether a shard's lines are all of senders of that shard. -/
noncomputable def ofS (ls : List Ln) (i : Nat) (m : Nat) : Bool := decide (∀ k (hk : k < ls.length), atP ls[k].own m = (i : Int))
/-- Whether the i-th shard may stand where it stands. -/
noncomputable def shAt (ss : List Sh) (i : Nat) : Bool := match ss[i]? with | some s => mayS s.ls && ofS s.ls i ss.length | none => false
theorem shAt_eq {ss : List Sh} (i : Nat) (hi : i < ss.length) : shAt ss i = (mayS ss[i].ls && ofS ss[i].ls i ss.length) := by
  unfold shAt
  rw [List.getElem?_eq_getElem hi]
noncomputable def mayPo (ss : List Sh) : Bool := decide (1 ≤ ss.length ∧ ss.length ≤ 8 ∧ ∀ i, i < ss.length → shAt ss i = true)
theorem any_ofS (ls : List Ln) (i m : Nat) : (ls.any fun l => !decide (atP l.own m = (i : Int))) = !ofS ls i m := by
  unfold ofS
  by_cases h : ∀ k (hk : k < ls.length), atP ls[k].own m = (i : Int)
  · rw [decide_eq_true h]
    simp only [Bool.not_true, List.any_eq_false]
    intro l hl
    obtain ⟨k, hk, rfl⟩ := List.getElem_of_mem hl
    simp [h k hk]
  · rw [decide_eq_false h]
    simp only [Bool.not_false, List.any_eq_true]
    obtain ⟨k, hk⟩ := Classical.not_forall.1 h
    obtain ⟨h1, h2⟩ := Classical.not_forall.1 hk
    exact ⟨ls[k], List.getElem_mem h1, by simp [h2]⟩
theorem pchk1_vc (w0 : World) (L : List Asn) (l : Ln) (hl : l.ok) (g gi gs : Nat) (cs : List Value) (a : Option Addr) (c : Nat) (ss : List Sh) (i : Nat) {n : Nat} (hn : n = ss.length) (h1 : 1 ≤ ss.length) (h8 : ss.length ≤ 8) :
    VC Tryd.prog w0 30 ([.agg l.cells.toArray] ++ #[Value.pointer (some ⟨g, 0, none⟩), .pointer (some ⟨gi, 0, none⟩)].toList) (blk gs 64 cs :: blk gi 3 [.int .i64 (i : Int)] :: blk g 27 [.slice a n c] :: L) fun v L' => v = .bool (!decide (atP l.own ss.length = (i : Int))) ∧ L' = blk gs 64 cs :: blk gi 3 [.int .i64 (i : Int)] :: blk g 27 [.slice a n c] :: L := by
  subst hn
  have f0 := Ln.f0 hl.own
  have hcl := Ln.len hl.own
  have hol := hl.own
  haveI hoc : OC l.cells := oc_ln _
  refine vc_ent ?_
  refine vc_in rfl rfl ?_
  generalize l.cells = ds at *
  repeat' (first | (refine go1 ?_; intros) | (refine goCC ?_ ?_ <;> (intro hb; (try simp only [hSQ] at hb); try (exfalso; omega))) | fail)
  refine vl_o rfl (vo_call rfl rfl ?_)
  refine vc_mono (pat_vc w0 _ l.own ss.length hol) ?_
  rintro v L' ⟨rfl, rfl⟩
  rw [if_pos (by omega)]
  generalize atP l.own ss.length = A
  repeat' (first | (refine go1 ?_; intros) | (refine goCC ?_ ?_ <;> (intro hb; (try simp only [hSQ] at hb); try (exfalso; omega))) | fail)
  exact ⟨_, sei _ _ (blk gs 64 cs :: blk gi 3 [.int .i64 (i : Int)] :: blk g 27 [.slice a ss.length c] :: L), by simp, rfl⟩
set_option maxRecDepth 100000 in
set_option maxHeartbeats 2000000 in
theorem pcheck21_vc (w0 : World) (L : List Asn) [hK : RdA w0 (some ⟨0, 0, none⟩) (wds K64)] (a : Option Addr) (c : Nat) (ss : List Sh) {n : Nat} (hn : n = ss.length) (h : SsOk ss) [hr : RdC w0 L a (shc ss)] [hv : RdSs w0 L ss] :
    VC Tryd.prog w0 16 [.slice a n c] L fun v L' => v = .int .i64 (if mayPo ss then 0 else 8) ∧ L' = L := by
  subst hn
  have hlen := h.len
  refine vc_ent ?_
  refine vc_in rfl rfl ?_
  by_cases hl : 1 ≤ ss.length ∧ ss.length ≤ 8
  rotate_left
  · have hm : mayPo ss = false := decide_eq_false (fun e => hl ⟨e.1, e.2.1⟩)
    repeat' (first | (refine go1 ?_; intros) | (refine goCC ?_ ?_ <;> (intro hb; (try simp only [hSQ] at hb); try (exfalso; omega))) | fail)
    all_goals first | exact ⟨L, sei _ _ _, by rw [hm]; rfl, rfl⟩ | (exfalso; omega)
  obtain ⟨hl1, hl8⟩ := hl
  repeat' (first | (refine go1 ?_; intros) | (refine goCC ?_ ?_ <;> (intro hb; (try simp only [hSQ] at hb); try (exfalso; omega))) | fail)
  all_goals first | (exfalso; omega) | skip
  refine v_loopF Nat [1, 13, 14] rfl (fun i => [(15, .int .i64 i)]) (fun M _ => M) (fun i => i ≤ ss.length ∧ ∀ j, j < i → shAt ss j = true) (fun i => ss.length - i) 0 ⟨Nat.zero_le _, fun j h => by omega⟩ (by (repeat' (first | exact Sub.nil _ | refine Sub.cons rfl rfl ?_ | refine Sub.cons rfl ?_ ?_))) (Ent.refl _ _) ?_
  rintro i ⟨hi, hok⟩
  by_cases hlt : i < ss.length
  rotate_left
  · obtain rfl : i = ss.length := by omega
    have hm : mayPo ss = true := decide_eq_true ⟨hl1, hl8, hok⟩
    repeat' (first | (refine go1 ?_; intros) | (refine goCC ?_ ?_ <;> (intro hb; (try simp only [hSQ] at hb); try (exfalso; omega))) | fail)
    exact ⟨L, sei _ _ _, by rw [hm]; rfl, rfl⟩
  have e' := shs_e1 i hlt
  have hpos := h.pos i hlt
  haveI := hv.at i hlt
  haveI := hv.at2 i hlt
  have sok := h.at i hlt
  have hq := shAt_eq i hlt
  have hbad : shAt ss i = false → mayPo ss = false := fun e => decide_eq_false (fun f => by rw [f.2.2 i hlt] at e; cases e)
  repeat' (first | (refine go1 ?_; intros) | (refine goCC ?_ ?_ <;> (intro hb; (try simp only [hSQ] at hb); try (exfalso; omega))) | fail)
  refine vl_o rfl (vo_call rfl rfl ?_)
  refine vc_mono (scheck_vc w0 _ ss[i].a ss[i].c ss[i].ls rfl sok) ?_
  rintro v L' ⟨rfl, rfl⟩
  cases hms : mayS ss[i].ls
  · rw [hms, Bool.false_and] at hq
    repeat' (first | (refine go1 ?_; intros) | (refine goCC ?_ ?_ <;> (intro hb; (try simp only [hSQ] at hb); try (exfalso; omega))) | fail)
    exact ⟨L, sei _ _ _, by rw [hbad hq]; rfl, rfl⟩
  rw [hms, Bool.true_and] at hq
  repeat' (first | (refine go1 ?_; intros) | (refine goCC ?_ ?_ <;> (intro hb; (try simp only [hSQ] at hb); try (exfalso; omega))) | fail)
  refine vl_o rfl (vo_call rfl rfl ?_)
  refine vc_mono (hasF_vc w0 _ ss[i].a ss[i].c ss[i].ls _ _ (fun l => !decide (atP l.own ss.length = (i : Int))) rfl sok (fun l hl => pchk1_vc w0 L l (sok.ok l hl) _ _ _ _ a c ss i rfl hl1 hl8)) ?_
  rintro v L' ⟨rfl, rfl⟩
  rw [any_ofS]
  cases hof : ofS ss[i].ls i ss.length
  · rw [hof] at hq
    repeat' (first | (refine go1 ?_; intros) | (refine goCC ?_ ?_ <;> (intro hb; (try simp only [hSQ] at hb); try (exfalso; omega))) | fail)
    exact ⟨L, sei _ _ _, by rw [hbad hq]; rfl, rfl⟩
  · rw [hof] at hq
    repeat' (first | (refine go1 ?_; intros) | (refine goCC ?_ ?_ <;> (intro hb; (try simp only [hSQ] at hb); try (exfalso; omega))) | fail)
    refine ⟨rfl, i + 1, ⟨by omega, fun j hj => ?_⟩, by omega, by (repeat' (first | exact Sub.nil _ | refine Sub.cons rfl rfl ?_ | refine Sub.cons rfl ?_ ?_)), sei _ _ _⟩
    by_cases e : j = i
    · rw [e]; exact hq
    · exact hok j (by omega)
end Go.Proofs.YtcpndfffdbogbaaDoor
