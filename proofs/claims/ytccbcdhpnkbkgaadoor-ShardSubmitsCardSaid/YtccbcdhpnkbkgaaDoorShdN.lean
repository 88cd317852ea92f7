/-
  Shards, the document's Submit; a shard's transactions are written over.
-/
import Derived.Test.YtccbcdhpnkbkgaaDoorShdM
set_option linter.unusedVariables false
set_option linter.unusedSimpArgs false
namespace Go.Proofs.YtccbcdhpnkbkgaaDoor
open Go Go.RowKit
set_option linter.unusedVariables false
set_option linter.unusedSimpArgs false
set_option linter.unusedSectionVars false
open Classical

set_option maxRecDepth 100000 in
set_option maxHeartbeats 2000000 in
theorem rsubmit20_vc (w0 : World) (L : List Asn) (a : Option Addr) (c : Nat) (ls : List Ln) (cap : Int) (nonce : Nat) (x : Tx) {n : Nat} (hn : n = ls.length) (h : LsOk ls) (h9 : ls.length ≤ 800000) (hx : x.ok) (hnn : nonce < 18446744073709551616) [hr : RdC w0 L a (lnc ls)] [hv : RdLs w0 L ls] :
    VC Tryd.prog w0 13 [.agg #[.slice a n c], .int .i64 cap, .int .u64 nonce, .agg x.cells.toArray] L (RSub (submitS (lls ls) cap nonce x) L) := by
  subst hn
  have hlen := h.len
  have hxl := Tx.len hx
  haveI oxc : OC x.cells := oc_tx _
  refine vc_ent ?_
  refine vc_in rfl rfl ?_
  obtain ⟨xc, hxc⟩ : ∃ xc, xc = x.cells := ⟨_, rfl⟩
  rw [← hxc] at hxl oxc ⊢
  repeat' (first | (refine go1 ?_; intros) | ((first | refine vl_caseG rfl rfl rfl rfl ?_ ?_ | refine v_cond rfl ?_ ?_) <;> (intro hb; (try simp only [hq1, hq2, hq3, hq4, ne_eq, hq5, hq6, hq7, hq8] at hb); try (exfalso; omega))) | fail)
  refine vl_o rfl (vo_call rfl rfl ?_)
  refine vc_mono (rmay20_vc w0 _ a c ls rfl h) ?_
  rintro v L' ⟨rfl, rfl⟩
  unfold submitS
  by_cases hm : mayS ls = true
  rotate_left
  · rw [if_neg (fun e => hm (mayS_iff.2 e)), Bool.eq_false_iff.2 hm]
    repeat' (first | (refine go1 ?_; intros) | ((first | refine vl_caseG rfl rfl rfl rfl ?_ ?_ | refine v_cond rfl ?_ ?_) <;> (intro hb; (try simp only [hq1, hq2, hq3, hq4, ne_eq, hq5, hq6, hq7, hq8] at hb); try (exfalso; omega))) | fail)
    all_goals first | (exfalso; omega) | exact RSub.bad w0 L 8 (sei _ _ _)
  have hmc := mayS_iff.1 hm
  rw [if_pos hmc, hm]
  repeat' (first | (refine go1 ?_; intros) | ((first | refine vl_caseG rfl rfl rfl rfl ?_ ?_ | refine v_cond rfl ?_ ?_) <;> (intro hb; (try simp only [hq1, hq2, hq3, hq4, ne_eq, hq5, hq6, hq7, hq8] at hb); try (exfalso; omega))) | fail)
  refine vl_o rfl (vo_call rfl rfl ?_)
  rw [hxc]
  refine vc_mono (rput20_vc w0 _ a c ls cap nonce x rfl h hmc h9 hx hnn) ?_
  rintro v L' ⟨a1, c1, ms, b1, d1, rfl, hms, hmo, rfl⟩
  generalize submitC (lls ls) cap nonce x = q at *
  obtain ⟨q1, q2, q3⟩ := q
  dsimp only at hms ⊢
  repeat' (first | (refine go1 ?_; intros) | ((first | refine vl_caseG rfl rfl rfl rfl ?_ ?_ | refine v_cond rfl ?_ ?_) <;> (intro hb; (try simp only [hq1, hq2, hq3, hq4, ne_eq, hq5, hq6, hq7, hq8] at hb); try (exfalso; omega))) | fail)
  exact ⟨_, sei w0 _ (ownLs a1 c1 ms :: tsA ms :: ownTs b1 d1 q2 :: L), a1, c1, ms, b1, d1, rfl, hms, hmo, rfl⟩
set_option maxRecDepth 100000 in
set_option maxHeartbeats 2000000 in
theorem lspoil20_vc (w0 : World) (L : List Asn) (a : Option Addr) (c : Nat) (ms : List Ln) {n : Nat} (hn : n = ms.length) (h : LsOk ms) :
    VC Tryd.prog w0 21 [.agg #[.slice a n c]] (ownLs a c ms :: tsA ms :: L) fun v L' => L' = L := by
  subst hn
  have hlen := h.len
  refine vc_ent ?_
  refine vc_in rfl rfl ?_
  repeat' (first | (refine go1 ?_; intros) | ((first | refine vl_caseG rfl rfl rfl rfl ?_ ?_ | refine v_cond rfl ?_ ?_) <;> (intro hb; (try simp only [hq1, hq2, hq3, hq4, ne_eq, hq5, hq6, hq7, hq8] at hb); try (exfalso; omega))) | fail)
  rename_i g1
  refine v_loopF (List Ln × Nat) [1] rfl (fun x => [(2, .int .i64 x.2)]) (fun _ x => blk g1 24 [.slice a ms.length c] :: ownLs a c ms :: tsA x.1 :: L) (fun x => x.2 ≤ ms.length ∧ lnc x.1 = lnc ms ∧ x.1.length = ms.length ∧ LsOk x.1) (fun x => ms.length - x.2) (ms, 0) ⟨Nat.zero_le _, rfl, rfl, h⟩ (by (repeat' (first | exact Sub.nil _ | refine Sub.cons rfl rfl ?_ | refine Sub.cons rfl ?_ ?_))) (Ent.refl _ _) ?_
  rintro ⟨ws, i⟩ ⟨hi, hlw, hl, okw⟩
  dsimp only at hi hlw hl okw ⊢
  by_cases hlt : i < ms.length
  rotate_left
  · obtain rfl : i = ms.length := by omega
    repeat' (first | (refine go1 ?_; intros) | ((first | refine vl_caseG rfl rfl rfl rfl ?_ ?_ | refine v_cond rfl ?_ ?_) <;> (intro hb; (try simp only [hq1, hq2, hq3, hq4, ne_eq, hq5, hq6, hq7, hq8] at hb); try (exfalso; omega))) | fail)
    exact ⟨L, sei _ _ _, rfl⟩
  have hiw : i < ws.length := by omega
  have e1 := okw.e1 i hiw
  have hpos := okw.pos i hiw
  have lok := okw.at i hiw
  have hpull := se_tsA_pull ws (ownLs a c ms :: blk g1 24 [.slice a ms.length c] :: L) i hiw
  have hpush : ∀ (zs : List Tx), zs.length = ws[i].xs.length → lnc (ws.set i (Ln.mk ws[i].own ws[i].a ws[i].c zs)) = lnc ws := fun zs hz => by
    show flat Ln.cells (ws.set i (Ln.mk ws[i].own ws[i].a ws[i].c zs)) = flat Ln.cells ws
    rw [← okw.wide.spl (x := Ln.mk ws[i].own ws[i].a ws[i].c zs) (Ln.len (l := Ln.mk ws[i].own ws[i].a ws[i].c zs) lok.own) i hiw]
    have e2 : (Ln.mk ws[i].own ws[i].a ws[i].c zs).cells = ws[i].cells := by
      unfold Ln.cells
      dsimp only
      rw [hz]
    rw [e2, okw.wide.spl (x := ws[i]) (Ln.len lok.own) i hiw, List.set_getElem_self]
  rw [hlw] at e1 hpos hpush
  obtain ⟨l, hle⟩ : ∃ l, l = ws[i] := ⟨_, rfl⟩
  rw [← hle] at e1 lok hpull hpush
  have hlt0 := lok.ts.len
  repeat' (first | (refine go1 ?_; intros) | ((first | refine vl_caseG rfl rfl rfl rfl ?_ ?_ | refine v_cond rfl ?_ ?_) <;> (intro hb; (try simp only [hq1, hq2, hq3, hq4, ne_eq, hq5, hq6, hq7, hq8] at hb); try (exfalso; omega))) | fail)
  refine v_ent (L' := own 29 99 l.a l.xs.length l.c (txc l.xs) :: tsA (ws.eraseIdx i) :: ownLs a c ms :: blk g1 24 [.slice a ms.length c] :: L) ?_ ?_
  · exact (sei w0 _ (tsA ws :: ownLs a c ms :: blk g1 24 [.slice a ms.length c] :: L)).trans (hpull.ent w0)
  refine v_loopF (Nat × List Tx) [1, 2] rfl (fun x => [(3, .int .i64 x.1)]) (fun _ x => own 29 99 l.a l.xs.length l.c (txc x.2) :: tsA (ws.eraseIdx i) :: ownLs a c ms :: blk g1 24 [.slice a ms.length c] :: L) (fun x => x.1 ≤ l.xs.length ∧ x.2.length = l.xs.length ∧ TsOk x.2) (fun x => l.xs.length - x.1) (0, l.xs) ⟨Nat.zero_le _, rfl, lok.ts⟩ (by (repeat' (first | exact Sub.nil _ | refine Sub.cons rfl rfl ?_ | refine Sub.cons rfl ?_ ?_))) (Ent.refl _ _) ?_
  rintro ⟨j, zs⟩ ⟨hj, hzl, hzo⟩
  dsimp only at hj hzl hzo ⊢
  by_cases hlt2 : j < l.xs.length
  rotate_left
  · obtain rfl : j = l.xs.length := by omega
    repeat' (first | (refine go1 ?_; intros) | ((first | refine vl_caseG rfl rfl rfl rfl ?_ ?_ | refine v_cond rfl ?_ ?_) <;> (intro hb; (try simp only [hq1, hq2, hq3, hq4, ne_eq, hq5, hq6, hq7, hq8] at hb); try (exfalso; omega))) | fail)
    have hset := set_perm hiw (Ln.mk l.own l.a l.c zs)
    rw [← List.eraseIdx_eq_take_drop_succ] at hset
    have hsl : (ws.set i (Ln.mk l.own l.a l.c zs)).length = ms.length := by rw [List.length_set, hl]
    refine ⟨rfl, (ws.set i (Ln.mk l.own l.a l.c zs), i + 1), ⟨by dsimp only; omega, hpush zs hzl, hsl, ⟨fun p hp => ?_, by rw [hsl]; exact hlen⟩⟩, by dsimp only; omega, by (repeat' (first | exact Sub.nil _ | refine Sub.cons rfl rfl ?_ | refine Sub.cons rfl ?_ ?_)), ?_⟩
    · rcases List.mem_or_eq_of_mem_set hp with hp | rfl
      · exact okw.ok p hp
      · exact ⟨lok.own, hzo⟩
    · dsimp only
      rw [← hzl]
      exact (sei w0 _ (ownTs l.a l.c zs :: tsA (ws.eraseIdx i) :: blk g1 24 [.slice a ms.length c] :: ownLs a c ms :: L)).trans (((se_tsA_push (ws.eraseIdx i) (ws.set i (Ln.mk l.own l.a l.c zs)) _ (Ln.mk l.own l.a l.c zs) hset).ent w0).trans (sei w0 _ _))
  have hjz : j < zs.length := by omega
  obtain ⟨hz1, hz2⟩ := hzo.zero hjz
  have hzs : (zs.set j { zs[j] with nonce := 0 }).length = l.xs.length := by rw [List.length_set]; exact hzl
  generalize zs.set j { zs[j] with nonce := 0 } = ys at *
  have hbd : j * 99 + 99 ≤ (txc zs).length := hzo.wide.mul j hjz
  have hpz := hzo.pos j hjz
  repeat' (first | (refine go1 ?_; intros) | ((first | refine vl_caseG rfl rfl rfl rfl ?_ ?_ | refine v_cond rfl ?_ ?_) <;> (intro hb; (try simp only [hq1, hq2, hq3, hq4, ne_eq, hq5, hq6, hq7, hq8] at hb); try (exfalso; omega))) | fail)
  rw [hz2]
  exact ⟨rfl, (j + 1, ys), ⟨by dsimp only; omega, hzs, hz1⟩, by dsimp only; omega, by (repeat' (first | exact Sub.nil _ | refine Sub.cons rfl rfl ?_ | refine Sub.cons rfl ?_ ?_)), sei _ _ _⟩
end Go.Proofs.YtccbcdhpnkbkgaaDoor
