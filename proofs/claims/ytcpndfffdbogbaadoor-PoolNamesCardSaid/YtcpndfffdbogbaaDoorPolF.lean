/-
  Pools: a transaction is submitted; a shard is drawn.
-/
import Derived.Test.YtcpndfffdbogbaaDoorPolE
set_option linter.unusedVariables false
set_option linter.unusedSimpArgs false
namespace Go.Proofs.YtcpndfffdbogbaaDoor
open Go Go.RowKit
set_option linter.unusedVariables false
set_option linter.unusedSimpArgs false
set_option linter.unusedSectionVars false
open Classical

set_option maxRecDepth 100000 in
set_option maxHeartbeats 2000000 in
theorem psub1_vc (w0 : World) (L : List Asn) [hK : RdA w0 (some ⟨0, 0, none⟩) (wds K64)] (gc ga gf gx gt : Nat) (fs ts : List Value) (s : Sh) (h : LsOk s.ls) (h9 : s.ls.length ≤ 900000) (cap : Int) (K bal : Nat) (hKl : K < 18446744073709551616) (x : Tx) (hx : x.ok) [hr : RdC w0 L s.a (lnc s.ls)] [hv : RdLs w0 L s.ls] :
    VC Tryd.prog w0 22 ([.agg #[.slice s.a s.ls.length s.c]] ++ #[Value.pointer (some ⟨gc, 0, none⟩), .pointer (some ⟨ga, 0, none⟩), .pointer (some ⟨gx, 0, none⟩)].toList) (blk ga 57 [.int .u64 K, .int .u64 bal] :: blk gf 36 fs :: blk gx 39 x.cells :: blk gt 24 ts :: blk gc 3 [.int .i64 cap] :: L) (RSub (submitS (lls s.ls) cap K x) (blk ga 57 [.int .u64 K, .int .u64 bal] :: blk gf 36 fs :: blk gx 39 x.cells :: blk gt 24 ts :: blk gc 3 [.int .i64 cap] :: L)) := by
  have hlen := h.len
  have hxl := Tx.len hx
  haveI oxc : OC x.cells := oc_tx _
  refine vc_ent ?_
  refine vc_in rfl rfl ?_
  obtain ⟨xc, hxc⟩ : ∃ xc, xc = x.cells := ⟨_, rfl⟩
  rw [← hxc] at hxl oxc ⊢
  repeat' (first | (refine go1 ?_; intros) | (refine goCC ?_ ?_ <;> (intro hb; (try simp only [hSQ] at hb); try (exfalso; omega))) | fail)
  refine vl_o rfl (vo_call rfl rfl ?_)
  rw [hxc]
  refine vc_mono (ssubmit_vc w0 _ s.a s.c s.ls cap K x rfl h h9 hx hKl) ?_
  rintro v L' ⟨a1, c1, ms, b1, d1, rfl, hms, hmo, rfl⟩
  rw [← hxc]
  generalize submitS (lls s.ls) cap K x = q at *
  repeat' (first | (refine go1 ?_; intros) | (refine goCC ?_ ?_ <;> (intro hb; (try simp only [hSQ] at hb); try (exfalso; omega))) | fail)
  exact ⟨_, sei w0 _ (ownLs a1 c1 ms :: tsA ms :: ownTs b1 d1 q.2.1 :: blk ga 57 [.int .u64 K, .int .u64 bal] :: blk gf 36 fs :: blk gx 39 xc :: blk gt 24 ts :: blk gc 3 [.int .i64 cap] :: L), a1, c1, ms, b1, d1, rfl, hms, hmo, rfl⟩
set_option maxRecDepth 100000 in
set_option maxHeartbeats 4000000 in
theorem psubmit_vc (w0 : World) (L : List Asn) [hK : RdA w0 (some ⟨0, 0, none⟩) (wds K64)] (a : Option Addr) (c : Nat) (ss : List Sh) (cap : Int) (ta : Option Addr) (tc : Nat) (ns : List Nd) (r : Int) (x : Tx) {n tn : Nat} (hn : n = ss.length) (htn : tn = ns.length) (h : SsOk ss) (h9 : ∀ s ∈ ss, s.ls.length ≤ 900000) (hok : NsOk ns) (hx : x.ok) [hr : RdC w0 L a (shc ss)] [hv : RdSs w0 L ss] [hr2 : RdC w0 L ta (ndc ns)] [hv2 : RdNs w0 L ns] :
    VC Tryd.prog w0 9 [.slice a n c, .int .i64 cap, .agg #[.slice ta tn tc, .int .i64 r], .agg x.cells.toArray] L (RPS (submitO (shl ss) ns r cap x) L) := by
  subst hn
  subst htn
  have hlen := h.len
  have hxl := Tx.len hx
  have hfl := fromT_len x
  haveI oxc : OC x.cells := oc_tx _
  refine vc_ent ?_
  refine vc_in rfl rfl ?_
  unfold submitO
  obtain ⟨xc, hxc⟩ : ∃ xc, xc = x.cells := ⟨_, rfl⟩
  rw [← hxc] at hxl oxc ⊢
  repeat' (first | (refine go1 ?_; intros) | (refine goCC ?_ ?_ <;> (intro hb; (try simp only [hSQ] at hb); try (exfalso; omega))) | fail)
  refine vl_o rfl (vo_call rfl rfl ?_)
  refine vc_mono (pasked_vc w0 _ a c ss ta tc ns r rfl rfl h hok) ?_
  rintro v L' ⟨rfl, rfl⟩
  by_cases hc : MayO (shl ss) ∧ StP ns r
  rotate_left
  · rw [if_neg hc, if_neg hc]
    repeat' (first | (refine go1 ?_; intros) | (refine goCC ?_ ?_ <;> (intro hb; (try simp only [hSQ] at hb); try (exfalso; omega))) | fail)
    all_goals first | (exfalso; omega) | exact RPS.bad w0 L 8 (sei _ _ _)
  rw [if_pos hc, if_pos hc]
  obtain ⟨hm, hst⟩ := hc
  have hlo := hm.lo
  have hhi := hm.hi
  rw [shl_length] at hlo hhi ⊢
  repeat' (first | (refine go1 ?_; intros) | (refine goCC ?_ ?_ <;> (intro hb; (try simp only [hSQ] at hb); try (exfalso; omega))) | fail)
  all_goals first | (exfalso; omega) | skip
  refine vl_o rfl (vo_call rfl rfl ?_)
  rw [hxc]
  refine vc_mono (txFrom_vc w0 _ x hx) ?_
  rintro v L' ⟨rfl, rfl⟩
  rw [← hxc, show sha (tagB 3 [x.pub]) = fromT x from rfl]
  repeat' (first | (refine go1 ?_; intros) | (refine goCC ?_ ?_ <;> (intro hb; (try simp only [hSQ] at hb); try (exfalso; omega))) | fail)
  refine vl_o rfl (vo_call rfl rfl ?_)
  refine vc_mono (pat_vc w0 _ (fromT x) ss.length hfl) ?_
  rintro v L' ⟨rfl, rfl⟩
  rw [if_pos (by omega)]
  obtain ⟨K, hKe⟩ : ∃ K, K = nonceA ns r (fromT x) := ⟨_, rfl⟩
  have hKl : K < 18446744073709551616 := by rw [hKe]; exact nonceA_lt _ _ _
  rw [← hKe]
  repeat' (first | (refine go1 ?_; intros) | (refine goCC ?_ ?_ <;> (intro hb; (try simp only [hSQ] at hb); try (exfalso; omega))) | fail)
  refine vl_o rfl (vo_call rfl rfl ?_)
  refine vc_mono (aget_vc w0 _ ta tc ns r (fromT x) rfl hok hfl) ?_
  rintro v L' ⟨rfl, rfl⟩
  rw [show (accG ns r (fromT x)).1 = K from hKe.symm]
  generalize (accG ns r (fromT x)).2 = bal at *
  generalize atP (fromT x) ss.length = at' at *
  repeat' (first | (refine go1 ?_; intros) | (refine goCC ?_ ?_ <;> (intro hb; (try simp only [hSQ] at hb); try (exfalso; omega))) | fail)
  refine vl_o rfl (vo_call rfl rfl ?_)
  rename_i gc gt gx gf ga
  refine vc_pre (L2 := blk ga 57 [.int .u64 K, .int .u64 bal] :: blk gf 36 (bvs (fromT x)) :: blk gx 39 x.cells :: blk gt 24 [.slice ta ns.length tc, .int .i64 r] :: blk gc 3 [.int .i64 cap] :: L) (by rw [← hxc]; exact sei w0 _ _) ?_
  refine vc_mono (pturned_vc w0 _ a c ss at' 22 #[Value.pointer (some ⟨gc, 0, none⟩), .pointer (some ⟨ga, 0, none⟩), .pointer (some ⟨gx, 0, none⟩)] (fun i => submitS (atC (shl ss) i) cap K x) rfl h (fun k hk hi => ?_)) ?_
  · haveI := hv.at k hk
    haveI := hv.at2 k hk
    have hk2 : k < (shl ss).length := by rw [shl_length]; exact hk
    rw [atC_eq hk2, shl_at]
    exact psub1_vc w0 L gc ga gf gx gt _ _ ss[k] (h.at k hk) (h9 _ (List.getElem_mem hk)) cap K bal hKl x hx
  rintro v L' ⟨a1, c1, ms, b1, d1, rfl, hms, hmo, rfl⟩
  generalize turnO (shl ss) at' (fun i => submitS (atC (shl ss) i) cap K x) [] = q at *
  repeat' (first | (refine go1 ?_; intros) | (refine goCC ?_ ?_ <;> (intro hb; (try simp only [hSQ] at hb); try (exfalso; omega))) | fail)
  exact ⟨_, sei w0 _ (ownSs a1 c1 ms :: shA ms :: ownTs b1 d1 q.2.1 :: L), a1, c1, ms, b1, d1, rfl, hms, hmo, rfl⟩
set_option maxRecDepth 100000 in
set_option maxHeartbeats 2000000 in
theorem pdraw1_vc (w0 : World) (L : List Asn) [hK : RdA w0 (some ⟨0, 0, none⟩) (wds K64)] (gt gm : Nat) (s : Sh) (h : LsOk s.ls) (h6 : s.ls.length ≤ 6) (hx20 : ∀ l ∈ s.ls, l.xs.length ≤ 20) (hcaps : ∀ l ∈ s.ls, l.xs.length ≤ l.c) (ta : Option Addr) (tc : Nat) (ns : List Nd) (r : Int) (hok : NsOk ns) (room : Int) (hro : -9223372036854775808 ≤ room ∧ room < 9223372036854775808) [hr : RdC w0 L s.a (lnc s.ls)] [hv : RdLs w0 L s.ls] [hr2 : RdC w0 L ta (ndc ns)] [hv2 : RdNs w0 L ns] :
    VC Tryd.prog w0 26 ([.agg #[.slice s.a s.ls.length s.c]] ++ #[Value.pointer (some ⟨gt, 0, none⟩), .pointer (some ⟨gm, 0, none⟩)].toList) (blk gm 3 [.int .i64 room] :: blk gt 24 [.slice ta ns.length tc, .int .i64 r] :: L) (RSub (drawQ (lls s.ls) ns r room) (blk gm 3 [.int .i64 room] :: blk gt 24 [.slice ta ns.length tc, .int .i64 r] :: L)) := by
  have hlen := h.len
  refine vc_ent ?_
  refine vc_in rfl rfl ?_
  repeat' (first | (refine go1 ?_; intros) | (refine goCC ?_ ?_ <;> (intro hb; (try simp only [hSQ] at hb); try (exfalso; omega))) | fail)
  refine vl_o rfl (vo_call rfl rfl ?_)
  refine vc_mono (sdraw_vc w0 _ s.a s.c s.ls ta tc ns r room rfl rfl h h6 hx20 hcaps hok hro) ?_
  rintro v L' ⟨a1, c1, ms, b1, d1, rfl, hms, hmo, rfl⟩
  generalize drawQ (lls s.ls) ns r room = q at *
  repeat' (first | (refine go1 ?_; intros) | (refine goCC ?_ ?_ <;> (intro hb; (try simp only [hSQ] at hb); try (exfalso; omega))) | fail)
  exact ⟨_, sei w0 _ (ownLs a1 c1 ms :: tsA ms :: ownTs b1 d1 q.2.1 :: blk gm 3 [.int .i64 room] :: blk gt 24 [.slice ta ns.length tc, .int .i64 r] :: L), a1, c1, ms, b1, d1, rfl, hms, hmo, rfl⟩
set_option maxRecDepth 100000 in
set_option maxHeartbeats 4000000 in
theorem pdraw_vc (w0 : World) (L : List Asn) [hK : RdA w0 (some ⟨0, 0, none⟩) (wds K64)] (a : Option Addr) (c : Nat) (ss : List Sh) (i : Int) (ta : Option Addr) (tc : Nat) (ns : List Nd) (r : Int) (room : Int) {n tn : Nat} (hn : n = ss.length) (htn : tn = ns.length) (h : SsOk ss) (h6 : ∀ s ∈ ss, s.ls.length ≤ 6 ∧ (∀ l ∈ s.ls, l.xs.length ≤ 20) ∧ ∀ l ∈ s.ls, l.xs.length ≤ l.c) (hok : NsOk ns) (hro : -9223372036854775808 ≤ room ∧ room < 9223372036854775808) [hr : RdC w0 L a (shc ss)] [hv : RdSs w0 L ss] [hr2 : RdC w0 L ta (ndc ns)] [hv2 : RdNs w0 L ns] :
    VC Tryd.prog w0 15 [.slice a n c, .int .i64 i, .agg #[.slice ta tn tc, .int .i64 r], .int .i64 room] L (RPS (drawO (shl ss) ns r i room) L) := by
  subst hn
  subst htn
  have hlen := h.len
  refine vc_ent ?_
  refine vc_in rfl rfl ?_
  unfold drawO
  repeat' (first | (refine go1 ?_; intros) | (refine goCC ?_ ?_ <;> (intro hb; (try simp only [hSQ] at hb); try (exfalso; omega))) | fail)
  refine vl_o rfl (vo_call rfl rfl ?_)
  refine vc_mono (pasked_vc w0 _ a c ss ta tc ns r rfl rfl h hok) ?_
  rintro v L' ⟨rfl, rfl⟩
  by_cases hc : MayO (shl ss) ∧ StP ns r
  rotate_left
  · rw [if_neg hc, if_neg hc]
    repeat' (first | (refine go1 ?_; intros) | (refine goCC ?_ ?_ <;> (intro hb; (try simp only [hSQ] at hb); try (exfalso; omega))) | fail)
    all_goals first | (exfalso; omega) | exact RPS.bad w0 L 8 (sei _ _ _)
  rw [if_pos hc, if_pos hc]
  repeat' (first | (refine go1 ?_; intros) | (refine goCC ?_ ?_ <;> (intro hb; (try simp only [hSQ] at hb); try (exfalso; omega))) | fail)
  all_goals first | (exfalso; omega) | skip
  refine vl_o rfl (vo_call rfl rfl ?_)
  rename_i gt gm
  refine vc_pre (L2 := blk gm 3 [.int .i64 room] :: blk gt 24 [.slice ta ns.length tc, .int .i64 r] :: L) (sei w0 _ _) ?_
  refine vc_mono (pturned_vc w0 _ a c ss i 26 #[Value.pointer (some ⟨gt, 0, none⟩), .pointer (some ⟨gm, 0, none⟩)] (fun i => drawQ (atC (shl ss) i) ns r room) rfl h (fun k hk hi => ?_)) ?_
  · haveI := hv.at k hk
    haveI := hv.at2 k hk
    have hk2 : k < (shl ss).length := by rw [shl_length]; exact hk
    obtain ⟨q1, q2, q3⟩ := h6 _ (List.getElem_mem hk)
    rw [atC_eq hk2, shl_at]
    exact pdraw1_vc w0 L gt gm ss[k] (h.at k hk) q1 q2 q3 ta tc ns r hok room hro
  rintro v L' ⟨a1, c1, ms, b1, d1, rfl, hms, hmo, rfl⟩
  generalize turnO (shl ss) i (fun i => drawQ (atC (shl ss) i) ns r room) [] = q at *
  repeat' (first | (refine go1 ?_; intros) | (refine goCC ?_ ?_ <;> (intro hb; (try simp only [hSQ] at hb); try (exfalso; omega))) | fail)
  exact ⟨_, sei w0 _ (ownSs a1 c1 ms :: shA ms :: ownTs b1 d1 q.2.1 :: L), a1, c1, ms, b1, d1, rfl, hms, hmo, rfl⟩
end Go.Proofs.YtcpndfffdbogbaaDoor
