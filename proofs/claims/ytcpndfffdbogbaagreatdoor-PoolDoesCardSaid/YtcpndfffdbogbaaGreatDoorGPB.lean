/-
  Pools, the document's: a pool with another shard at a place; what is put, what is submitted. Pools, the document's: what is drawn, what goes back.
-/
import Derived.Test.YtcpndfffdbogbaaGreatDoorGPA
import Derived.Test.YtcpndfffdbogbaaGreatDoorGZB
import Derived.Test.YtcpndfffdbogbaaGreatDoorG8
set_option linter.unusedVariables false
set_option linter.unusedSimpArgs false
set_option linter.unusedSectionVars false
set_option maxRecDepth 100000
set_option maxHeartbeats 4000000
namespace Go.Proofs.YtcpndfffdbogbaaGreatDoor
open Go Go.RowKit
open Classical

theorem rwith21_vc (w0 : World) (L : List Asn) (a : Option Addr) (c : Nat) (ss : List Sh) (k : Nat) (s : Sh) {n : Nat} (hn : n = ss.length) (h : SsOk ss) (hk : k < ss.length) (hs : LsOk s.ls) {m : Nat} (hm : m = s.ls.length) [hr : RdC w0 L a (shc ss)] [hv : RdSs w0 L ss] :
    VC Tryz.prog w0 102 [.slice a n c, .int .i64 k, .agg #[.slice s.a m s.c]] (ownLs s.a s.c s.ls :: tsA s.ls :: L) fun v L' => ∃ a2 c2 ts, v = .slice a2 ts.length c2 ∧ shl ts = (shl ss).set k (lls s.ls) ∧ SsOk ts ∧ L' = ownSs a2 c2 ts :: shA ts :: L := by
  subst hn
  subst hm
  have hlen := h.len
  refine vc_ent ?_
  refine vc_in rfl rfl ?_
  repeat' (first | (refine go1 ?_; intros) | (refine goCC ?_ ?_ <;> (intro hb; (try simp only [hSQ] at hb); try (exfalso; omega))) | fail)
  refine clV ?_
  refine vc_mono (rtwin21_vc w0 _ a c ss rfl h) ?_
  rintro v L' ⟨a2, c2, ts, rfl, hts, rfl⟩
  have hto := h.of_shl hts
  have htl := shl_len hts
  have hkt : k < ts.length := by omega
  have htc := shs_len ts
  have hpos2 := hto.pos k hkt
  have hset := shc_set ts hkt s
  repeat' (first | (refine go1 ?_; intros) | (refine goCC ?_ ?_ <;> (intro hb; (try simp only [hSQ] at hb); try (exfalso; omega))) | fail)
  rw [hset]
  refine ⟨ownSs a2 c2 (ts.set k s) :: shA (ts.set k s) :: L, ?_, a2, c2, ts.set k s, ?_, ?_, hto.set k hs, rfl⟩
  · unfold ownSs
    rw [List.length_set]
    exact (sei w0 _ (ownLs s.a s.c s.ls :: tsA s.ls :: shA ts :: own 24 1 a2 ts.length c2 (shc (ts.set k s)) :: L)).trans (((se_shA_set ts hkt s _).ent w0).trans (sei w0 _ _))
  · rw [List.length_set]
  · rw [shl_set, hts]
theorem rput21_vc (w0 : World) (L : List Asn) (a : Option Addr) (c : Nat) (ss : List Sh) (cap : Int) (pa : Option Addr) (pc : Nat) (ps : List PR) (x : Tx) {n pn : Nat} (hn : n = ss.length) (hpn : pn = ps.length) (h : SsOk ss) (h8 : ∀ s ∈ ss, s.ls.length ≤ 800000) (hm : MayO (shl ss)) (hpo : PsOk ps) (hps : Srt (kvs ps)) (hcaps : ∀ p ∈ ps, p.v.length ≤ p.c) (hx : x.ok) (K : Nat) (hK : K = (inP (kvs ps) (fromT x)).1) [hr : RdC w0 L a (shc ss)] [hv : RdSs w0 L ss] [hr2 : RdC w0 L pa (prc ps)] [hv2 : RdVs w0 L ps] :
    VC Tryz.prog w0 54 [.slice a n c, .int .i64 cap, .slice pa pn pc, .agg x.cells.toArray] L (RPS (turnO (shl ss) (atP (fromT x) ss.length) (fun i => submitS (atC (shl ss) i) cap K x) []) L) := by
  subst hn
  subst hpn
  have hlen := h.len
  have hxl := Tx.len hx
  have hfl := fromT_len x
  haveI oxc : OC x.cells := oc_tx _
  have hlo := hm.lo
  have hhi := hm.hi
  rw [shl_length] at hlo hhi
  have hk := atN_lt (fromT x) hlo
  have hkc := atN_cast (fromT x) hlo
  have hk2 : atN (fromT x) ss.length < (shl ss).length := by rw [shl_length]; exact hk
  have eT : turnO (shl ss) (atP (fromT x) ss.length) (fun i => submitS (atC (shl ss) i) cap K x) [] = if (submitC (lls ss[atN (fromT x) ss.length].ls) cap K x).2.2 = 0 then ((shl ss).set (atN (fromT x) ss.length) (submitC (lls ss[atN (fromT x) ss.length].ls) cap K x).1, (submitC (lls ss[atN (fromT x) ss.length].ls) cap K x).2.1, 0) else ([], [], (submitC (lls ss[atN (fromT x) ss.length].ls) cap K x).2.2) := by
    have hmc := (hm.at' _ hk2).1
    rw [← hkc]
    refine turnO_in hk2 ?_
    rw [atC_eq hk2]
    rw [shl_at] at hmc ⊢
    exact if_pos hmc
  rw [eT]
  have hmc := (hm.at' _ hk2).1
  rw [shl_at] at hmc
  have hKl : K < 18446744073709551616 := by rw [hK]; exact (inP_lt _ _).1
  generalize atN (fromT x) ss.length = k at *
  have e' := shs_e1 k hk
  have hpos := h.pos k hk
  haveI := hv.at k hk
  haveI := hv.at2 k hk
  have sok := h.at k hk
  have s8 := h8 _ (List.getElem_mem hk)
  refine vc_ent ?_
  refine vc_in rfl rfl ?_
  obtain ⟨xc, hxc⟩ : ∃ xc, xc = x.cells := ⟨_, rfl⟩
  rw [← hxc] at hxl oxc ⊢
  repeat' (first | (refine go1 ?_; intros) | (refine goCC ?_ ?_ <;> (intro hb; (try simp only [hSQ] at hb); try (exfalso; omega))) | fail)
  refine clV ?_
  rw [hxc]
  refine vc_mono (rFrom_vc w0 _ x hx) ?_
  rintro v L' ⟨rfl, rfl⟩
  rw [← hxc, show sha (tagB 3 [x.pub]) = fromT x from rfl]
  repeat' (first | (refine go1 ?_; intros) | (refine goCC ?_ ?_ <;> (intro hb; (try simp only [hSQ] at hb); try (exfalso; omega))) | fail)
  refine clV ?_
  refine vc_mono (rof21_vc w0 _ (fromT x) ss.length hfl (by omega)) ?_
  rintro v L' ⟨rfl, rfl⟩
  rw [← hkc]
  repeat' (first | (refine go1 ?_; intros) | (refine goCC ?_ ?_ <;> (intro hb; (try simp only [hSQ] at hb); try (exfalso; omega))) | fail)
  rename_i gx gf
  refine v_cut {z : Nat × Option Addr × Nat × List Ln × Option Addr × Nat // lls z.2.2.2.1 = (submitC (lls ss[k].ls) cap K x).1 ∧ LsOk z.2.2.2.1} [0, 12] rfl (fun z => [(13, .pointer (some ⟨z.1.1, 0, none⟩)), (14, .slice z.1.2.2.2.2.1 (submitC (lls ss[k].ls) cap K x).2.1.length z.1.2.2.2.2.2), (15, .int .i64 (submitC (lls ss[k].ls) cap K x).2.2)]) (fun z => blk z.1.1 24 [.slice z.1.2.1 z.1.2.2.2.1.length z.1.2.2.1] :: ownLs z.1.2.1 z.1.2.2.1 z.1.2.2.2.1 :: tsA z.1.2.2.2.1 :: ownTs z.1.2.2.2.2.1 z.1.2.2.2.2.2 (submitC (lls ss[k].ls) cap K x).2.1 :: L) ?_ ?_
  · refine v_id ?_
    refine v_draw0 [] (by kernel_rfl) ?_
    refine tA 0 ?_
    refine tA 1 ?_
    refine tA 2 ?_
    refine tA 3 ?_
    refine tA 4 ?_
    refine tA 5 ?_
    refine tA 6 ?_
    refine tA 9 ?_
    refine va_two 7 15 (by kernel_rfl) rfl rfl rfl rfl ?_ ?_
    · first | refine vo_call rfl rfl ?_ | refine vo_callV rfl rfl rfl ?_
      refine vc_mono (rin10_vc w0 _ pa pc ps (fromT x) rfl hpo hfl hps hcaps) ?_
      rintro v L' ⟨rfl, rfl⟩
      rw [← hK]
      generalize (inP (kvs ps) (fromT x)).2 = bal at *
      refine ⟨.inr (sei _ _ _), ?_⟩
      refine va_take 8 rfl rfl rfl rfl (by kernel_rfl) (fun _ _ _ _ h => h) entD (vq_field1 (v := .int .u64 K) rfl rfl) ?_
      refine va_two 10 15 (by kernel_rfl) rfl rfl rfl rfl ?_ ?_
      · first | refine vo_call rfl rfl ?_ | refine vo_callV rfl rfl rfl ?_
        rw [hxc]
        refine vc_mono (rput20_vc w0 _ ss[k].a ss[k].c ss[k].ls cap K x rfl sok hmc s8 hx hKl) ?_
        rintro v L' ⟨a1, c1, ms, b1, d1, rfl, hms, hmo, rfl⟩
        rw [← hxc]
        refine ⟨.inr (sei _ _ _), ?_⟩
        refine tA 11 ?_
        refine tA 12 ?_
        refine tA 13 ?_
        refine tA 14 ?_
        refine va_one 15 (by kernel_rfl) rfl rfl ?_
        (refine goV ?_; intros)
        refine ⟨.inr (sei _ _ _), ?_⟩
        refine va_one 16 (by kernel_rfl) rfl rfl ?_
        (refine goV ?_; intros)
        refine ⟨.inr (sei _ _ _), ?_⟩
        refine tA 17 ?_
        refine tA 18 ?_
        refine va_done (by kernel_rfl) ?_
        refine ⟨rfl, ⟨(_, a1, c1, ms, b1, d1), hms, hmo⟩, by (exact sbS), ?_⟩
        dsimp only
        exact sei _ _ _
      · (refine goV ?_; intros)
        refine ⟨.inr (sei _ _ _), ?_⟩
        refine va_one 10 (by kernel_rfl) rfl rfl ?_
        first | refine vo_call rfl rfl ?_ | refine vo_callV rfl rfl rfl ?_
        rw [hxc]
        refine vc_mono (rput20_vc w0 _ ss[k].a ss[k].c ss[k].ls cap K x rfl sok hmc s8 hx hKl) ?_
        rintro v L' ⟨a1, c1, ms, b1, d1, rfl, hms, hmo, rfl⟩
        rw [← hxc]
        refine ⟨.inr (sei _ _ _), ?_⟩
        refine tA 11 ?_
        refine tA 12 ?_
        refine tA 13 ?_
        refine tA 14 ?_
        refine va_one 16 (by kernel_rfl) rfl rfl ?_
        (refine goV ?_; intros)
        refine ⟨.inr (sei _ _ _), ?_⟩
        refine tA 17 ?_
        refine tA 18 ?_
        refine va_done (by kernel_rfl) ?_
        refine ⟨rfl, ⟨(_, a1, c1, ms, b1, d1), hms, hmo⟩, by (exact sbS), ?_⟩
        dsimp only
        exact sei _ _ _
    · (refine goV ?_; intros)
      refine ⟨.inr (sei _ _ _), ?_⟩
      refine va_one 7 (by kernel_rfl) rfl rfl ?_
      first | refine vo_call rfl rfl ?_ | refine vo_callV rfl rfl rfl ?_
      refine vc_mono (rin10_vc w0 _ pa pc ps (fromT x) rfl hpo hfl hps hcaps) ?_
      rintro v L' ⟨rfl, rfl⟩
      rw [← hK]
      generalize (inP (kvs ps) (fromT x)).2 = bal at *
      refine ⟨.inr (sei _ _ _), ?_⟩
      refine va_take 8 rfl rfl rfl rfl (by kernel_rfl) (fun _ _ _ _ h => h) entD (vq_field1 (v := .int .u64 K) rfl rfl) ?_
      refine va_one 10 (by kernel_rfl) rfl rfl ?_
      first | refine vo_call rfl rfl ?_ | refine vo_callV rfl rfl rfl ?_
      rw [hxc]
      refine vc_mono (rput20_vc w0 _ ss[k].a ss[k].c ss[k].ls cap K x rfl sok hmc s8 hx hKl) ?_
      rintro v L' ⟨a1, c1, ms, b1, d1, rfl, hms, hmo, rfl⟩
      rw [← hxc]
      refine ⟨.inr (sei _ _ _), ?_⟩
      refine tA 11 ?_
      refine tA 12 ?_
      refine tA 13 ?_
      refine tA 14 ?_
      refine va_one 16 (by kernel_rfl) rfl rfl ?_
      (refine goV ?_; intros)
      refine ⟨.inr (sei _ _ _), ?_⟩
      refine tA 17 ?_
      refine tA 18 ?_
      refine va_done (by kernel_rfl) ?_
      refine ⟨rfl, ⟨(_, a1, c1, ms, b1, d1), hms, hmo⟩, by (exact sbS), ?_⟩
      dsimp only
      exact sei _ _ _
  rintro ⟨⟨g13, a1, c1, ms, b1, d1⟩, hms, hmo⟩
  dsimp only at hms hmo ⊢
  generalize submitC (lls ss[k].ls) cap K x = Q at *
  obtain ⟨Q1, Q2, Q3⟩ := Q
  dsimp only at hms ⊢
  by_cases he : Q3 = 0
  rotate_left
  · rw [if_neg he]
    repeat' (first | (refine go1 ?_; intros) | (refine goCC ?_ ?_ <;> (intro hb; (try simp only [hSQ] at hb); try (exfalso; omega))) | fail)
    all_goals first | exact RPS.bad w0 L Q3 (sei _ _ _) | (exfalso; omega)
  subst he
  rw [if_pos rfl]
  repeat' (first | (refine go1 ?_; intros) | (refine goCC ?_ ?_ <;> (intro hb; (try simp only [hSQ] at hb); try (exfalso; omega))) | fail)
  all_goals first | (exfalso; omega) | skip
  refine clV ?_
  refine vc_pre (L2 := ownLs a1 c1 ms :: tsA ms :: ownTs b1 d1 Q2 :: L) (sei w0 _ _) ?_
  refine vc_mono (rwith21_vc w0 _ a c ss k ⟨a1, c1, ms⟩ rfl h hk hmo rfl) ?_
  rintro v L' ⟨a2, c2, ts, rfl, hts, hto, rfl⟩
  repeat' (first | (refine go1 ?_; intros) | (refine goCC ?_ ?_ <;> (intro hb; (try simp only [hSQ] at hb); try (exfalso; omega))) | fail)
  refine ⟨ownSs a2 c2 ts :: shA ts :: ownTs b1 d1 Q2 :: L, sei _ _ _, a2, c2, ts, b1, d1, rfl, ?_, hto, rfl⟩
  rw [hts, hms]
theorem rsubmit21_vc (w0 : World) (L : List Asn) (a : Option Addr) (c : Nat) (ss : List Sh) (cap : Int) (ta : Option Addr) (tc : Nat) (ns : List Nd) (r : Int) (x : Tx) {n tn : Nat} (hn : n = ss.length) (htn : tn = ns.length) (h : SsOk ss) (h8 : ∀ s ∈ ss, s.ls.length ≤ 800000) (hok : NsOk ns) (hx : x.ok) [hr : RdC w0 L a (shc ss)] [hv : RdSs w0 L ss] [hr2 : RdC w0 L ta (ndc ns)] [hv2 : RdNs w0 L ns] :
    VC Tryz.prog w0 19 [.slice a n c, .int .i64 cap, .agg #[.slice ta tn tc, .int .i64 r], .agg x.cells.toArray] L (RPS (submitO (shl ss) ns r cap x) L) := by
  subst hn
  subst htn
  have hlen := h.len
  have hxl := Tx.len hx
  haveI oxc : OC x.cells := oc_tx _
  refine vc_ent ?_
  refine vc_in rfl rfl ?_
  unfold submitO
  obtain ⟨xc, hxc⟩ : ∃ xc, xc = x.cells := ⟨_, rfl⟩
  rw [← hxc] at hxl oxc ⊢
  repeat' (first | (refine go1 ?_; intros) | (refine goCC ?_ ?_ <;> (intro hb; (try simp only [hSQ] at hb); try (exfalso; omega))) | fail)
  refine clV ?_
  refine vc_mono (rmay21_vc w0 _ a c ss rfl h) ?_
  rintro v L' ⟨rfl, rfl⟩
  by_cases hm : mayPo ss = true
  rotate_left
  · simp only [Bool.not_eq_true] at hm
    rw [hm, if_neg (fun e => by rw [mayO_iff.2 e.1] at hm; cases hm)]
    repeat' (first | (refine go1 ?_; intros) | (refine goCC ?_ ?_ <;> (intro hb; (try simp only [hSQ] at hb); try (exfalso; omega))) | fail)
    exact RPS.bad w0 L 8 (sei _ _ _)
  have hmc := mayO_iff.1 hm
  rw [hm]
  repeat' (first | (refine go1 ?_; intros) | (refine goCC ?_ ?_ <;> (intro hb; (try simp only [hSQ] at hb); try (exfalso; omega))) | fail)
  refine clV ?_
  refine vc_mono (rmay10_vc w0 _ ta tc ns r rfl hok) ?_
  rintro v L' ⟨rfl, rfl⟩
  by_cases hst : StP ns r
  rotate_left
  · rw [decide_eq_false hst, if_neg (fun e => hst e.2)]
    repeat' (first | (refine go1 ?_; intros) | (refine goCC ?_ ?_ <;> (intro hb; (try simp only [hSQ] at hb); try (exfalso; omega))) | fail)
    exact RPS.bad w0 L 8 (sei _ _ _)
  rw [decide_eq_true hst, if_pos ⟨hmc, hst⟩, shl_length]
  have hf : ∀ (ps : List PR), kvs ps = forP ns r.toNat → nonceA ns r (fromT x) = (inP (kvs ps) (fromT x)).1 := fun ps hps => by
    unfold nonceA accG getA
    rw [if_pos hst, hps]
  repeat' (first | (refine go1 ?_; intros) | (refine goCC ?_ ?_ <;> (intro hb; (try simp only [hSQ] at hb); try (exfalso; omega))) | fail)
  refine v_id ?_
  refine v_draw0 [] (by kernel_rfl) ?_
  refine tA 0 ?_
  refine tA 1 ?_
  refine tA 2 ?_
  refine tA 4 ?_
  refine va_one 3 (by kernel_rfl) rfl rfl ?_
  first | refine vo_call rfl rfl ?_ | refine vo_callV rfl rfl rfl ?_
  refine vc_mono (all6_vc w0 _ ta tc ns r rfl hok hst.1) ?_
  rintro v L' ⟨pa, pc, ps, rfl, hps, rfl⟩
  have hpo := all_ok hok hst.1 hps
  refine ⟨.inr (sei _ _ _), ?_⟩
  refine va_one 5 (by kernel_rfl) rfl rfl ?_
  first | refine vo_call rfl rfl ?_ | refine vo_callV rfl rfl rfl ?_
  rw [hxc]
  refine vc_know (φ := ∀ p ∈ ps, p.v.length ≤ p.c) (fun w hs => vsA_capH w0 _ ps w hs) (fun hcs => ?_)
  refine vc_mono (rput21_vc w0 _ a c ss cap pa pc ps x rfl rfl h h8 hmc hpo (by rw [hps]; exact hst.1.for.srt) hcs hx (nonceA ns r (fromT x)) (hf ps hps)) ?_
  rintro v L' ⟨a2, c2, m2, b2, d2, rfl, h2, k2, rfl⟩
  rw [← hxc]
  generalize turnO (shl ss) (atP (fromT x) ss.length) (fun i => submitS (atC (shl ss) i) cap (nonceA ns r (fromT x)) x) [] = q at *
  refine ⟨.inr (sei _ _ _), ?_⟩
  refine tA 6 ?_
  refine tA 7 ?_
  refine tA 8 ?_
  refine tA 9 ?_
  refine tA 10 ?_
  refine tA 11 ?_
  refine tA 12 ?_
  refine va_done (by kernel_rfl) ?_
  repeat' (first | (refine go1 ?_; intros) | (refine goCC ?_ ?_ <;> (intro hb; (try simp only [hSQ] at hb); try (exfalso; omega))) | fail)
  exact ⟨_, sei w0 _ (ownSs a2 c2 m2 :: shA m2 :: ownTs b2 d2 q.2.1 :: L), a2, c2, m2, b2, d2, rfl, h2, k2, rfl⟩
end Go.Proofs.YtcpndfffdbogbaaGreatDoor
namespace Go.Proofs.YtcpndfffdbogbaaGreatDoor
open Go Go.RowKit
open Classical

theorem drawQ_of {cs : List LC} {ns : List Nd} {r room : Int} (h : MayC cs) (k : StP ns r) : drawQ cs ns r room = ((drawC (nonceA ns r) room cs).1, (drawC (nonceA ns r) room cs).2, 0) := if_pos ⟨h, k⟩
theorem rdrawn21_vc (w0 : World) (L : List Asn) (a : Option Addr) (c : Nat) (ss : List Sh) (k : Nat) (pa : Option Addr) (pc : Nat) (ps : List PR) (room : Int) {n pn : Nat} (hn : n = ss.length) (hpn : pn = ps.length) (h : SsOk ss) (h6 : ∀ s ∈ ss, s.ls.length ≤ 6 ∧ ∀ l ∈ s.ls, l.xs.length ≤ 20) (hk : k < ss.length) (hmc : MayC (lls ss[k].ls)) (hpo : PsOk ps) (hps : Srt (kvs ps)) (hcaps : ∀ p ∈ ps, p.v.length ≤ p.c) (f : List UInt8 → Nat) (hf : ∀ k, f k = (inP (kvs ps) k).1) [hr : RdC w0 L a (shc ss)] [hv : RdSs w0 L ss] [hr2 : RdC w0 L pa (prc ps)] [hv2 : RdVs w0 L ps] :
    VC Tryz.prog w0 56 [.slice a n c, .int .i64 k, .slice pa pn pc, .int .i64 room] L fun v L' => ∃ a2 c2 ts b1 d1, v = .tuple #[.slice a2 ts.length c2, .slice b1 (drawC f room (lls ss[k].ls)).2.length d1] ∧ shl ts = (shl ss).set k (drawC f room (lls ss[k].ls)).1 ∧ SsOk ts ∧ L' = ownSs a2 c2 ts :: shA ts :: ownTs b1 d1 (drawC f room (lls ss[k].ls)).2 :: L := by
  subst hn
  subst hpn
  have hlen := h.len
  have e' := shs_e1 k hk
  have hpos := h.pos k hk
  haveI := hv.at k hk
  haveI := hv.at2 k hk
  have sok := h.at k hk
  obtain ⟨s6, s20⟩ := h6 _ (List.getElem_mem hk)
  refine vc_ent ?_
  refine vc_in rfl rfl ?_
  repeat' (first | (refine go1 ?_; intros) | (refine goCC ?_ ?_ <;> (intro hb; (try simp only [hSQ] at hb); try (exfalso; omega))) | fail)
  refine clV ?_
  refine vc_mono (rdrawn20_vc w0 _ ss[k].a ss[k].c ss[k].ls pa pc ps room rfl rfl sok s6 s20 hmc hpo hps hcaps f hf) ?_
  rintro v L' ⟨a1, c1, ms, b1, d1, rfl, hms, hmo, rfl⟩
  generalize drawC f room (lls ss[k].ls) = Q at *
  obtain ⟨Q1, Q2⟩ := Q
  dsimp only at hms ⊢
  repeat' (first | (refine go1 ?_; intros) | (refine goCC ?_ ?_ <;> (intro hb; (try simp only [hSQ] at hb); try (exfalso; omega))) | fail)
  refine clV ?_
  rename_i g10
  refine vc_pre (L2 := ownLs a1 c1 ms :: tsA ms :: ownTs b1 d1 Q2 :: L) (sei w0 _ _) ?_
  refine vc_mono (rwith21_vc w0 _ a c ss k ⟨a1, c1, ms⟩ rfl h hk hmo rfl) ?_
  rintro v L' ⟨a2, c2, ts, rfl, hts, hto, rfl⟩
  repeat' (first | (refine go1 ?_; intros) | (refine goCC ?_ ?_ <;> (intro hb; (try simp only [hSQ] at hb); try (exfalso; omega))) | fail)
  refine ⟨ownSs a2 c2 ts :: shA ts :: ownTs b1 d1 Q2 :: L, sei _ _ _, a2, c2, ts, b1, d1, rfl, ?_, hto, rfl⟩
  rw [hts, hms]
theorem rdraw21_vc (w0 : World) (L : List Asn) (a : Option Addr) (c : Nat) (ss : List Sh) (i : Int) (ta : Option Addr) (tc : Nat) (ns : List Nd) (r : Int) (room : Int) {n tn : Nat} (hn : n = ss.length) (htn : tn = ns.length) (h : SsOk ss) (h6 : ∀ s ∈ ss, s.ls.length ≤ 6 ∧ ∀ l ∈ s.ls, l.xs.length ≤ 20) (hok : NsOk ns) [hr : RdC w0 L a (shc ss)] [hv : RdSs w0 L ss] [hr2 : RdC w0 L ta (ndc ns)] [hv2 : RdNs w0 L ns] :
    VC Tryz.prog w0 21 [.slice a n c, .int .i64 i, .agg #[.slice ta tn tc, .int .i64 r], .int .i64 room] L (RPS (drawO (shl ss) ns r i room) L) := by
  subst hn
  subst htn
  have hlen := h.len
  refine vc_ent ?_
  refine vc_in rfl rfl ?_
  unfold drawO
  repeat' (first | (refine go1 ?_; intros) | (refine goCC ?_ ?_ <;> (intro hb; (try simp only [hSQ] at hb); try (exfalso; omega))) | fail)
  refine clV ?_
  refine vc_mono (rmay21_vc w0 _ a c ss rfl h) ?_
  rintro v L' ⟨rfl, rfl⟩
  by_cases hm : mayPo ss = true
  rotate_left
  · simp only [Bool.not_eq_true] at hm
    rw [hm, if_neg (fun e => by rw [mayO_iff.2 e.1] at hm; cases hm)]
    repeat' (first | (refine go1 ?_; intros) | (refine goCC ?_ ?_ <;> (intro hb; (try simp only [hSQ] at hb); try (exfalso; omega))) | fail)
    exact RPS.bad w0 L 8 (sei _ _ _)
  have hmo := mayO_iff.1 hm
  rw [hm]
  repeat' (first | (refine go1 ?_; intros) | (refine goCC ?_ ?_ <;> (intro hb; (try simp only [hSQ] at hb); try (exfalso; omega))) | fail)
  refine clV ?_
  refine vc_mono (rmay10_vc w0 _ ta tc ns r rfl hok) ?_
  rintro v L' ⟨rfl, rfl⟩
  by_cases hst : StP ns r
  rotate_left
  · rw [decide_eq_false hst, if_neg (fun e => hst e.2)]
    repeat' (first | (refine go1 ?_; intros) | (refine goCC ?_ ?_ <;> (intro hb; (try simp only [hSQ] at hb); try (exfalso; omega))) | fail)
    exact RPS.bad w0 L 8 (sei _ _ _)
  rw [decide_eq_true hst, if_pos ⟨hmo, hst⟩]
  by_cases hi : 0 ≤ i ∧ i < ss.length
  rotate_left
  · have e : turnO (shl ss) i (fun i => drawQ (atC (shl ss) i) ns r room) [] = ([], [], 2) := if_neg (by rw [shl_length]; exact hi)
    rw [e]
    repeat' (first | (refine go1 ?_; intros) | (refine goCC ?_ ?_ <;> (intro hb; (try simp only [hSQ] at hb); try (exfalso; omega))) | fail)
    all_goals first | (exfalso; omega) | exact RPS.bad w0 L 2 (sei _ _ _)
  obtain ⟨k, rfl⟩ : ∃ k : Nat, i = k := ⟨i.toNat, by omega⟩
  have hk : k < ss.length := by omega
  have hk2 : k < (shl ss).length := by rw [shl_length]; exact hk
  have hmc := (hmo.at' k hk2).1
  rw [shl_at] at hmc
  have eT : turnO (shl ss) (k : Int) (fun i => drawQ (atC (shl ss) i) ns r room) [] = ((shl ss).set k (drawC (nonceA ns r) room (lls ss[k].ls)).1, (drawC (nonceA ns r) room (lls ss[k].ls)).2, 0) := by
    rw [turnO_in hk2 (Q := drawQ (lls ss[k].ls) ns r room) (by rw [atC_eq hk2, shl_at]), drawQ_of hmc hst, if_pos rfl]
  rw [eT]
  have hf : ∀ (ps : List PR), kvs ps = forP ns r.toNat → ∀ k, nonceA ns r k = (inP (kvs ps) k).1 := fun ps hps k => by
    unfold nonceA accG getA
    rw [if_pos hst, hps]
  repeat' (first | (refine go1 ?_; intros) | (refine goCC ?_ ?_ <;> (intro hb; (try simp only [hSQ] at hb); try (exfalso; omega))) | fail)
  all_goals first | (exfalso; omega) | skip
  refine clV ?_
  refine vc_mono (all6_vc w0 _ ta tc ns r rfl hok hst.1) ?_
  rintro v L' ⟨pa, pc, ps, rfl, hps, rfl⟩
  have hpo := all_ok hok hst.1 hps
  repeat' (first | (refine go1 ?_; intros) | (refine goCC ?_ ?_ <;> (intro hb; (try simp only [hSQ] at hb); try (exfalso; omega))) | fail)
  refine clV ?_
  refine vc_know (φ := ∀ p ∈ ps, p.v.length ≤ p.c) (fun w hs => vsA_capH w0 _ ps w hs) (fun hcs => ?_)
  refine vc_mono (rdrawn21_vc w0 _ a c ss k pa pc ps room rfl rfl h h6 hk hmc hpo (by rw [hps]; exact hst.1.for.srt) hcs (nonceA ns r) (hf ps hps)) ?_
  rintro v L' ⟨a2, c2, ts, b2, d2, rfl, hts, hto, rfl⟩
  generalize drawC (nonceA ns r) room (lls ss[k].ls) = Q at *
  obtain ⟨Q1, Q2⟩ := Q
  dsimp only at hts ⊢
  repeat' (first | (refine go1 ?_; intros) | (refine goCC ?_ ?_ <;> (intro hb; (try simp only [hSQ] at hb); try (exfalso; omega))) | fail)
  exact ⟨_, sei w0 _ (ownSs a2 c2 ts :: shA ts :: ownTs b2 d2 Q2 :: L), a2, c2, ts, b2, d2, rfl, hts, hto, rfl⟩
theorem rparted21_vc (w0 : World) (L : List Asn) (ea : Option Addr) (ec : Nat) (xs : List Tx) (I : Int) (m : Nat) (hm : 1 ≤ m ∧ m ≤ 8) {n : Nat} (hn : n = xs.length) (hxs : TsOk xs) [hr : RdC w0 L ea (txc xs)] :
    VC Tryz.prog w0 103 [.slice ea n ec, .int .i64 I, .int .i64 m] L fun v L' => ∃ a1 c1 a2 c2, v = .tuple #[.slice a1 (xs.filter (ofO I m)).length c1, .slice a2 (xs.filter fun x => !ofO I m x).length c2] ∧ L' = ownTs a1 c1 (xs.filter (ofO I m)) :: ownTs a2 c2 (xs.filter fun x => !ofO I m x) :: L := by
  subst hn
  have hxl := hxs.len
  refine vc_ent ?_
  refine vc_in rfl rfl ?_
  repeat' (first | (refine go1 ?_; intros) | (refine goCC ?_ ?_ <;> (intro hb; (try simp only [hSQ] at hb); try (exfalso; omega))) | fail)
  refine v_loopF (Nat × (Option Addr × Nat) × (Option Addr × Nat)) [0, 1, 2] rfl (fun z => [(10, .int .i64 z.1), (8, .slice z.2.1.1 ((xs.take z.1).filter (ofO I m)).length z.2.1.2), (9, .slice z.2.2.1 ((xs.take z.1).filter fun x => !ofO I m x).length z.2.2.2)]) (fun _ z => ownTs z.2.1.1 z.2.1.2 ((xs.take z.1).filter (ofO I m)) :: ownTs z.2.2.1 z.2.2.2 ((xs.take z.1).filter fun x => !ofO I m x) :: L) (fun z => z.1 ≤ xs.length) (fun z => xs.length - z.1) (0, (none, 0), (none, 0)) (Nat.zero_le _) ?_ ?_ ?_
  · dsimp only
    rw [List.take_zero]
    (exact sbS)
  · dsimp only
    rw [List.take_zero]
    exact ((se_own_nil 50 99 _).trans (se_own_nil 50 99 _)).ent w0
  rintro ⟨i, ⟨a1, c1⟩, ⟨a2, c2⟩⟩ hi
  dsimp only at hi ⊢
  by_cases hlt : i < xs.length
  rotate_left
  · obtain rfl : i = xs.length := by omega
    rw [List.take_length]
    repeat' (first | (refine go1 ?_; intros) | (refine goCC ?_ ?_ <;> (intro hb; (try simp only [hSQ] at hb); try (exfalso; omega))) | fail)
    exact ⟨_, sei w0 _ (ownTs a1 c1 (xs.filter (ofO I m)) :: ownTs a2 c2 (xs.filter fun x => !ofO I m x) :: L), a1, c1, a2, c2, rfl, rfl⟩
  have e := hxs.el i hlt
  have hpos := hxs.pos i hlt
  have hx := hxs.at i hlt
  have f1 := filter_take (p := ofO I m) hlt
  have f2 := filter_take (p := fun x => !ofO I m x) hlt
  have l1 := List.length_filter_le (ofO I m) (xs.take i)
  have l2 := List.length_filter_le (fun x => !ofO I m x) (xs.take i)
  rw [List.length_take] at l1 l2
  generalize (xs.take i).filter (ofO I m) = os at *
  generalize (xs.take i).filter (fun x => !ofO I m x) = rs at *
  generalize xs[i] = x at *
  have hxl2 := Tx.len hx
  have hfl := fromT_len x
  haveI oxc : OC x.cells := oc_tx _
  obtain ⟨xc, hxc⟩ : ∃ xc, xc = x.cells := ⟨_, rfl⟩
  rw [← hxc] at e hxl2 oxc
  repeat' (first | (refine go1 ?_; intros) | (refine goCC ?_ ?_ <;> (intro hb; (try simp only [hSQ] at hb); try (exfalso; omega))) | fail)
  refine clV ?_
  rw [hxc]
  refine vc_mono (rFrom_vc w0 _ x hx) ?_
  rintro v L' ⟨rfl, rfl⟩
  rw [← hxc, show sha (tagB 3 [x.pub]) = fromT x from rfl]
  repeat' (first | (refine go1 ?_; intros) | (refine goCC ?_ ?_ <;> (intro hb; (try simp only [hSQ] at hb); try (exfalso; omega))) | fail)
  refine clV ?_
  refine vc_mono (rof21_vc w0 _ (fromT x) m hfl (by omega)) ?_
  rintro v L' ⟨rfl, rfl⟩
  have hof : ofO I m x = decide (atP (fromT x) m = I) := rfl
  generalize atP (fromT x) m = A at *
  by_cases hA : A = I
  · rw [decide_eq_true hA] at hof
    rw [hof] at f1 f2
    rw [if_pos (by decide)] at f1
    rw [if_neg (by decide), List.append_nil] at f2
    repeat' (first | (refine go1 ?_; intros) | (refine goCC ?_ ?_ <;> (intro hb; (try simp only [hSQ] at hb); try (exfalso; omega))) | fail)
    all_goals first | (exfalso; exact absurd hA (by assumption)) | skip
    rename_i gq a' c' _ _
    refine ⟨rfl, (i + 1, (a', c'), (a2, c2)), by dsimp only; omega, by dsimp only; omega, ?_, ?_⟩
    · dsimp only
      rw [f1, f2, List.length_append]
      (exact sbS)
    · dsimp only
      rw [f1, f2, ownTs_snoc, ← hxc]
      exact sei _ _ _
  · rw [decide_eq_false hA] at hof
    rw [hof] at f1 f2
    rw [if_neg (by decide), List.append_nil] at f1
    rw [if_pos (by decide)] at f2
    repeat' (first | (refine go1 ?_; intros) | (refine goCC ?_ ?_ <;> (intro hb; (try simp only [hSQ] at hb); try (exfalso; omega))) | fail)
    all_goals first | (exfalso; exact absurd (by assumption) hA) | skip
    rename_i gq a' c' _ _
    refine ⟨rfl, (i + 1, (a1, c1), (a', c')), by dsimp only; omega, by dsimp only; omega, ?_, ?_⟩
    · dsimp only
      rw [f1, f2, List.length_append]
      (exact sbS)
    · dsimp only
      rw [f1, f2, ownTs_snoc, ← hxc]
      exact sei _ _ _
theorem backQ_of {cs : List LC} {ns : List Nd} {r : Int} {l : List Tx} (h : MayC cs) (k : StP ns r) : backQ cs ns r l = (if ∀ x ∈ l, x.sign = sgn x then (match backC (nonceA ns r) cs l with | some zs => ((zs, 0) : List LC × Int) | none => ([], 9)) else ([], 110)) := if_pos ⟨h, k⟩
theorem rreturned21_vc (w0 : World) (L : List Asn) (a : Option Addr) (c : Nat) (ss : List Sh) (k : Nat) (pa : Option Addr) (pc : Nat) (ps : List PR) (ea : Option Addr) (ec : Nat) (xs : List Tx) (ns : List Nd) (r : Int) {n pn en : Nat} (hn : n = ss.length) (hpn : pn = ps.length) (hen : en = xs.length) (h : SsOk ss) (h8 : ∀ s ∈ ss, s.ls.length ≤ 800000) (hk : k < ss.length) (hm : MayO (shl ss)) (hst : StP ns r) (hpo : PsOk ps) (hps : Srt (kvs ps)) (hcaps : ∀ p ∈ ps, p.v.length ≤ p.c) (hf : ∀ k, nonceA ns r k = (inP (kvs ps) k).1) (hxs : TsOk xs) (hx9 : xs.length ≤ 100000) [hr : RdC w0 L a (shc ss)] [hv : RdSs w0 L ss] [hr2 : RdC w0 L pa (prc ps)] [hv2 : RdVs w0 L ps] [hr3 : RdC w0 L ea (txc xs)] :
    VC Tryz.prog w0 59 [.slice a n c, .int .i64 k, .slice pa pn pc, .slice ea en ec] L (RPS (turnO (shl ss) (k : Int) (fun i => backI (atC (shl ss) i) ns r k ss.length xs) []) L) := by
  subst hn
  subst hpn
  subst hen
  have hlen := h.len
  have hlo := hm.lo
  have hhi := hm.hi
  rw [shl_length] at hlo hhi
  have hk2 : k < (shl ss).length := by rw [shl_length]; exact hk
  have hmc := (hm.at' k hk2).1
  rw [shl_at] at hmc
  have eT : turnO (shl ss) (k : Int) (fun i => backI (atC (shl ss) i) ns r k ss.length xs) [] = if (backQ (lls ss[k].ls) ns r (xs.filter (ofO k ss.length))).2 = 0 then ((shl ss).set k (backQ (lls ss[k].ls) ns r (xs.filter (ofO k ss.length))).1, xs.filter (fun x => !ofO k ss.length x), 0) else ([], [], (backQ (lls ss[k].ls) ns r (xs.filter (ofO k ss.length))).2) := by
    exact turnO_in hk2 (Q := backI (lls ss[k].ls) ns r k ss.length xs) (by rw [atC_eq hk2, shl_at])
  rw [eT]
  have e' := shs_e1 k hk
  have hpos := h.pos k hk
  haveI := hv.at k hk
  haveI := hv.at2 k hk
  have sok := h.at k hk
  have s8 := h8 _ (List.getElem_mem hk)
  refine vc_ent ?_
  refine vc_in rfl rfl ?_
  repeat' (first | (refine go1 ?_; intros) | (refine goCC ?_ ?_ <;> (intro hb; (try simp only [hSQ] at hb); try (exfalso; omega))) | fail)
  refine clV ?_
  refine vc_mono (rparted21_vc w0 _ ea ec xs k ss.length ⟨hlo, hhi⟩ rfl hxs) ?_
  rintro v L' ⟨a1, c1, a2, c2, rfl, rfl⟩
  have hoo := hxs.filter (ofO k ss.length) xs.length
  have hol := List.length_filter_le (ofO k ss.length) xs
  rw [List.take_length] at hoo
  generalize (xs.filter fun x => !ofO k ss.length x) = rs at *
  generalize xs.filter (ofO k ss.length) = os at *
  rw [backQ_of hmc hst]
  repeat' (first | (refine go1 ?_; intros) | (refine goCC ?_ ?_ <;> (intro hb; (try simp only [hSQ] at hb); try (exfalso; omega))) | fail)
  refine clV ?_
  refine vc_mono (rsigned20_vc w0 _ a1 c1 os rfl hoo) ?_
  rintro v L' ⟨rfl, rfl⟩
  by_cases hsg : ∀ x ∈ os, x.sign = sgn x
  rotate_left
  · rw [decide_eq_false hsg, if_neg hsg]
    rw [if_neg (by decide)]
    repeat' (first | (refine go1 ?_; intros) | (refine goCC ?_ ?_ <;> (intro hb; (try simp only [hSQ] at hb); try (exfalso; omega))) | fail)
    exact RPS.bad w0 L 110 (sei _ _ _)
  rw [decide_eq_true hsg, if_pos hsg]
  repeat' (first | (refine go1 ?_; intros) | (refine goCC ?_ ?_ <;> (intro hb; (try simp only [hSQ] at hb); try (exfalso; omega))) | fail)
  refine clV ?_
  refine vc_mono (rreturned20_vc w0 _ ss[k].a ss[k].c ss[k].ls pa pc ps a1 c1 os rfl rfl rfl sok s8 hmc hpo hps hcaps hoo (by omega) hsg (nonceA ns r) hf) ?_
  rintro v L' ⟨a3, c3, ms, b, rfl, hq, hmo, rfl⟩
  cases hb : backC (nonceA ns r) (lls ss[k].ls) os with
  | none =>
    rw [hb] at hq
    obtain ⟨h2, rfl⟩ := Prod.mk.inj hq
    dsimp only
    rw [if_neg (by decide)]
    repeat' (first | (refine go1 ?_; intros) | (refine goCC ?_ ?_ <;> (intro hb; (try simp only [hSQ] at hb); try (exfalso; omega))) | fail)
    exact RPS.bad w0 L 9 (sei _ _ _)
  | some zs =>
    rw [hb] at hq
    obtain ⟨h2, rfl⟩ := Prod.mk.inj hq
    dsimp only
    rw [if_pos rfl]
    repeat' (first | (refine go1 ?_; intros) | (refine goCC ?_ ?_ <;> (intro hb; (try simp only [hSQ] at hb); try (exfalso; omega))) | fail)
    refine clV ?_
    refine vc_pre (L2 := ownLs a3 c3 ms :: tsA ms :: ownTs a2 c2 rs :: L) (sei w0 _ _) ?_
    refine vc_mono (rwith21_vc w0 _ a c ss k ⟨a3, c3, ms⟩ rfl h hk hmo rfl) ?_
    rintro v L' ⟨a4, c4, ts, rfl, hts, hto, rfl⟩
    repeat' (first | (refine go1 ?_; intros) | (refine goCC ?_ ?_ <;> (intro hb; (try simp only [hSQ] at hb); try (exfalso; omega))) | fail)
    refine ⟨ownSs a4 c4 ts :: shA ts :: ownTs a2 c2 rs :: L, sei _ _ _, a4, c4, ts, a2, c2, rfl, ?_, hto, rfl⟩
    rw [hts]
    show (shl ss).set k (lls ms) = _
    rw [h2]
theorem rback21_vc (w0 : World) (L : List Asn) (a : Option Addr) (c : Nat) (ss : List Sh) (i : Int) (ta : Option Addr) (tc : Nat) (ns : List Nd) (r : Int) (ea : Option Addr) (ec : Nat) (xs : List Tx) {n tn en : Nat} (hn : n = ss.length) (htn : tn = ns.length) (hen : en = xs.length) (h : SsOk ss) (h8 : ∀ s ∈ ss, s.ls.length ≤ 800000) (hok : NsOk ns) (hxs : TsOk xs) (hx9 : xs.length ≤ 100000) [hr : RdC w0 L a (shc ss)] [hv : RdSs w0 L ss] [hr2 : RdC w0 L ta (ndc ns)] [hv2 : RdNs w0 L ns] [hr3 : RdC w0 L ea (txc xs)] :
    VC Tryz.prog w0 23 [.slice a n c, .int .i64 i, .agg #[.slice ta tn tc, .int .i64 r], .slice ea en ec] L (RPS (backO (shl ss) ns r i xs) L) := by
  subst hn
  subst htn
  subst hen
  have hlen := h.len
  refine vc_ent ?_
  refine vc_in rfl rfl ?_
  unfold backO
  repeat' (first | (refine go1 ?_; intros) | (refine goCC ?_ ?_ <;> (intro hb; (try simp only [hSQ] at hb); try (exfalso; omega))) | fail)
  refine clV ?_
  refine vc_mono (rmay21_vc w0 _ a c ss rfl h) ?_
  rintro v L' ⟨rfl, rfl⟩
  by_cases hm : mayPo ss = true
  rotate_left
  · simp only [Bool.not_eq_true] at hm
    rw [hm, if_neg (fun e => by rw [mayO_iff.2 e.1] at hm; cases hm)]
    repeat' (first | (refine go1 ?_; intros) | (refine goCC ?_ ?_ <;> (intro hb; (try simp only [hSQ] at hb); try (exfalso; omega))) | fail)
    exact RPS.bad w0 L 8 (sei _ _ _)
  have hmo := mayO_iff.1 hm
  rw [hm]
  repeat' (first | (refine go1 ?_; intros) | (refine goCC ?_ ?_ <;> (intro hb; (try simp only [hSQ] at hb); try (exfalso; omega))) | fail)
  refine clV ?_
  refine vc_mono (rmay10_vc w0 _ ta tc ns r rfl hok) ?_
  rintro v L' ⟨rfl, rfl⟩
  by_cases hst : StP ns r
  rotate_left
  · rw [decide_eq_false hst, if_neg (fun e => hst e.2)]
    repeat' (first | (refine go1 ?_; intros) | (refine goCC ?_ ?_ <;> (intro hb; (try simp only [hSQ] at hb); try (exfalso; omega))) | fail)
    exact RPS.bad w0 L 8 (sei _ _ _)
  rw [decide_eq_true hst, if_pos ⟨hmo, hst⟩]
  by_cases hi : 0 ≤ i ∧ i < ss.length
  rotate_left
  · have e : turnO (shl ss) i (fun k => backI (atC (shl ss) k) ns r i (shl ss).length xs) [] = ([], [], 2) := if_neg (by rw [shl_length]; exact hi)
    rw [e]
    repeat' (first | (refine go1 ?_; intros) | (refine goCC ?_ ?_ <;> (intro hb; (try simp only [hSQ] at hb); try (exfalso; omega))) | fail)
    all_goals first | (exfalso; omega) | exact RPS.bad w0 L 2 (sei _ _ _)
  obtain ⟨k, rfl⟩ : ∃ k : Nat, i = k := ⟨i.toNat, by omega⟩
  have hk : k < ss.length := by omega
  rw [shl_length]
  have hf : ∀ (ps : List PR), kvs ps = forP ns r.toNat → ∀ k, nonceA ns r k = (inP (kvs ps) k).1 := fun ps hps k => by
    unfold nonceA accG getA
    rw [if_pos hst, hps]
  repeat' (first | (refine go1 ?_; intros) | (refine goCC ?_ ?_ <;> (intro hb; (try simp only [hSQ] at hb); try (exfalso; omega))) | fail)
  all_goals first | (exfalso; omega) | skip
  refine clV ?_
  refine vc_mono (all6_vc w0 _ ta tc ns r rfl hok hst.1) ?_
  rintro v L' ⟨pa, pc, ps, rfl, hps, rfl⟩
  have hpo := all_ok hok hst.1 hps
  repeat' (first | (refine go1 ?_; intros) | (refine goCC ?_ ?_ <;> (intro hb; (try simp only [hSQ] at hb); try (exfalso; omega))) | fail)
  refine clV ?_
  refine vc_know (φ := ∀ p ∈ ps, p.v.length ≤ p.c) (fun w hs => vsA_capH w0 _ ps w hs) (fun hcs => ?_)
  refine vc_mono (rreturned21_vc w0 _ a c ss k pa pc ps ea ec xs ns r rfl rfl rfl h h8 hk hmo hst hpo (by rw [hps]; exact hst.1.for.srt) hcs (hf ps hps) hxs hx9) ?_
  rintro v L' ⟨a2, c2, ts, b2, d2, rfl, hts, hto, rfl⟩
  generalize turnO (shl ss) (k : Int) (fun i => backI (atC (shl ss) i) ns r k ss.length xs) [] = q at *
  repeat' (first | (refine go1 ?_; intros) | (refine goCC ?_ ?_ <;> (intro hb; (try simp only [hSQ] at hb); try (exfalso; omega))) | fail)
  exact ⟨_, sei w0 _ (ownSs a2 c2 ts :: shA ts :: ownTs b2 d2 q.2.1 :: L), a2, c2, ts, b2, d2, rfl, hts, hto, rfl⟩
end Go.Proofs.YtcpndfffdbogbaaGreatDoor
