/-
  All but one shard stay: the law.
-/
import Derived.Test.YtcpndfffdbogbaaGreatDoorPolK
import Derived.Test.YtcpndfffdbogbaaGreatDoorGPA
import Derived.Test.YtcpndfffdbogbaaGreatDoorPolJ
set_option linter.unusedVariables false
set_option linter.unusedSimpArgs false
namespace Go.Proofs.YtcpndfffdbogbaaGreatDoor
open Go Go.RowKit
set_option linter.unusedVariables false
set_option linter.unusedSimpArgs false
set_option linter.unusedSectionVars false
open Classical

theorem SsOk.k2s {ss : List Sh} (h : SsOk ss) : ∀ c ∈ shl ss, K2 c := fun c hc => by
  obtain ⟨s, hs, rfl⟩ := List.mem_map.1 hc
  exact (h.ok s hs).k2
set_option maxRecDepth 100000 in
set_option maxHeartbeats 4000000 in
theorem lapart21_vc (w0 : World) (L : List Asn) [hK : RdA w0 (some ⟨0, 0, none⟩) (wds K64)] (a : Option Addr) (c : Nat) (ts : List Sh) (b : Option Addr) (d : Nat) (ss : List Sh) (at' : Int) (ht : SsOk ts) (h : SsOk ss) (hp : Apart (shl ss) (shl ts) at') {m n : Nat} (hm : m = ts.length) (hn : n = ss.length) [hr : RdC w0 L a (shc ts)] [hv : RdSs w0 L ts] [hr2 : RdC w0 L b (shc ss)] [hv2 : RdSs w0 L ss] :
    VC Tryz.prog w0 28 [.slice a m c, .slice b n d, .int .i64 at'] L fun v L' => v = .bool true ∧ L' = L := by
  subst hm
  subst hn
  have hlen := h.len
  have hll : ts.length = ss.length := by
    have := hp.len
    rwa [shl_length, shl_length] at this
  have hma : mayPo ts = true := mayO_iff.2 hp.may
  refine vc_ent ?_
  refine vc_in rfl rfl ?_
  repeat' (first | (refine go1 ?_; intros) | (refine goCC ?_ ?_ <;> (intro hb; (try simp only [hSQ] at hb); try (exfalso; omega))) | fail)
  all_goals first | (exfalso; omega) | skip
  refine vl_o rfl (vo_call rfl rfl ?_)
  refine vc_mono (pcheck21_vc w0 _ a c ts rfl ht) ?_
  rintro v L' ⟨rfl, hL⟩
  obtain rfl := hL.symm
  rw [if_pos hma]
  repeat' (first | (refine go1 ?_; intros) | (refine goCC ?_ ?_ <;> (intro hb; (try simp only [hSQ] at hb); try (exfalso; omega))) | fail)
  all_goals first | (exfalso; omega) | skip
  refine v_loopS Nat [0, 1, 2] rfl (fun i => [(7, .int .i64 i)]) (fun i => i ≤ ts.length) (fun i => ts.length - i) 0 (Nat.zero_le _) (by (repeat' (first | exact Sub.nil _ | refine Sub.cons rfl rfl ?_ | refine Sub.cons rfl ?_ ?_))) (fun i hi => ?_)
  by_cases hlt : i < ts.length
  rotate_left
  · obtain rfl : i = ts.length := by omega
    repeat' (first | (refine go1 ?_; intros) | (refine goCC ?_ ?_ <;> (intro hb; (try simp only [hSQ] at hb); try (exfalso; omega))) | fail)
    exact ⟨L, sei _ _ _, rfl, rfl⟩
  have hlt2 : i < ss.length := by omega
  have e1' := shs_e1 i hlt
  have e2' := shs_e1 i hlt2
  have hpos := ht.pos i hlt
  have hpos2 := h.pos i hlt2
  haveI := hv.at i hlt
  haveI := hv.at2 i hlt
  haveI := hv2.at i hlt2
  haveI := hv2.at2 i hlt2
  have lok := ht.at i hlt
  have kok := h.at i hlt2
  by_cases hi2 : (i : Int) = at'
  · subst hi2
    repeat' (first | (refine go1 ?_; intros) | (refine goCC ?_ ?_ <;> (intro hb; (try simp only [hSQ] at hb); try (exfalso; omega))) | fail)
    (refine v_draw0 [] (by kernel_rfl) ?_ <;> (refine tA 0 ?_) <;> (refine tA 1 ?_) <;> (refine va_take 2 rfl rfl rfl rfl (by kernel_rfl) (fun _ _ _ _ h => h) entD (by (first | (apply vq_isBin; first | exact vq_neS rfl rfl | exact vq_neBoolS rfl rfl | (apply vq_isOp .neq; first | exact vq_neBS rfl rfl (by first | assumption | (simp; done)) | exact vq_neTxS rfl rfl (by assumption)) | (apply vq_isOp .eql; first | exact vq_eqS rfl rfl | exact vq_eqBoolS rfl rfl | exact vq_eqBS rfl rfl (by first | assumption | (simp; done)) | exact vq_eqTxS rfl rfl (by assumption) | exact vq_eqHdS rfl rfl (by assumption) | exact vq_eqRecS rfl rfl (by assumption) | exact vq_eqTx rfl rfl (by assumption) (by assumption))) | (apply vq_isBin; first | exact vq_lt rfl rfl | exact vq_eq rfl rfl | exact vq_ne rfl rfl | (apply vq_isOp .add; exact vq_add rfl rfl (by first | exact wr_add (by omega) | exact wu_add (by omega) | exact wr_id (by omega) (by omega) | rfl)) | (apply vq_isOp .sub; exact vq_minus rfl rfl (by first | exact wr_sub (by omega) (by omega) | exact wu_sub (by omega) (by omega) | exact wr_id (by omega) (by omega) | rfl)) | exact vq_gt rfl rfl | exact vq_le rfl rfl | exact vq_ge rfl rfl | (apply vq_isOp .mul; exact vq_mul rfl rfl (by first | exact wr_mul (by omega) | exact wr_id (by omega) (by omega) | rfl)) | (apply vq_isOp .or; exact vq_or rfl rfl (by rfl)) | (apply vq_isOp .and; exact vq_and rfl rfl (by rfl)) | (apply vq_isOp .xor; exact vq_xor rfl rfl (by rfl)) | (apply vq_isOp .shl; exact vq_shl rfl rfl (by omega) (by rfl)) | (apply vq_isOp .shr; exact vq_shr rfl rfl (by omega) (by rfl)) | (apply vq_isOp .quo; exact vq_quo rfl rfl (by decide) (by first | exact q8_i64 (by omega) | exact q2_u8 (by omega) | exact q4_i64 (by omega) | assumption | rfl)) | (apply vq_isOp .rem; exact vq_rem rfl rfl (by decide) (by first | exact r8 | exact r2 | exact r4 | exact r64 | assumption | rfl)) | exact vq_eqNil rfl rfl | exact vq_eqBool rfl rfl | (apply vq_isOp .eql; exact vq_eqB rfl rfl (by first | assumption | (simp; done)) (by first | assumption | (simp; done))) | (apply vq_isOp .neq; first | exact vq_neBool rfl rfl | exact vq_neB rfl rfl (by first | assumption | (simp; done)) (by first | assumption | (simp; done)))))) ?_) <;> (refine tA 3 ?_) <;> (first | refine tG 4 ?_ | refine pG 4 ?_ | (refine va_caseG 4 rfl rfl rfl rfl rfl ?_ ?_ <;> (intro hb; (try simp only [hSQ] at hb); try (exfalso; omega)) <;> first | refine tG 4 ?_ | refine pG 4 ?_)) <;> (first | refine tG 5 ?_ | refine pG 5 ?_ | (refine va_caseG 5 rfl rfl rfl rfl rfl ?_ ?_ <;> (intro hb; (try simp only [hSQ] at hb); try (exfalso; omega)) <;> first | refine tG 5 ?_ | refine pG 5 ?_)) <;> (first | refine tG 6 ?_ | refine pG 6 ?_ | (refine va_caseG 6 rfl rfl rfl rfl rfl ?_ ?_ <;> (intro hb; (try simp only [hSQ] at hb); try (exfalso; omega)) <;> first | refine tG 6 ?_ | refine pG 6 ?_)) <;> (first | refine tG 7 ?_ | refine pG 7 ?_ | (refine va_caseG 7 rfl rfl rfl rfl rfl ?_ ?_ <;> (intro hb; (try simp only [hSQ] at hb); try (exfalso; omega)) <;> first | refine tG 7 ?_ | refine pG 7 ?_)) <;> (first | refine tG 8 ?_ | refine pG 8 ?_ | (refine va_caseG 8 rfl rfl rfl rfl rfl ?_ ?_ <;> (intro hb; (try simp only [hSQ] at hb); try (exfalso; omega)) <;> first | refine tG 8 ?_ | refine pG 8 ?_)) <;> (first | refine tG 9 ?_ | refine pG 9 ?_ | (refine va_caseG 9 rfl rfl rfl rfl rfl ?_ ?_ <;> (intro hb; (try simp only [hSQ] at hb); try (exfalso; omega)) <;> first | refine tG 9 ?_ | refine pG 9 ?_)) <;> (first | refine tG 10 ?_ | refine pG 10 ?_ | (refine va_caseG 10 rfl rfl rfl rfl rfl ?_ ?_ <;> (intro hb; (try simp only [hSQ] at hb); try (exfalso; omega)) <;> first | refine tG 10 ?_ | refine pG 10 ?_)) <;> (first | refine tG 11 ?_ | refine pG 11 ?_ | (refine va_caseG 11 rfl rfl rfl rfl rfl ?_ ?_ <;> (intro hb; (try simp only [hSQ] at hb); try (exfalso; omega)) <;> first | refine tG 11 ?_ | refine pG 11 ?_)))
    refine pG 12 ?_
    ((first | refine tG 13 ?_ | refine pG 13 ?_ | (refine va_caseG 13 rfl rfl rfl rfl rfl ?_ ?_ <;> (intro hb; (try simp only [hSQ] at hb); try (exfalso; omega)) <;> first | refine tG 13 ?_ | refine pG 13 ?_)) <;> (refine tA 14 ?_) <;> (refine va_done (by kernel_rfl) ?_))
    repeat' (first | (refine go1 ?_; intros) | (refine goCC ?_ ?_ <;> (intro hb; (try simp only [hSQ] at hb); try (exfalso; omega))) | fail)
    exact ⟨rfl, i + 1, by omega, by omega, by (repeat' (first | exact Sub.nil _ | refine Sub.cons rfl rfl ?_ | refine Sub.cons rfl ?_ ?_)), sei _ _ _⟩
  · have hsame := hp.same i (by rw [shl_length]; exact hlt) (by rw [shl_length]; exact hlt2) hi2
    rw [shl_at, shl_at] at hsame
    have hne : decide (¬ (i : Int) = at') = true := decide_eq_true hi2
    repeat' (first | (refine go1 ?_; intros) | (refine goCC ?_ ?_ <;> (intro hb; (try simp only [hSQ] at hb); try (exfalso; omega))) | fail)
    (refine v_draw0 [] (by kernel_rfl) ?_ <;> (refine tA 0 ?_) <;> (refine tA 1 ?_) <;> (refine tA 2 ?_) <;> (refine tA 3 ?_) <;> (first | refine tG 4 ?_ | refine pG 4 ?_ | (refine va_caseG 4 rfl rfl rfl rfl rfl ?_ ?_ <;> (intro hb; (try simp only [hSQ] at hb); try (exfalso; omega)) <;> first | refine tG 4 ?_ | refine pG 4 ?_)) <;> (first | refine tG 5 ?_ | refine pG 5 ?_ | (refine va_caseG 5 rfl rfl rfl rfl rfl ?_ ?_ <;> (intro hb; (try simp only [hSQ] at hb); try (exfalso; omega)) <;> first | refine tG 5 ?_ | refine pG 5 ?_)) <;> (first | refine tG 6 ?_ | refine pG 6 ?_ | (refine va_caseG 6 rfl rfl rfl rfl rfl ?_ ?_ <;> (intro hb; (try simp only [hSQ] at hb); try (exfalso; omega)) <;> first | refine tG 6 ?_ | refine pG 6 ?_)) <;> (first | refine tG 7 ?_ | refine pG 7 ?_ | (refine va_caseG 7 rfl rfl rfl rfl rfl ?_ ?_ <;> (intro hb; (try simp only [hSQ] at hb); try (exfalso; omega)) <;> first | refine tG 7 ?_ | refine pG 7 ?_)) <;> (first | refine tG 8 ?_ | refine pG 8 ?_ | (refine va_caseG 8 rfl rfl rfl rfl rfl ?_ ?_ <;> (intro hb; (try simp only [hSQ] at hb); try (exfalso; omega)) <;> first | refine tG 8 ?_ | refine pG 8 ?_)) <;> (first | refine tG 9 ?_ | refine pG 9 ?_ | (refine va_caseG 9 rfl rfl rfl rfl rfl ?_ ?_ <;> (intro hb; (try simp only [hSQ] at hb); try (exfalso; omega)) <;> first | refine tG 9 ?_ | refine pG 9 ?_)) <;> (first | refine tG 10 ?_ | refine pG 10 ?_ | (refine va_caseG 10 rfl rfl rfl rfl rfl ?_ ?_ <;> (intro hb; (try simp only [hSQ] at hb); try (exfalso; omega)) <;> first | refine tG 10 ?_ | refine pG 10 ?_)) <;> (first | refine tG 11 ?_ | refine pG 11 ?_ | (refine va_caseG 11 rfl rfl rfl rfl rfl ?_ ?_ <;> (intro hb; (try simp only [hSQ] at hb); try (exfalso; omega)) <;> first | refine tG 11 ?_ | refine pG 11 ?_)))
    all_goals first | (exfalso; omega) | skip
    first | refine va_oneG 12 (by kernel_rfl) rfl rfl rfl rfl rfl rfl (vo_call rfl rfl ?_) | refine va_oneG 12 (by kernel_rfl) rfl rfl rfl rfl rfl rfl (vo_callV rfl rfl rfl ?_)
    refine vc_mono (rsame20_vc w0 _ ts[i].a ts[i].c ts[i].ls ss[i].a ss[i].c ss[i].ls rfl rfl lok kok) ?_
    rintro v L' ⟨rfl, hL⟩
    obtain rfl := hL.symm
    rw [decide_eq_true hsame]
    refine ⟨.inr entD, ?_⟩
    ((first | refine tG 13 ?_ | refine pG 13 ?_ | (refine va_caseG 13 rfl rfl rfl rfl rfl ?_ ?_ <;> (intro hb; (try simp only [hSQ] at hb); try (exfalso; omega)) <;> first | refine tG 13 ?_ | refine pG 13 ?_)) <;> (refine tA 14 ?_) <;> (refine va_done (by kernel_rfl) ?_))
    repeat' (first | (refine go1 ?_; intros) | (refine goCC ?_ ?_ <;> (intro hb; (try simp only [hSQ] at hb); try (exfalso; omega))) | fail)
    exact ⟨rfl, i + 1, by omega, by omega, by (repeat' (first | exact Sub.nil _ | refine Sub.cons rfl rfl ?_ | refine Sub.cons rfl ?_ ?_)), sei _ _ _⟩
set_option maxRecDepth 100000 in
set_option maxHeartbeats 8000000 in
theorem poolApart_vc (w0 : World) (a : Option Addr) (c : Nat) (ss : List Sh) (b : Option Addr) (d : Nat) (ns : List Nd) (r I cap : Int) (x : Tx) (e : Option Addr) (g : Nat) (xs : List Tx) {n : Nat} (hn : n = ss.length) (hw : ∀ s ∈ ss, s.ls.length ≤ 9223372036854775807 ∧ ∀ p ∈ s.ls, p.own.length = 32 ∧ (∀ x ∈ p.xs, x.ok) ∧ p.xs.length ≤ 9223372036854775807) (hsl : ss.length ≤ 9223372036854775807) (hcaps : ∀ s ∈ ss, ∀ l ∈ s.ls, l.xs.length ≤ l.c) (hkey : ∀ p ∈ ns, p.key.length = 32) (hnl : ns.length ≤ 9223372036854775807) (hro : -9223372036854775808 ≤ cap ∧ cap < 9223372036854775808) (hxo : x.ok) {en : Nat} (hen : en = xs.length) (hx : ∀ x ∈ xs, x.ok) (hxl : xs.length ≤ 9223372036854775807) [hK : RdA w0 (some ⟨0, 0, none⟩) (wds K64)] [hr : RdA w0 a (shc ss)] [hv : RdSs w0 [] ss] [gr : RdA w0 b (ndc ns)] [gv : RdNs w0 [] ns] [er : RdA w0 e (txc xs)] :
    VC Tryz.prog w0 5 [.slice a n c, .agg #[.slice b ns.length d, .int .i64 r], .int .i64 I, .int .i64 cap, .agg x.cells.toArray, .slice e en g] [] fun u L' => u = .bool true := by
  subst hn
  subst hen
  have hcl := Tx.len hxo
  have hfl := fromT_len x
  haveI oxc : OC x.cells := oc_tx _
  refine vc_in rfl rfl ?_
  obtain ⟨xc, hxc⟩ : ∃ xc, xc = x.cells := ⟨_, rfl⟩
  rw [← hxc] at hcl oxc ⊢
  repeat' (first | (refine go1 ?_; intros) | (refine goCC ?_ ?_ <;> (intro hb; (try simp only [hSQ] at hb); try (exfalso; omega))) | fail)
  refine vl_o rfl (vo_call rfl rfl ?_)
  refine vc_mono (lalive21_vc w0 _) ?_
  rintro u L' ⟨rfl, rfl⟩
  repeat' (first | (refine go1 ?_; intros) | (refine goCC ?_ ?_ <;> (intro hb; (try simp only [hSQ] at hb); try (exfalso; omega))) | fail)
  refine vl_o rfl (vo_call rfl rfl ?_)
  refine vc_mono (great21S_vc w0 _ a c ss rfl hw hsl) ?_
  rintro u L' ⟨b1, rfl, hg, rfl⟩
  cases b1
  rotate_left
  · repeat' (first | (refine go1 ?_; intros) | (refine goCC ?_ ?_ <;> (intro hb; (try simp only [hSQ] at hb); try (exfalso; omega))) | fail)
    exact rfl
  obtain ⟨h10s, h, h6⟩ := hg rfl
  repeat' (first | (refine go1 ?_; intros) | (refine goCC ?_ ?_ <;> (intro hb; (try simp only [hSQ] at hb); try (exfalso; omega))) | fail)
  refine vl_o rfl (vo_call rfl rfl ?_)
  refine vc_mono (great6_vc w0 _ b d ns r 600 rfl (by decide) hkey hnl) ?_
  rintro u L' ⟨b2, rfl, gg, rfl⟩
  cases b2
  rotate_left
  · repeat' (first | (refine go1 ?_; intros) | (refine goCC ?_ ?_ <;> (intro hb; (try simp only [hSQ] at hb); try (exfalso; omega))) | fail)
    exact rfl
  obtain ⟨hg1, hg2⟩ := gg rfl
  have hok : NsOk ns := ⟨hkey, fun p hp => by have := hg2 p hp; omega, by omega⟩
  by_cases h10 : xs.length ≤ 10
  rotate_left
  · repeat' (first | (refine go1 ?_; intros) | (refine goCC ?_ ?_ <;> (intro hb; (try simp only [hSQ] at hb); try (exfalso; omega))) | fail)
    all_goals first | (exfalso; omega) | exact rfl
  have hxs : TsOk xs := ⟨hx, by omega⟩
  have h2 := h.k2s
  repeat' (first | (refine go1 ?_; intros) | (refine goCC ?_ ?_ <;> (intro hb; (try simp only [hSQ] at hb); try (exfalso; omega))) | fail)
  all_goals first | (exfalso; omega) | skip
  refine vl_o rfl (vo_call rfl rfl ?_)
  rw [hxc]
  refine vc_mono (psubmit_vc w0 _ a c ss cap b d ns r x rfl rfl h (fun s hs => by have := (h6 s hs).1; omega) hok hxo) ?_
  rw [← hxc]
  rintro u L' ⟨a1, c1, m1, b1, d1, rfl, h1, k1, rfl⟩
  have l1 := submitO_law h2 ns r cap x
  rw [← h1] at l1
  generalize (submitO (shl ss) ns r cap x).2.1 = go at *
  generalize (submitO (shl ss) ns r cap x).2.2 = E1 at *
  clear h1
  repeat' (first | (refine go1 ?_; intros) | (refine goCC ?_ ?_ <;> (intro hb; (try simp only [hSQ] at hb); try (exfalso; omega))) | fail)
  refine vl_o rfl (vo_call rfl rfl ?_)
  refine vc_mono (pdraw_vc w0 _ a c ss I b d ns r cap rfl rfl h (fun s hs => ⟨(h6 s hs).1, (h6 s hs).2, hcaps s hs⟩) hok hro) ?_
  rintro u L' ⟨a3, c3, m3, b3, d3, rfl, h3, k3, rfl⟩
  have l2 := drawO_law h2 ns r I cap
  rw [← h3] at l2
  generalize (drawO (shl ss) ns r I cap).2.1 = dr at *
  generalize (drawO (shl ss) ns r I cap).2.2 = E2 at *
  clear h3
  repeat' (first | (refine go1 ?_; intros) | (refine goCC ?_ ?_ <;> (intro hb; (try simp only [hSQ] at hb); try (exfalso; omega))) | fail)
  refine vl_o rfl (vo_call rfl rfl ?_)
  refine vc_mono (pback_vc w0 _ a c ss I b d ns r e g xs rfl rfl rfl h (fun s hs => by have := (h6 s hs).1; omega) hok hxs (by omega)) ?_
  rintro u L' ⟨a5, c5, m5, b5, d5, rfl, h5, k5, rfl⟩
  have l3 := backO_law h2 ns r I xs
  rw [← h5] at l3
  generalize (backO (shl ss) ns r I xs).2.1 = bk at *
  generalize (backO (shl ss) ns r I xs).2.2 = E3 at *
  clear h5
  repeat' (first | (refine go1 ?_; intros) | (refine goCC ?_ ?_ <;> (intro hb; (try simp only [hSQ] at hb); try (exfalso; omega))) | fail)
  refine vl_o rfl (vo_call rfl rfl ?_)
  rw [hxc]
  refine vc_mono (txFrom_vc w0 _ x hxo) ?_
  rintro u L' ⟨rfl, rfl⟩
  rw [← hxc, show sha (tagB 3 [x.pub]) = fromT x from rfl]
  repeat' (first | (refine go1 ?_; intros) | (refine goCC ?_ ?_ <;> (intro hb; (try simp only [hSQ] at hb); try (exfalso; omega))) | fail)
  refine vl_o rfl (vo_call rfl rfl ?_)
  refine vc_mono (pat_vc w0 _ (fromT x) ss.length hfl) ?_
  rintro u L' ⟨rfl, rfl⟩
  obtain ⟨PA, hPA⟩ : ∃ PA : Int × Int, PA = if 1 ≤ (ss.length : Int) ∧ (ss.length : Int) ≤ 8 then (atP (fromT x) ss.length, 0) else (0, 2) := ⟨_, rfl⟩
  have ePA : (if 1 ≤ (ss.length : Int) ∧ (ss.length : Int) ≤ 8 then Value.tuple #[.int .i64 (atP (fromT x) ss.length), .int .i64 0] else .tuple #[.int .i64 0, .int .i64 2]) = .tuple #[.int .i64 PA.1, .int .i64 PA.2] := by
    rw [hPA]
    split <;> rfl
  rw [ePA]
  clear ePA
  have hPA1 : E1 = 0 → atP (fromT x) ss.length = PA.1 := fun hE => by
    have hp := l1.1 hE
    have q1 := hp.may.lo
    have q2 := hp.may.hi
    rw [hp.len, shl_length] at q1 q2
    rw [hPA, if_pos (by omega)]
  obtain ⟨P1, P2⟩ := PA
  clear hPA
  dsimp only at hPA1 ⊢
  rw [shl_length] at l1
  by_cases hE1 : E1 = 0
  · subst hE1
    rw [hPA1 rfl] at l1
    repeat' (first | (refine go1 ?_; intros) | (refine goCC ?_ ?_ <;> (intro hb; (try simp only [hSQ] at hb); try (exfalso; omega))) | fail)
    all_goals first | (exfalso; omega) | skip
    refine vl_o rfl (vo_call rfl rfl ?_)
    refine vc_mono (lapart21_vc w0 _ a1 c1 m1 a c ss P1 k1 h (l1.1 rfl) rfl rfl) ?_
    rintro u L' ⟨rfl, rfl⟩
    by_cases hE2 : E2 = 0
    · subst hE2
      repeat' (first | (refine go1 ?_; intros) | (refine goCC ?_ ?_ <;> (intro hb; (try simp only [hSQ] at hb); try (exfalso; omega))) | fail)
      all_goals first | (exfalso; omega) | skip
      refine vl_o rfl (vo_call rfl rfl ?_)
      refine vc_mono (lapart21_vc w0 _ a3 c3 m3 a c ss I k3 h (l2.1 rfl) rfl rfl) ?_
      rintro u L' ⟨rfl, rfl⟩
      by_cases hE3 : E3 = 0
      · subst hE3
        repeat' (first | (refine go1 ?_; intros) | (refine goCC ?_ ?_ <;> (intro hb; (try simp only [hSQ] at hb); try (exfalso; omega))) | fail)
        all_goals first | (exfalso; omega) | skip
        refine vl_o rfl (vo_call rfl rfl ?_)
        refine vc_mono (lapart21_vc w0 _ a5 c5 m5 a c ss I k5 h (l3.1 rfl) rfl rfl) ?_
        rintro u L' ⟨rfl, rfl⟩
        repeat' (first | (refine go1 ?_; intros) | (refine goCC ?_ ?_ <;> (intro hb; (try simp only [hSQ] at hb); try (exfalso; omega))) | fail)
        all_goals first | exact rfl | (exfalso; omega)
      · obtain rfl : m5 = [] := List.map_eq_nil_iff.1 (l3.2 hE3)
        repeat' (first | (refine go1 ?_; intros) | (refine goCC ?_ ?_ <;> (intro hb; (try simp only [hSQ] at hb); try (exfalso; omega))) | fail)
        all_goals first | exact rfl | (exfalso; omega)
    · obtain rfl : m3 = [] := List.map_eq_nil_iff.1 (l2.2 hE2)
      by_cases hE3 : E3 = 0
      · subst hE3
        repeat' (first | (refine go1 ?_; intros) | (refine goCC ?_ ?_ <;> (intro hb; (try simp only [hSQ] at hb); try (exfalso; omega))) | fail)
        all_goals first | (exfalso; omega) | skip
        refine vl_o rfl (vo_call rfl rfl ?_)
        refine vc_mono (lapart21_vc w0 _ a5 c5 m5 a c ss I k5 h (l3.1 rfl) rfl rfl) ?_
        rintro u L' ⟨rfl, rfl⟩
        repeat' (first | (refine go1 ?_; intros) | (refine goCC ?_ ?_ <;> (intro hb; (try simp only [hSQ] at hb); try (exfalso; omega))) | fail)
        all_goals first | exact rfl | (exfalso; omega)
      · obtain rfl : m5 = [] := List.map_eq_nil_iff.1 (l3.2 hE3)
        repeat' (first | (refine go1 ?_; intros) | (refine goCC ?_ ?_ <;> (intro hb; (try simp only [hSQ] at hb); try (exfalso; omega))) | fail)
        all_goals first | exact rfl | (exfalso; omega)
  · obtain rfl : m1 = [] := List.map_eq_nil_iff.1 (l1.2 hE1)
    by_cases hE2 : E2 = 0
    · subst hE2
      repeat' (first | (refine go1 ?_; intros) | (refine goCC ?_ ?_ <;> (intro hb; (try simp only [hSQ] at hb); try (exfalso; omega))) | fail)
      all_goals first | (exfalso; omega) | skip
      refine vl_o rfl (vo_call rfl rfl ?_)
      refine vc_mono (lapart21_vc w0 _ a3 c3 m3 a c ss I k3 h (l2.1 rfl) rfl rfl) ?_
      rintro u L' ⟨rfl, rfl⟩
      by_cases hE3 : E3 = 0
      · subst hE3
        repeat' (first | (refine go1 ?_; intros) | (refine goCC ?_ ?_ <;> (intro hb; (try simp only [hSQ] at hb); try (exfalso; omega))) | fail)
        all_goals first | (exfalso; omega) | skip
        refine vl_o rfl (vo_call rfl rfl ?_)
        refine vc_mono (lapart21_vc w0 _ a5 c5 m5 a c ss I k5 h (l3.1 rfl) rfl rfl) ?_
        rintro u L' ⟨rfl, rfl⟩
        repeat' (first | (refine go1 ?_; intros) | (refine goCC ?_ ?_ <;> (intro hb; (try simp only [hSQ] at hb); try (exfalso; omega))) | fail)
        all_goals first | exact rfl | (exfalso; omega)
      · obtain rfl : m5 = [] := List.map_eq_nil_iff.1 (l3.2 hE3)
        repeat' (first | (refine go1 ?_; intros) | (refine goCC ?_ ?_ <;> (intro hb; (try simp only [hSQ] at hb); try (exfalso; omega))) | fail)
        all_goals first | exact rfl | (exfalso; omega)
    · obtain rfl : m3 = [] := List.map_eq_nil_iff.1 (l2.2 hE2)
      by_cases hE3 : E3 = 0
      · subst hE3
        repeat' (first | (refine go1 ?_; intros) | (refine goCC ?_ ?_ <;> (intro hb; (try simp only [hSQ] at hb); try (exfalso; omega))) | fail)
        all_goals first | (exfalso; omega) | skip
        refine vl_o rfl (vo_call rfl rfl ?_)
        refine vc_mono (lapart21_vc w0 _ a5 c5 m5 a c ss I k5 h (l3.1 rfl) rfl rfl) ?_
        rintro u L' ⟨rfl, rfl⟩
        repeat' (first | (refine go1 ?_; intros) | (refine goCC ?_ ?_ <;> (intro hb; (try simp only [hSQ] at hb); try (exfalso; omega))) | fail)
        all_goals first | exact rfl | (exfalso; omega)
      · obtain rfl : m5 = [] := List.map_eq_nil_iff.1 (l3.2 hE3)
        repeat' (first | (refine go1 ?_; intros) | (refine goCC ?_ ?_ <;> (intro hb; (try simp only [hSQ] at hb); try (exfalso; omega))) | fail)
        all_goals first | exact rfl | (exfalso; omega)
end Go.Proofs.YtcpndfffdbogbaaGreatDoor
