/-
  What is drawn of a shard: the law.
-/
import Derived.Test.YtccbcdhpnkbkgaaDoorShdT
import Derived.Test.YtccbcdhpnkbkgaaDoorShdL
import Derived.Test.YtccbcdhpnkbkgaaDoorShdV
import Derived.Test.YtccbcdhpnkbkgaaDoorTC
set_option linter.unusedVariables false
set_option linter.unusedSimpArgs false
namespace Go.Proofs.YtccbcdhpnkbkgaaDoor
open Go Go.RowKit
set_option linter.unusedVariables false
set_option linter.unusedSimpArgs false
set_option linter.unusedSectionVars false
open Classical

/-- What is known of what is drawn. -/
structure DrwQ (ls : List Ln) (ns : List Nd) (r : Int) (room : Int) (ms : List Ln) (dr : List Tx) : Prop where
  mayL : MayC (lls ls)
  st : StP ns r
  mayM : MayC (lls ms)
  ts : TsOk dr
  few : dr.length = 0 ∨ (dr.length : Int) ≤ room
  nonce : ∀ i (hi : i < dr.length), dr[i].nonce = (if 0 < i ∧ fromT (dr[i - 1]'(by omega)) = fromT dr[i] then (dr[i - 1]'(by omega)).nonce + 1 else (accG ns r (fromT dr[i])).1)
  there : ∀ i (hi : i < dr.length), atT (lineC (lls ls) (fromT dr[i])) dr[i].nonce = some dr[i]
  gone : ∀ i (hi : i < dr.length), atT (lineC (lls ms) (fromT dr[i])) dr[i].nonce = none
  left : ∀ l ∈ ms, ∀ z ∈ l.xs, atT (lineC (lls ls) l.own) z.nonce = some z ∧ (accG ns r l.own).1 ≤ z.nonce
theorem lineC_mem' {cs : List LC} (h : Srt2 cs) {c : LC} (hc : c ∈ cs) : lineC cs c.1 = c.2 := by
  obtain ⟨k, hk, rfl⟩ := List.getElem_of_mem hc
  exact lineC_some h hk rfl
theorem atT_ne {xs : List Tx} {k : Nat} (h : ∀ z ∈ xs, z.nonce ≠ k) : atT xs k = none := atT_none (fun i hi => h _ (List.getElem_mem hi))
theorem drawQ_cases {ls : List Ln} (h : LsOk ls) (h6 : ls.length ≤ 6) (h20 : ∀ l ∈ ls, l.xs.length ≤ 20) (ns : List Nd) (r : Int) (room : Int) (ms : List Ln) : drawQ (lls ls) ns r room = ([], [], 8) ∨ ∃ zs dr, drawQ (lls ls) ns r room = (zs, dr, 0) ∧ (lls ms = zs → DrwQ ls ns r room ms dr) := by
  unfold drawQ
  by_cases hc : MayC (lls ls) ∧ StP ns r
  rotate_left
  · rw [if_neg hc]; exact .inl rfl
  rw [if_pos hc]
  refine .inr ⟨_, _, rfl, fun e => ?_⟩
  obtain ⟨hm, hs⟩ := hc
  have hd := drawC_law (f := nonceA ns r) (room := room) hm
  have hz : MayC (drawC (nonceA ns r) room (lls ls)).1 := by
    rw [← drawAt_end]
    exact (drawAt_may (f := nonceA ns r) (room := room) hm h.k2 _ (Nat.le_refl _)).1
  have hl := drawC_len (nonceA ns r) room (lls ls) ([], [])
  rw [show (lls ls).foldl (drawS (nonceA ns r) room) ([], []) = drawC (nonceA ns r) room (lls ls) from rfl] at hl
  have h120 : cntC (lls ls) ≤ (lls ls).length * 20 := cntC_le20 (fun c hc => by
    obtain ⟨l, hl, rfl⟩ := List.mem_map.1 hc
    exact h20 l hl)
  rw [List.length_map] at h120
  simp only [List.length_nil, Nat.zero_add] at hl
  have hin : ∀ i (hi : i < (drawC (nonceA ns r) room (lls ls)).2.length), ((drawC (nonceA ns r) room (lls ls)).2[i]).ok := fun i hi => by
    obtain ⟨⟨c, hc, e1, e2, _⟩, _⟩ := hd.from' i hi
    obtain ⟨l, hl, rfl⟩ := List.mem_map.1 hc
    exact (h.ok l hl).ts.ok _ e2
  refine ⟨hm, hs, by rw [e]; exact hz, ?_, hd.few, fun i hi => (hd.from' i hi).2, fun i hi => ?_, fun i hi => ?_, fun l hl z hzl => ?_⟩
  · refine ⟨fun x hx => ?_, by omega⟩
    obtain ⟨i, hi, rfl⟩ := List.getElem_of_mem hx
    exact hin i hi
  · obtain ⟨⟨c, hc, e1, e2, _⟩, _⟩ := hd.from' i hi
    rw [e1, lineC_mem' hm.srt hc]
    exact atT_mem (hm.good c hc).up e2 rfl
  · obtain ⟨⟨c, hc, e1, e2, e3⟩, _⟩ := hd.from' i hi
    rw [e]
    refine atT_ne (fun z hz => ?_)
    by_cases hl0 : lineC (drawC (nonceA ns r) room (lls ls)).1 (fromT (drawC (nonceA ns r) room (lls ls)).2[i]) = []
    · rw [hl0] at hz; cases hz
    · have h1 := lineC_in hl0
      rw [e1] at h1 hz
      exact e3 _ h1 z hz
  · have hmem : l.pl ∈ (drawC (nonceA ns r) room (lls ls)).1 := by rw [← e]; exact List.mem_map.2 ⟨l, hl, rfl⟩
    obtain ⟨c, hc, e1, e2⟩ := hd.left _ hmem
    obtain ⟨e3, e4⟩ := e2 z hzl
    have e1 : l.own = c.1 := e1
    rw [e1, lineC_mem' hm.srt hc]
    exact ⟨atT_mem (hm.good c hc).up e3 rfl, e4⟩
set_option maxRecDepth 100000 in
set_option maxHeartbeats 8000000 in
theorem shardRuns_vc (w0 : World) (a : Option Addr) (c : Nat) (ls : List Ln) (b : Option Addr) (d : Nat) (ns : List Nd) (r : Int) (room : Int) (hw : ∀ p ∈ ls, p.own.length = 32 ∧ (∀ x ∈ p.xs, x.ok) ∧ p.xs.length ≤ 9223372036854775807) (hll : ls.length ≤ 9223372036854775807) (hcaps : ∀ p ∈ ls, p.xs.length ≤ p.c) (hkey : ∀ p ∈ ns, p.key.length = 32) (hnl : ns.length ≤ 9223372036854775807) (hro : -9223372036854775808 ≤ room ∧ room < 9223372036854775808) [hK : RdA w0 (some ⟨0, 0, none⟩) (wds K64)] [hr : RdA w0 a (lnc ls)] [hv : RdLs w0 [] ls] [gr : RdA w0 b (ndc ns)] [gv : RdNs w0 [] ns] :
    VC Tryd.prog w0 6 [.agg #[.slice a ls.length c], .agg #[.slice b ns.length d, .int .i64 r], .int .i64 room] [] fun u L' => u = .bool true := by
  refine vc_in rfl rfl ?_
  repeat' (first | (refine go1 ?_; intros) | ((first | refine vl_caseG rfl rfl rfl rfl ?_ ?_ | refine v_cond rfl ?_ ?_) <;> (intro hb; (try simp only [hq1, hq2, hq3, hq4, ne_eq, hq5, hq6, hq7, hq8] at hb); try (exfalso; omega))) | fail)
  refine vl_o rfl (vo_call rfl rfl ?_)
  refine vc_mono (lalive20_vc w0 _) ?_
  rintro v L' ⟨rfl, rfl⟩
  repeat' (first | (refine go1 ?_; intros) | ((first | refine vl_caseG rfl rfl rfl rfl ?_ ?_ | refine v_cond rfl ?_ ?_) <;> (intro hb; (try simp only [hq1, hq2, hq3, hq4, ne_eq, hq5, hq6, hq7, hq8] at hb); try (exfalso; omega))) | fail)
  refine vl_o rfl (vo_call rfl rfl ?_)
  refine vc_mono (great20_vc w0 _ a c ls rfl (fun p hp => ⟨(hw p hp).1, (hw p hp).2.2⟩) hll) ?_
  rintro u L' ⟨b1, rfl, hb6, rfl⟩
  cases b1
  rotate_left
  · repeat' (first | (refine go1 ?_; intros) | ((first | refine vl_caseG rfl rfl rfl rfl ?_ ?_ | refine v_cond rfl ?_ ?_) <;> (intro hb; (try simp only [hq1, hq2, hq3, hq4, ne_eq, hq5, hq6, hq7, hq8] at hb); try (exfalso; omega))) | fail)
    exact rfl
  have h := LsOk.of0 hw (hb6 rfl)
  have h6 := (hb6 rfl).1
  repeat' (first | (refine go1 ?_; intros) | ((first | refine vl_caseG rfl rfl rfl rfl ?_ ?_ | refine v_cond rfl ?_ ?_) <;> (intro hb; (try simp only [hq1, hq2, hq3, hq4, ne_eq, hq5, hq6, hq7, hq8] at hb); try (exfalso; omega))) | fail)
  refine vl_o rfl (vo_call rfl rfl ?_)
  refine vc_mono (great6_vc w0 _ b d ns r 600 rfl (by decide) hkey hnl) ?_
  rintro u L' ⟨b2, rfl, gg, rfl⟩
  cases b2
  rotate_left
  · repeat' (first | (refine go1 ?_; intros) | ((first | refine vl_caseG rfl rfl rfl rfl ?_ ?_ | refine v_cond rfl ?_ ?_) <;> (intro hb; (try simp only [hq1, hq2, hq3, hq4, ne_eq, hq5, hq6, hq7, hq8] at hb); try (exfalso; omega))) | fail)
    exact rfl
  obtain ⟨hg1, hg2⟩ := gg rfl
  have hok : NsOk ns := ⟨hkey, fun p hp => by have := hg2 p hp; omega, by omega⟩
  repeat' (first | (refine go1 ?_; intros) | ((first | refine vl_caseG rfl rfl rfl rfl ?_ ?_ | refine v_cond rfl ?_ ?_) <;> (intro hb; (try simp only [hq1, hq2, hq3, hq4, ne_eq, hq5, hq6, hq7, hq8] at hb); try (exfalso; omega))) | fail)
  refine vl_o rfl (vo_call rfl rfl ?_)
  refine vc_mono (sdraw_vc w0 _ a c ls b d ns r room rfl rfl h h6 (hb6 rfl).2 hcaps hok hro) ?_
  rintro u L' ⟨a1, c1, ms, b1, d1, rfl, hms, hmo, rfl⟩
  rcases drawQ_cases h h6 (hb6 rfl).2 ns r room ms with hq | ⟨zs, dr, hq, hD⟩
  · rw [hq] at hms ⊢
    obtain rfl : ms = [] := List.map_eq_nil_iff.1 hms
    repeat' (first | (refine go1 ?_; intros) | ((first | refine vl_caseG rfl rfl rfl rfl ?_ ?_ | refine v_cond rfl ?_ ?_) <;> (intro hb; (try simp only [hq1, hq2, hq3, hq4, ne_eq, hq5, hq6, hq7, hq8] at hb); try (exfalso; omega))) | fail)
    exact rfl
  rw [hq] at hms ⊢
  dsimp only at hms ⊢
  have D := hD hms
  have hdo := D.ts
  have hdl := hdo.len
  repeat' (first | (refine go1 ?_; intros) | ((first | refine vl_caseG rfl rfl rfl rfl ?_ ?_ | refine v_cond rfl ?_ ?_) <;> (intro hb; (try simp only [hq1, hq2, hq3, hq4, ne_eq, hq5, hq6, hq7, hq8] at hb); try (exfalso; omega))) | fail)
  rename_i g3 g4 g8
  refine v_loopS Nat [2, 3, 4, 6, 7, 8, 9] rfl (fun i => [(11, .int .i64 i)]) (fun i => i ≤ dr.length) (fun i => dr.length - i) 0 (Nat.zero_le _) (by (repeat' (first | exact Sub.nil _ | refine Sub.cons rfl rfl ?_ | refine Sub.cons rfl ?_ ?_))) (fun i hi => ?_)
  by_cases hlt : i < dr.length
  · have el := hdo.el i hlt
    have e2 := hdo.e2 i hlt
    have hpos := hdo.pos i hlt
    have xok := hdo.at i hlt
    have hnon := D.nonce i hlt
    have hthere := findQ_some (D.there i hlt)
    have hgone : findQ (lineC (lls ms) (fromT dr[i])) dr[i].nonce = (zTx, false) := by unfold findQ; rw [D.gone i hlt]
    obtain ⟨w, hwd⟩ : ∃ w, 0 < i → (∃ h : i - 1 < dr.length, w = dr[i - 1]) := by
      by_cases h0 : 0 < i
      · exact ⟨dr[i - 1]'(by omega), fun _ => ⟨by omega, rfl⟩⟩
      · exact ⟨zTx, fun e => absurd e h0⟩
    have hnon : dr[i].nonce = (if 0 < i ∧ fromT w = fromT dr[i] then w.nonce + 1 else (accG ns r (fromT dr[i])).1) := by
      rw [hnon]
      by_cases h0 : 0 < i
      · obtain ⟨h1, e⟩ := hwd h0
        rw [e]
      · rw [if_neg (fun e => h0 e.1), if_neg (fun e => h0 e.1)]
    have hwl : 0 < i → ((txc dr).drop ((i - 1) * 99)).take 99 = w.cells ∧ (txc dr)[(i - 1) * 99 + 64]? = some (.int .u64 (w.nonce : Int)) ∧ w.ok := fun h0 => by
      obtain ⟨h1, e⟩ := hwd h0
      rw [e]
      exact ⟨hdo.el _ h1, hdo.e2 _ h1, hdo.at _ h1⟩
    generalize dr[i] = x at *
    have hxcl := Tx.len xok
    have hx2 := Tx.f2 xok
    have hxn := xok.nonce
    have hfo := fromT_len x
    haveI oxc : OC x.cells := oc_tx _
    have hzl0 := Tx.len zTx_ok
    haveI ozc0 : OC zTx.cells := oc_tx _
    obtain ⟨zc, hzc⟩ : ∃ zc, zc = zTx.cells := ⟨_, rfl⟩
    rw [← hzc] at hzl0 ozc0
    repeat' (first | (refine go1 ?_; intros) | ((first | refine vl_caseG rfl rfl rfl rfl ?_ ?_ | refine v_cond rfl ?_ ?_) <;> (intro hb; (try simp only [hq1, hq2, hq3, hq4, ne_eq, hq5, hq6, hq7, hq8] at hb); try (exfalso; omega))) | fail)
    refine vl_o rfl (vo_call rfl rfl ?_)
    refine vc_mono (txFrom_vc w0 _ x xok) ?_
    rintro v L' ⟨rfl, rfl⟩
    rw [show sha (tagB 3 [x.pub]) = fromT x from rfl]
    repeat' (first | (refine go1 ?_; intros) | ((first | refine vl_caseG rfl rfl rfl rfl ?_ ?_ | refine v_cond rfl ?_ ?_) <;> (intro hb; (try simp only [hq1, hq2, hq3, hq4, ne_eq, hq5, hq6, hq7, hq8] at hb); try (exfalso; omega))) | fail)
    refine vl_o rfl (vo_call rfl rfl ?_)
    refine vc_mono (aget_vc w0 _ b d ns r (fromT x) rfl hok hfo) ?_
    rintro v L' ⟨rfl, rfl⟩
    rw [if_pos D.st]
    repeat' (first | (refine go1 ?_; intros) | ((first | refine vl_caseG rfl rfl rfl rfl ?_ ?_ | refine v_cond rfl ?_ ?_) <;> (intro hb; (try simp only [hq1, hq2, hq3, hq4, ne_eq, hq5, hq6, hq7, hq8] at hb); try (exfalso; omega))) | fail)
    rename_i g12 g13
    have hN2 : ∀ z, ((accG ns r z).1 : Int) ≤ 18446744073709551615 := fun z => by
      have := nonceA_lt ns r z
      unfold nonceA at this
      omega
    generalize hQ1 : (accG ns r (fromT x)).1 = N at *
    generalize (accG ns r (fromT x)).2 = N2 at *
    refine v_cut Unit [2, 3, 4, 6, 7, 8, 9, 11, 12, 13, 14] rfl (fun _ => [(88, .bool (decide (0 < i ∧ fromT w = fromT x)))]) (fun _ => [blk g13 58 [.int .u64 N, .int .u64 N2], blk g12 27 (bvs (fromT x)), blk g8 24 [.slice a1 ms.length c1], ownLs a1 c1 ms, tsA ms, ownTs b1 d1 dr, blk g4 53 [.slice b ns.length d, .int .i64 r], blk g3 24 [.slice a ls.length c]]) ?_ ?_
    · as_aux_lemma =>
      by_cases h0 : 0 < i
      · obtain ⟨w1, w2, w3⟩ := hwl h0
        have hfw := fromT_len w
        obtain ⟨fw, hfe⟩ : ∃ fw, fw = fromT w := ⟨_, rfl⟩
        obtain ⟨fx, hfx⟩ : ∃ fx, fx = fromT x := ⟨_, rfl⟩
        rw [← hfe, ← hfx]
        rw [← hfe] at hfw
        rw [← hfx] at hfo
        have hw9 := Tx.len w3
        haveI owc : OC w.cells := oc_tx _
        (refine v_draw0 [] (by kernel_rfl) ?_ <;> (refine va_takeA 0 rfl rfl rfl rfl ?_) <;> (refine va_takeA 1 rfl rfl rfl rfl ?_) <;> (refine va_takeA 2 rfl rfl rfl rfl ?_) <;> (first | refine va_takeGA 3 rfl rfl rfl rfl rfl rfl rfl rfl ?_ | refine va_passGA 3 rfl rfl rfl rfl rfl rfl rfl rfl ?_ | (refine va_caseG 3 rfl rfl rfl rfl rfl ?_ ?_ <;> (intro hb; (try simp only [hq1, hq2, hq3, hq4, ne_eq, hq5, hq6, hq7, hq8] at hb); try (exfalso; omega)) <;> first | refine va_takeGA 3 rfl rfl rfl rfl rfl rfl rfl rfl ?_ | refine va_passGA 3 rfl rfl rfl rfl rfl rfl rfl rfl ?_)) <;> (first | refine va_takeGA 4 rfl rfl rfl rfl rfl rfl rfl rfl ?_ | refine va_passGA 4 rfl rfl rfl rfl rfl rfl rfl rfl ?_ | (refine va_caseG 4 rfl rfl rfl rfl rfl ?_ ?_ <;> (intro hb; (try simp only [hq1, hq2, hq3, hq4, ne_eq, hq5, hq6, hq7, hq8] at hb); try (exfalso; omega)) <;> first | refine va_takeGA 4 rfl rfl rfl rfl rfl rfl rfl rfl ?_ | refine va_passGA 4 rfl rfl rfl rfl rfl rfl rfl rfl ?_)) <;> (first | refine va_takeGA 5 rfl rfl rfl rfl rfl rfl rfl rfl ?_ | refine va_passGA 5 rfl rfl rfl rfl rfl rfl rfl rfl ?_ | (refine va_caseG 5 rfl rfl rfl rfl rfl ?_ ?_ <;> (intro hb; (try simp only [hq1, hq2, hq3, hq4, ne_eq, hq5, hq6, hq7, hq8] at hb); try (exfalso; omega)) <;> first | refine va_takeGA 5 rfl rfl rfl rfl rfl rfl rfl rfl ?_ | refine va_passGA 5 rfl rfl rfl rfl rfl rfl rfl rfl ?_)) <;> (first | refine va_takeGA 6 rfl rfl rfl rfl rfl rfl rfl rfl ?_ | refine va_passGA 6 rfl rfl rfl rfl rfl rfl rfl rfl ?_ | (refine va_caseG 6 rfl rfl rfl rfl rfl ?_ ?_ <;> (intro hb; (try simp only [hq1, hq2, hq3, hq4, ne_eq, hq5, hq6, hq7, hq8] at hb); try (exfalso; omega)) <;> first | refine va_takeGA 6 rfl rfl rfl rfl rfl rfl rfl rfl ?_ | refine va_passGA 6 rfl rfl rfl rfl rfl rfl rfl rfl ?_)) <;> (first | refine va_takeGA 7 rfl rfl rfl rfl rfl rfl rfl rfl ?_ | refine va_passGA 7 rfl rfl rfl rfl rfl rfl rfl rfl ?_ | (refine va_caseG 7 rfl rfl rfl rfl rfl ?_ ?_ <;> (intro hb; (try simp only [hq1, hq2, hq3, hq4, ne_eq, hq5, hq6, hq7, hq8] at hb); try (exfalso; omega)) <;> first | refine va_takeGA 7 rfl rfl rfl rfl rfl rfl rfl rfl ?_ | refine va_passGA 7 rfl rfl rfl rfl rfl rfl rfl rfl ?_)) <;> (first | refine va_takeGA 9 rfl rfl rfl rfl rfl rfl rfl rfl ?_ | refine va_passGA 9 rfl rfl rfl rfl rfl rfl rfl rfl ?_ | (refine va_caseG 9 rfl rfl rfl rfl rfl ?_ ?_ <;> (intro hb; (try simp only [hq1, hq2, hq3, hq4, ne_eq, hq5, hq6, hq7, hq8] at hb); try (exfalso; omega)) <;> first | refine va_takeGA 9 rfl rfl rfl rfl rfl rfl rfl rfl ?_ | refine va_passGA 9 rfl rfl rfl rfl rfl rfl rfl rfl ?_)))
        first | refine va_oneG 8 (by kernel_rfl) rfl rfl rfl rfl rfl rfl (vo_call rfl rfl ?_) | refine va_oneG 8 (by kernel_rfl) rfl rfl rfl rfl rfl rfl (vo_callV rfl rfl rfl ?_)
        refine vc_mono (txFrom_vc w0 _ w w3) ?_
        rintro v L' ⟨rfl, rfl⟩
        rw [show sha (tagB 3 [w.pub]) = fromT w from rfl, ← hfe]
        clear hfe hfx hnon hwl
        refine ⟨.inr (SE.ent (by repeat' (first | exact SE.refl _ | refine SE.cons _ ?_ | refine SE.trans (se_drop _ _) ?_)) _), ?_⟩
        ((first | refine va_takeGA 10 rfl rfl rfl rfl rfl rfl rfl rfl ?_ | refine va_passGA 10 rfl rfl rfl rfl rfl rfl rfl rfl ?_ | (refine va_caseG 10 rfl rfl rfl rfl rfl ?_ ?_ <;> (intro hb; (try simp only [hq1, hq2, hq3, hq4, ne_eq, hq5, hq6, hq7, hq8] at hb); try (exfalso; omega)) <;> first | refine va_takeGA 10 rfl rfl rfl rfl rfl rfl rfl rfl ?_ | refine va_passGA 10 rfl rfl rfl rfl rfl rfl rfl rfl ?_)) <;> (refine va_takeA 11 rfl rfl rfl rfl ?_) <;> (refine va_done (by kernel_rfl) ?_))
        rw [show decide (0 < i ∧ fw = fx) = decide (fw = fx) by simp [h0]]
        refine ⟨rfl, (), by (repeat' (first | exact Sub.nil _ | refine Sub.cons rfl rfl ?_ | refine Sub.cons rfl ?_ ?_)), ?_⟩
        dsimp only
        exact sei _ _ _
      · (refine v_draw0 [] (by kernel_rfl) ?_ <;> (refine va_takeA 0 rfl rfl rfl rfl ?_) <;> (refine va_takeA 1 rfl rfl rfl rfl ?_) <;> (refine va_takeA 2 rfl rfl rfl rfl ?_) <;> (first | refine va_takeGA 3 rfl rfl rfl rfl rfl rfl rfl rfl ?_ | refine va_passGA 3 rfl rfl rfl rfl rfl rfl rfl rfl ?_ | (refine va_caseG 3 rfl rfl rfl rfl rfl ?_ ?_ <;> (intro hb; (try simp only [hq1, hq2, hq3, hq4, ne_eq, hq5, hq6, hq7, hq8] at hb); try (exfalso; omega)) <;> first | refine va_takeGA 3 rfl rfl rfl rfl rfl rfl rfl rfl ?_ | refine va_passGA 3 rfl rfl rfl rfl rfl rfl rfl rfl ?_)) <;> (first | refine va_takeGA 4 rfl rfl rfl rfl rfl rfl rfl rfl ?_ | refine va_passGA 4 rfl rfl rfl rfl rfl rfl rfl rfl ?_ | (refine va_caseG 4 rfl rfl rfl rfl rfl ?_ ?_ <;> (intro hb; (try simp only [hq1, hq2, hq3, hq4, ne_eq, hq5, hq6, hq7, hq8] at hb); try (exfalso; omega)) <;> first | refine va_takeGA 4 rfl rfl rfl rfl rfl rfl rfl rfl ?_ | refine va_passGA 4 rfl rfl rfl rfl rfl rfl rfl rfl ?_)) <;> (first | refine va_takeGA 5 rfl rfl rfl rfl rfl rfl rfl rfl ?_ | refine va_passGA 5 rfl rfl rfl rfl rfl rfl rfl rfl ?_ | (refine va_caseG 5 rfl rfl rfl rfl rfl ?_ ?_ <;> (intro hb; (try simp only [hq1, hq2, hq3, hq4, ne_eq, hq5, hq6, hq7, hq8] at hb); try (exfalso; omega)) <;> first | refine va_takeGA 5 rfl rfl rfl rfl rfl rfl rfl rfl ?_ | refine va_passGA 5 rfl rfl rfl rfl rfl rfl rfl rfl ?_)) <;> (first | refine va_takeGA 6 rfl rfl rfl rfl rfl rfl rfl rfl ?_ | refine va_passGA 6 rfl rfl rfl rfl rfl rfl rfl rfl ?_ | (refine va_caseG 6 rfl rfl rfl rfl rfl ?_ ?_ <;> (intro hb; (try simp only [hq1, hq2, hq3, hq4, ne_eq, hq5, hq6, hq7, hq8] at hb); try (exfalso; omega)) <;> first | refine va_takeGA 6 rfl rfl rfl rfl rfl rfl rfl rfl ?_ | refine va_passGA 6 rfl rfl rfl rfl rfl rfl rfl rfl ?_)) <;> (first | refine va_takeGA 7 rfl rfl rfl rfl rfl rfl rfl rfl ?_ | refine va_passGA 7 rfl rfl rfl rfl rfl rfl rfl rfl ?_ | (refine va_caseG 7 rfl rfl rfl rfl rfl ?_ ?_ <;> (intro hb; (try simp only [hq1, hq2, hq3, hq4, ne_eq, hq5, hq6, hq7, hq8] at hb); try (exfalso; omega)) <;> first | refine va_takeGA 7 rfl rfl rfl rfl rfl rfl rfl rfl ?_ | refine va_passGA 7 rfl rfl rfl rfl rfl rfl rfl rfl ?_)) <;> (first | refine va_takeGA 9 rfl rfl rfl rfl rfl rfl rfl rfl ?_ | refine va_passGA 9 rfl rfl rfl rfl rfl rfl rfl rfl ?_ | (refine va_caseG 9 rfl rfl rfl rfl rfl ?_ ?_ <;> (intro hb; (try simp only [hq1, hq2, hq3, hq4, ne_eq, hq5, hq6, hq7, hq8] at hb); try (exfalso; omega)) <;> first | refine va_takeGA 9 rfl rfl rfl rfl rfl rfl rfl rfl ?_ | refine va_passGA 9 rfl rfl rfl rfl rfl rfl rfl rfl ?_)))
        refine va_passGA 8 rfl rfl rfl rfl rfl rfl rfl rfl ?_
        ((first | refine va_takeGA 10 rfl rfl rfl rfl rfl rfl rfl rfl ?_ | (first | refine va_passGA 10 rfl rfl rfl rfl rfl rfl rfl rfl ?_ | refine va_passU 10 rfl rfl rfl rfl rfl rfl rfl (by kernel_rfl) (fun _ _ _ _ h => h) (.inl (SE.ent (by repeat' (first | exact SE.refl _ | refine SE.cons _ ?_ | refine SE.trans (se_drop _ _) ?_)) _)) ?_) | (refine va_caseG 10 rfl rfl rfl rfl rfl ?_ ?_ <;> (intro hb; (try simp only [hq1, hq2, hq3, hq4, ne_eq, hq5, hq6, hq7, hq8] at hb); try (exfalso; omega)) <;> first | refine va_takeGA 10 rfl rfl rfl rfl rfl rfl rfl rfl ?_ | (first | refine va_passGA 10 rfl rfl rfl rfl rfl rfl rfl rfl ?_ | refine va_passU 10 rfl rfl rfl rfl rfl rfl rfl (by kernel_rfl) (fun _ _ _ _ h => h) (.inl (SE.ent (by repeat' (first | exact SE.refl _ | refine SE.cons _ ?_ | refine SE.trans (se_drop _ _) ?_)) _)) ?_))) <;> (refine va_takeA 11 rfl rfl rfl rfl ?_) <;> (refine va_done (by kernel_rfl) ?_))
        rw [show decide (0 < i ∧ fromT w = fromT x) = false by simp [h0]]
        refine ⟨rfl, (), by (repeat' (first | exact Sub.nil _ | refine Sub.cons rfl rfl ?_ | refine Sub.cons rfl ?_ ?_)), ?_⟩
        dsimp only
        exact sei _ _ _
    intro z0
    refine v_cut Unit [2, 3, 4, 6, 7, 8, 9, 11, 12, 13, 14] rfl (fun _ => []) (fun _ => [blk g13 58 [.int .u64 x.nonce, .int .u64 N2], blk g12 27 (bvs (fromT x)), blk g8 24 [.slice a1 ms.length c1], ownLs a1 c1 ms, tsA ms, ownTs b1 d1 dr, blk g4 53 [.slice b ns.length d, .int .i64 r], blk g3 24 [.slice a ls.length c]]) ?_ ?_
    · as_aux_lemma =>
      by_cases hB : 0 < i ∧ fromT w = fromT x
      · obtain ⟨w1, w2, w3⟩ := hwl hB.1
        rw [decide_eq_true hB]
        rw [if_pos hB] at hnon
        have h0 := hB.1
        rw [hnon]
        repeat' (first | (refine go1 ?_; intros) | ((first | refine vl_caseG rfl rfl rfl rfl ?_ ?_ | refine v_cond rfl ?_ ?_) <;> (intro hb; (try simp only [hq1, hq2, hq3, hq4, ne_eq, hq5, hq6, hq7, hq8] at hb); try (exfalso; omega))) | fail)
        refine ⟨rfl, (), by (repeat' (first | exact Sub.nil _ | refine Sub.cons rfl rfl ?_ | refine Sub.cons rfl ?_ ?_)), ?_⟩
        dsimp only
        exact Ent.refl _ _
      · rw [decide_eq_false hB]
        rw [if_neg hB] at hnon
        rw [hnon]
        repeat' (first | (refine go1 ?_; intros) | ((first | refine vl_caseG rfl rfl rfl rfl ?_ ?_ | refine v_cond rfl ?_ ?_) <;> (intro hb; (try simp only [hq1, hq2, hq3, hq4, ne_eq, hq5, hq6, hq7, hq8] at hb); try (exfalso; omega))) | fail)
        refine ⟨rfl, (), by (repeat' (first | exact Sub.nil _ | refine Sub.cons rfl rfl ?_ | refine Sub.cons rfl ?_ ?_)), ?_⟩
        dsimp only
        exact sei _ _ _
    intro z1
    repeat' (first | (refine go1 ?_; intros) | ((first | refine vl_caseG rfl rfl rfl rfl ?_ ?_ | refine v_cond rfl ?_ ?_) <;> (intro hb; (try simp only [hq1, hq2, hq3, hq4, ne_eq, hq5, hq6, hq7, hq8] at hb); try (exfalso; omega))) | fail)
    refine v_cut Nat [2, 3, 4, 6, 7, 8, 9, 11, 12, 13, 14] rfl (fun q => [(15, .pointer (some ⟨q, 0, none⟩)), (16, .bool true)]) (fun q => [blk q 29 x.cells, blk g13 58 [.int .u64 x.nonce, .int .u64 N2], blk g12 27 (bvs (fromT x)), blk g8 24 [.slice a1 ms.length c1], ownLs a1 c1 ms, tsA ms, ownTs b1 d1 dr, blk g4 53 [.slice b ns.length d, .int .i64 r], blk g3 24 [.slice a ls.length c]]) ?_ ?_
    · as_aux_lemma =>
      refine v_id ?_
      refine v_draw0 [] (by kernel_rfl) ?_
      refine va_takeA 0 rfl rfl rfl rfl ?_
      refine va_takeA 1 rfl rfl rfl rfl ?_
      refine va_takeA 2 rfl rfl rfl rfl ?_
      refine va_takeA 3 rfl rfl rfl rfl ?_
      refine va_takeA 4 rfl rfl rfl rfl ?_
      refine va_takeA 5 rfl rfl rfl rfl ?_
      refine va_takeA 6 rfl rfl rfl rfl ?_
      refine va_two 7 11 (by kernel_rfl) rfl rfl rfl rfl ?_ ?_
      · first | refine vo_call rfl rfl ?_ | refine vo_callV rfl rfl rfl ?_
        refine vc_mono (lfind20_vc w0 _ a c ls (fromT x) x.nonce rfl h D.mayL.srt hfo hxn) ?_
        rintro v L' ⟨rfl, rfl⟩
        rw [hthere]
        refine ⟨.inr (sei _ _ _), ?_⟩
        refine va_takeA 8 rfl rfl rfl rfl ?_
        refine va_takeA 9 rfl rfl rfl rfl ?_
        refine va_takeA 10 rfl rfl rfl rfl ?_
        refine va_one 11 (by kernel_rfl) rfl rfl ?_
        (first | (refine vo_box rfl rfl rfl ?_; intro _) | (refine vo_alloc rfl ?_; intro _) | (refine vo_isStore ?_; first | (refine vo_isPt0 rfl ?_; refine vo_stWA rfl rfl ?_) | (refine vo_isPt rfl ?_; refine vo_stBA rfl rfl ?_) | (refine vo_stO rfl rfl (by rfl) (by first | rfl | assumption) (by first | assumption | (simp; done) | (simp; omega) | omega) rfl ?_; skip)) | (refine vo_isCall ?_; first | (refine vo_isApp ?_; first | (refine vo_append0A rfl rfl rfl ?_; intro _ _ _ _) | (refine vo_appendA rfl rfl rfl ?_; intro _ _ _ _)) | (refine vo_isCopy ?_; refine vo_copyB rfl rfl rfl (by assumption) (by assumption) (by assumption) (by assumption) ?_) | refine vo_yield rfl rfl rfl rfl rfl ?_ | refine vo_callV rfl rfl rfl (vc_in rfl rfl ?_)) | refine vo_convRow rfl rfl ?_ | (refine vo_isBs ?_; refine vo_buildSlice rfl rfl rfl (by decide) (by repeat' (first | exact trivial | rfl | assumption | refine ⟨?_, ?_⟩ | (simp; done) | (simp; omega))) (by decide) rfl ?_; intro _) | (refine vo_buildSlice0 rfl ?_; intro _) | fail)
        refine ⟨.inr (sei _ _ _), ?_⟩
        refine va_one 12 (by kernel_rfl) rfl rfl ?_
        (first | (refine vo_box rfl rfl rfl ?_; intro _) | (refine vo_alloc rfl ?_; intro _) | (refine vo_isStore ?_; first | (refine vo_isPt0 rfl ?_; refine vo_stWA rfl rfl ?_) | (refine vo_isPt rfl ?_; refine vo_stBA rfl rfl ?_) | (refine vo_stO rfl rfl (by rfl) (by first | rfl | assumption) (by first | assumption | (simp; done) | (simp; omega) | omega) rfl ?_; skip)) | (refine vo_isCall ?_; first | (refine vo_isApp ?_; first | (refine vo_append0A rfl rfl rfl ?_; intro _ _ _ _) | (refine vo_appendA rfl rfl rfl ?_; intro _ _ _ _)) | (refine vo_isCopy ?_; refine vo_copyB rfl rfl rfl (by assumption) (by assumption) (by assumption) (by assumption) ?_) | refine vo_yield rfl rfl rfl rfl rfl ?_ | refine vo_callV rfl rfl rfl (vc_in rfl rfl ?_)) | refine vo_convRow rfl rfl ?_ | (refine vo_isBs ?_; refine vo_buildSlice rfl rfl rfl (by decide) (by repeat' (first | exact trivial | rfl | assumption | refine ⟨?_, ?_⟩ | (simp; done) | (simp; omega))) (by decide) rfl ?_; intro _) | (refine vo_buildSlice0 rfl ?_; intro _) | fail)
        refine ⟨.inr (sei _ _ _), ?_⟩
        refine va_takeA 13 rfl rfl rfl rfl ?_
        refine va_done (by kernel_rfl) ?_
        refine ⟨rfl, _, by (repeat' (first | exact Sub.nil _ | refine Sub.cons rfl rfl ?_ | refine Sub.cons rfl ?_ ?_)), ?_⟩
        dsimp only
        exact sei _ _ _
      · (first | (refine vo_box rfl rfl rfl ?_; intro _) | (refine vo_alloc rfl ?_; intro _) | (refine vo_isStore ?_; first | (refine vo_isPt0 rfl ?_; refine vo_stWA rfl rfl ?_) | (refine vo_isPt rfl ?_; refine vo_stBA rfl rfl ?_) | (refine vo_stO rfl rfl (by rfl) (by first | rfl | assumption) (by first | assumption | (simp; done) | (simp; omega) | omega) rfl ?_; skip)) | (refine vo_isCall ?_; first | (refine vo_isApp ?_; first | (refine vo_append0A rfl rfl rfl ?_; intro _ _ _ _) | (refine vo_appendA rfl rfl rfl ?_; intro _ _ _ _)) | (refine vo_isCopy ?_; refine vo_copyB rfl rfl rfl (by assumption) (by assumption) (by assumption) (by assumption) ?_) | refine vo_yield rfl rfl rfl rfl rfl ?_ | refine vo_callV rfl rfl rfl (vc_in rfl rfl ?_)) | refine vo_convRow rfl rfl ?_ | (refine vo_isBs ?_; refine vo_buildSlice rfl rfl rfl (by decide) (by repeat' (first | exact trivial | rfl | assumption | refine ⟨?_, ?_⟩ | (simp; done) | (simp; omega))) (by decide) rfl ?_; intro _) | (refine vo_buildSlice0 rfl ?_; intro _) | fail)
        refine ⟨.inr (sei _ _ _), ?_⟩
        refine va_one 7 (by kernel_rfl) rfl rfl ?_
        first | refine vo_call rfl rfl ?_ | refine vo_callV rfl rfl rfl ?_
        refine vc_mono (lfind20_vc w0 _ a c ls (fromT x) x.nonce rfl h D.mayL.srt hfo hxn) ?_
        rintro v L' ⟨rfl, rfl⟩
        rw [hthere]
        refine ⟨.inr (sei _ _ _), ?_⟩
        refine va_takeA 8 rfl rfl rfl rfl ?_
        refine va_takeA 9 rfl rfl rfl rfl ?_
        refine va_takeA 10 rfl rfl rfl rfl ?_
        refine va_one 12 (by kernel_rfl) rfl rfl ?_
        (first | (refine vo_box rfl rfl rfl ?_; intro _) | (refine vo_alloc rfl ?_; intro _) | (refine vo_isStore ?_; first | (refine vo_isPt0 rfl ?_; refine vo_stWA rfl rfl ?_) | (refine vo_isPt rfl ?_; refine vo_stBA rfl rfl ?_) | (refine vo_stO rfl rfl (by rfl) (by first | rfl | assumption) (by first | assumption | (simp; done) | (simp; omega) | omega) rfl ?_; skip)) | (refine vo_isCall ?_; first | (refine vo_isApp ?_; first | (refine vo_append0A rfl rfl rfl ?_; intro _ _ _ _) | (refine vo_appendA rfl rfl rfl ?_; intro _ _ _ _)) | (refine vo_isCopy ?_; refine vo_copyB rfl rfl rfl (by assumption) (by assumption) (by assumption) (by assumption) ?_) | refine vo_yield rfl rfl rfl rfl rfl ?_ | refine vo_callV rfl rfl rfl (vc_in rfl rfl ?_)) | refine vo_convRow rfl rfl ?_ | (refine vo_isBs ?_; refine vo_buildSlice rfl rfl rfl (by decide) (by repeat' (first | exact trivial | rfl | assumption | refine ⟨?_, ?_⟩ | (simp; done) | (simp; omega))) (by decide) rfl ?_; intro _) | (refine vo_buildSlice0 rfl ?_; intro _) | fail)
        refine ⟨.inr (sei _ _ _), ?_⟩
        refine va_takeA 13 rfl rfl rfl rfl ?_
        refine va_done (by kernel_rfl) ?_
        refine ⟨rfl, _, by (repeat' (first | exact Sub.nil _ | refine Sub.cons rfl rfl ?_ | refine Sub.cons rfl ?_ ?_)), ?_⟩
        dsimp only
        exact sei _ _ _
    intro g15
    repeat' (first | (refine go1 ?_; intros) | ((first | refine vl_caseG rfl rfl rfl rfl ?_ ?_ | refine v_cond rfl ?_ ?_) <;> (intro hb; (try simp only [hq1, hq2, hq3, hq4, ne_eq, hq5, hq6, hq7, hq8] at hb); try (exfalso; omega))) | fail)
    refine v_cut Nat [2, 3, 4, 6, 7, 8, 9, 11, 12, 13, 14, 15, 16] rfl (fun q => [(17, .pointer (some ⟨q, 0, none⟩)), (18, .bool false)]) (fun q => [blk q 29 zc, blk g15 29 x.cells, blk g13 58 [.int .u64 x.nonce, .int .u64 N2], blk g12 27 (bvs (fromT x)), blk g8 24 [.slice a1 ms.length c1], ownLs a1 c1 ms, tsA ms, ownTs b1 d1 dr, blk g4 53 [.slice b ns.length d, .int .i64 r], blk g3 24 [.slice a ls.length c]]) ?_ ?_
    · as_aux_lemma =>
      refine v_id ?_
      refine v_draw0 [] (by kernel_rfl) ?_
      refine va_takeA 0 rfl rfl rfl rfl ?_
      refine va_takeA 1 rfl rfl rfl rfl ?_
      refine va_takeA 2 rfl rfl rfl rfl ?_
      refine va_takeA 3 rfl rfl rfl rfl ?_
      refine va_takeA 4 rfl rfl rfl rfl ?_
      refine va_takeA 5 rfl rfl rfl rfl ?_
      refine va_takeA 6 rfl rfl rfl rfl ?_
      refine va_two 7 11 (by kernel_rfl) rfl rfl rfl rfl ?_ ?_
      · first | refine vo_call rfl rfl ?_ | refine vo_callV rfl rfl rfl ?_
        refine vc_mono (lfind20_vc w0 _ a1 c1 ms (fromT x) x.nonce rfl hmo D.mayM.srt hfo hxn) ?_
        rintro v L' ⟨rfl, rfl⟩
        rw [hgone]
        dsimp only
        rw [← hzc]
        refine ⟨.inr (sei _ _ _), ?_⟩
        refine va_takeA 8 rfl rfl rfl rfl ?_
        refine va_takeA 9 rfl rfl rfl rfl ?_
        refine va_takeA 10 rfl rfl rfl rfl ?_
        refine va_one 11 (by kernel_rfl) rfl rfl ?_
        (first | (refine vo_box rfl rfl rfl ?_; intro _) | (refine vo_alloc rfl ?_; intro _) | (refine vo_isStore ?_; first | (refine vo_isPt0 rfl ?_; refine vo_stWA rfl rfl ?_) | (refine vo_isPt rfl ?_; refine vo_stBA rfl rfl ?_) | (refine vo_stO rfl rfl (by rfl) (by first | rfl | assumption) (by first | assumption | (simp; done) | (simp; omega) | omega) rfl ?_; skip)) | (refine vo_isCall ?_; first | (refine vo_isApp ?_; first | (refine vo_append0A rfl rfl rfl ?_; intro _ _ _ _) | (refine vo_appendA rfl rfl rfl ?_; intro _ _ _ _)) | (refine vo_isCopy ?_; refine vo_copyB rfl rfl rfl (by assumption) (by assumption) (by assumption) (by assumption) ?_) | refine vo_yield rfl rfl rfl rfl rfl ?_ | refine vo_callV rfl rfl rfl (vc_in rfl rfl ?_)) | refine vo_convRow rfl rfl ?_ | (refine vo_isBs ?_; refine vo_buildSlice rfl rfl rfl (by decide) (by repeat' (first | exact trivial | rfl | assumption | refine ⟨?_, ?_⟩ | (simp; done) | (simp; omega))) (by decide) rfl ?_; intro _) | (refine vo_buildSlice0 rfl ?_; intro _) | fail)
        refine ⟨.inr (sei _ _ _), ?_⟩
        refine va_one 12 (by kernel_rfl) rfl rfl ?_
        (first | (refine vo_box rfl rfl rfl ?_; intro _) | (refine vo_alloc rfl ?_; intro _) | (refine vo_isStore ?_; first | (refine vo_isPt0 rfl ?_; refine vo_stWA rfl rfl ?_) | (refine vo_isPt rfl ?_; refine vo_stBA rfl rfl ?_) | (refine vo_stO rfl rfl (by rfl) (by first | rfl | assumption) (by first | assumption | (simp; done) | (simp; omega) | omega) rfl ?_; skip)) | (refine vo_isCall ?_; first | (refine vo_isApp ?_; first | (refine vo_append0A rfl rfl rfl ?_; intro _ _ _ _) | (refine vo_appendA rfl rfl rfl ?_; intro _ _ _ _)) | (refine vo_isCopy ?_; refine vo_copyB rfl rfl rfl (by assumption) (by assumption) (by assumption) (by assumption) ?_) | refine vo_yield rfl rfl rfl rfl rfl ?_ | refine vo_callV rfl rfl rfl (vc_in rfl rfl ?_)) | refine vo_convRow rfl rfl ?_ | (refine vo_isBs ?_; refine vo_buildSlice rfl rfl rfl (by decide) (by repeat' (first | exact trivial | rfl | assumption | refine ⟨?_, ?_⟩ | (simp; done) | (simp; omega))) (by decide) rfl ?_; intro _) | (refine vo_buildSlice0 rfl ?_; intro _) | fail)
        refine ⟨.inr (sei _ _ _), ?_⟩
        refine va_takeA 13 rfl rfl rfl rfl ?_
        refine va_done (by kernel_rfl) ?_
        refine ⟨rfl, _, by (repeat' (first | exact Sub.nil _ | refine Sub.cons rfl rfl ?_ | refine Sub.cons rfl ?_ ?_)), ?_⟩
        dsimp only
        exact sei _ _ _
      · (first | (refine vo_box rfl rfl rfl ?_; intro _) | (refine vo_alloc rfl ?_; intro _) | (refine vo_isStore ?_; first | (refine vo_isPt0 rfl ?_; refine vo_stWA rfl rfl ?_) | (refine vo_isPt rfl ?_; refine vo_stBA rfl rfl ?_) | (refine vo_stO rfl rfl (by rfl) (by first | rfl | assumption) (by first | assumption | (simp; done) | (simp; omega) | omega) rfl ?_; skip)) | (refine vo_isCall ?_; first | (refine vo_isApp ?_; first | (refine vo_append0A rfl rfl rfl ?_; intro _ _ _ _) | (refine vo_appendA rfl rfl rfl ?_; intro _ _ _ _)) | (refine vo_isCopy ?_; refine vo_copyB rfl rfl rfl (by assumption) (by assumption) (by assumption) (by assumption) ?_) | refine vo_yield rfl rfl rfl rfl rfl ?_ | refine vo_callV rfl rfl rfl (vc_in rfl rfl ?_)) | refine vo_convRow rfl rfl ?_ | (refine vo_isBs ?_; refine vo_buildSlice rfl rfl rfl (by decide) (by repeat' (first | exact trivial | rfl | assumption | refine ⟨?_, ?_⟩ | (simp; done) | (simp; omega))) (by decide) rfl ?_; intro _) | (refine vo_buildSlice0 rfl ?_; intro _) | fail)
        refine ⟨.inr (sei _ _ _), ?_⟩
        refine va_one 7 (by kernel_rfl) rfl rfl ?_
        first | refine vo_call rfl rfl ?_ | refine vo_callV rfl rfl rfl ?_
        refine vc_mono (lfind20_vc w0 _ a1 c1 ms (fromT x) x.nonce rfl hmo D.mayM.srt hfo hxn) ?_
        rintro v L' ⟨rfl, rfl⟩
        rw [hgone]
        dsimp only
        rw [← hzc]
        refine ⟨.inr (sei _ _ _), ?_⟩
        refine va_takeA 8 rfl rfl rfl rfl ?_
        refine va_takeA 9 rfl rfl rfl rfl ?_
        refine va_takeA 10 rfl rfl rfl rfl ?_
        refine va_one 12 (by kernel_rfl) rfl rfl ?_
        (first | (refine vo_box rfl rfl rfl ?_; intro _) | (refine vo_alloc rfl ?_; intro _) | (refine vo_isStore ?_; first | (refine vo_isPt0 rfl ?_; refine vo_stWA rfl rfl ?_) | (refine vo_isPt rfl ?_; refine vo_stBA rfl rfl ?_) | (refine vo_stO rfl rfl (by rfl) (by first | rfl | assumption) (by first | assumption | (simp; done) | (simp; omega) | omega) rfl ?_; skip)) | (refine vo_isCall ?_; first | (refine vo_isApp ?_; first | (refine vo_append0A rfl rfl rfl ?_; intro _ _ _ _) | (refine vo_appendA rfl rfl rfl ?_; intro _ _ _ _)) | (refine vo_isCopy ?_; refine vo_copyB rfl rfl rfl (by assumption) (by assumption) (by assumption) (by assumption) ?_) | refine vo_yield rfl rfl rfl rfl rfl ?_ | refine vo_callV rfl rfl rfl (vc_in rfl rfl ?_)) | refine vo_convRow rfl rfl ?_ | (refine vo_isBs ?_; refine vo_buildSlice rfl rfl rfl (by decide) (by repeat' (first | exact trivial | rfl | assumption | refine ⟨?_, ?_⟩ | (simp; done) | (simp; omega))) (by decide) rfl ?_; intro _) | (refine vo_buildSlice0 rfl ?_; intro _) | fail)
        refine ⟨.inr (sei _ _ _), ?_⟩
        refine va_takeA 13 rfl rfl rfl rfl ?_
        refine va_done (by kernel_rfl) ?_
        refine ⟨rfl, _, by (repeat' (first | exact Sub.nil _ | refine Sub.cons rfl rfl ?_ | refine Sub.cons rfl ?_ ?_)), ?_⟩
        dsimp only
        exact sei _ _ _
    intro g17
    repeat' (first | (refine go1 ?_; intros) | ((first | refine vl_caseG rfl rfl rfl rfl ?_ ?_ | refine v_cond rfl ?_ ?_) <;> (intro hb; (try simp only [hq1, hq2, hq3, hq4, ne_eq, hq5, hq6, hq7, hq8] at hb); try (exfalso; omega))) | fail)
    (refine v_draw0 [] (by kernel_rfl) ?_ <;> (refine va_takeA 0 rfl rfl rfl rfl ?_) <;> (refine va_take 1 rfl rfl rfl rfl (by kernel_rfl) (fun _ _ _ _ h => h) (SE.ent (by repeat' (first | exact SE.refl _ | refine SE.cons _ ?_ | refine SE.trans (se_drop _ _) ?_)) _) (by (first | (apply vq_isBin; first | exact vq_neS rfl rfl | exact vq_neBoolS rfl rfl | (apply vq_isOp .neq; first | exact vq_neBS rfl rfl (by first | assumption | (simp; done)) | exact vq_neTxS rfl rfl (by assumption)) | (apply vq_isOp .eql; first | exact vq_eqS rfl rfl | exact vq_eqBoolS rfl rfl | exact vq_eqBS rfl rfl (by first | assumption | (simp; done)) | exact vq_eqTxS rfl rfl (by assumption) | exact vq_eqHdS rfl rfl (by assumption) | exact vq_eqRecS rfl rfl (by assumption) | exact vq_eqTx rfl rfl (by assumption) (by assumption))) | (apply vq_isBin; first | exact vq_lt rfl rfl | exact vq_eq rfl rfl | exact vq_ne rfl rfl | (apply vq_isOp .add; exact vq_add rfl rfl (by first | exact wr_add (by omega) | exact wu_add (by omega) | exact wr_id (by omega) (by omega) | rfl)) | (apply vq_isOp .sub; exact vq_minus rfl rfl (by first | exact wr_sub (by omega) (by omega) | exact wu_sub (by omega) (by omega) | exact wr_id (by omega) (by omega) | rfl)) | exact vq_gt rfl rfl | exact vq_le rfl rfl | exact vq_ge rfl rfl | (apply vq_isOp .mul; exact vq_mul rfl rfl (by first | exact wr_mul (by omega) | exact wr_id (by omega) (by omega) | rfl)) | (apply vq_isOp .or; exact vq_or rfl rfl (by rfl)) | (apply vq_isOp .and; exact vq_and rfl rfl (by rfl)) | (apply vq_isOp .xor; exact vq_xor rfl rfl (by rfl)) | (apply vq_isOp .shl; exact vq_shl rfl rfl (by omega) (by rfl)) | (apply vq_isOp .shr; exact vq_shr rfl rfl (by omega) (by rfl)) | (apply vq_isOp .quo; exact vq_quo rfl rfl (by decide) (by first | exact q8_i64 (by omega) | exact q2_u8 (by omega) | exact q4_i64 (by omega) | assumption | rfl)) | (apply vq_isOp .rem; exact vq_rem rfl rfl (by decide) (by first | exact r8 | exact r2 | exact r4 | exact r64 | assumption | rfl)) | exact vq_eqNil rfl rfl | exact vq_eqBool rfl rfl | (apply vq_isOp .eql; exact vq_eqB rfl rfl (by first | assumption | (simp; done)) (by first | assumption | (simp; done))) | (apply vq_isOp .neq; first | exact vq_neBool rfl rfl | exact vq_neB rfl rfl (by first | assumption | (simp; done)) (by first | assumption | (simp; done)))))) ?_) <;> (refine va_takeA 2 rfl rfl rfl rfl ?_) <;> (first | refine va_takeGA 3 rfl rfl rfl rfl rfl rfl rfl rfl ?_ | refine va_passGA 3 rfl rfl rfl rfl rfl rfl rfl rfl ?_ | (refine va_caseG 3 rfl rfl rfl rfl rfl ?_ ?_ <;> (intro hb; (try simp only [hq1, hq2, hq3, hq4, ne_eq, hq5, hq6, hq7, hq8] at hb); try (exfalso; omega)) <;> first | refine va_takeGA 3 rfl rfl rfl rfl rfl rfl rfl rfl ?_ | refine va_passGA 3 rfl rfl rfl rfl rfl rfl rfl rfl ?_)) <;> (first | refine va_takeGA 4 rfl rfl rfl rfl rfl rfl rfl rfl ?_ | refine va_passGA 4 rfl rfl rfl rfl rfl rfl rfl rfl ?_ | (refine va_caseG 4 rfl rfl rfl rfl rfl ?_ ?_ <;> (intro hb; (try simp only [hq1, hq2, hq3, hq4, ne_eq, hq5, hq6, hq7, hq8] at hb); try (exfalso; omega)) <;> first | refine va_takeGA 4 rfl rfl rfl rfl rfl rfl rfl rfl ?_ | refine va_passGA 4 rfl rfl rfl rfl rfl rfl rfl rfl ?_)) <;> (first | refine va_takeGA 5 rfl rfl rfl rfl rfl rfl rfl rfl ?_ | refine va_passGA 5 rfl rfl rfl rfl rfl rfl rfl rfl ?_ | (refine va_caseG 5 rfl rfl rfl rfl rfl ?_ ?_ <;> (intro hb; (try simp only [hq1, hq2, hq3, hq4, ne_eq, hq5, hq6, hq7, hq8] at hb); try (exfalso; omega)) <;> first | refine va_takeGA 5 rfl rfl rfl rfl rfl rfl rfl rfl ?_ | refine va_passGA 5 rfl rfl rfl rfl rfl rfl rfl rfl ?_)) <;> (first | refine va_takeGA 6 rfl rfl rfl rfl rfl rfl rfl rfl ?_ | refine va_passGA 6 rfl rfl rfl rfl rfl rfl rfl rfl ?_ | (refine va_caseG 6 rfl rfl rfl rfl rfl ?_ ?_ <;> (intro hb; (try simp only [hq1, hq2, hq3, hq4, ne_eq, hq5, hq6, hq7, hq8] at hb); try (exfalso; omega)) <;> first | refine va_takeGA 6 rfl rfl rfl rfl rfl rfl rfl rfl ?_ | refine va_passGA 6 rfl rfl rfl rfl rfl rfl rfl rfl ?_)) <;> (first | refine va_takeGA 7 rfl rfl rfl rfl rfl rfl rfl rfl ?_ | refine va_passGA 7 rfl rfl rfl rfl rfl rfl rfl rfl ?_ | (refine va_caseG 7 rfl rfl rfl rfl rfl ?_ ?_ <;> (intro hb; (try simp only [hq1, hq2, hq3, hq4, ne_eq, hq5, hq6, hq7, hq8] at hb); try (exfalso; omega)) <;> first | refine va_takeGA 7 rfl rfl rfl rfl rfl rfl rfl rfl ?_ | refine va_passGA 7 rfl rfl rfl rfl rfl rfl rfl rfl ?_)) <;> (first | refine va_takeGA 8 rfl rfl rfl rfl rfl rfl rfl rfl ?_ | refine va_passGA 8 rfl rfl rfl rfl rfl rfl rfl rfl ?_ | (refine va_caseG 8 rfl rfl rfl rfl rfl ?_ ?_ <;> (intro hb; (try simp only [hq1, hq2, hq3, hq4, ne_eq, hq5, hq6, hq7, hq8] at hb); try (exfalso; omega)) <;> first | refine va_takeGA 8 rfl rfl rfl rfl rfl rfl rfl rfl ?_ | refine va_passGA 8 rfl rfl rfl rfl rfl rfl rfl rfl ?_)) <;> (first | refine va_takeGA 9 rfl rfl rfl rfl rfl rfl rfl rfl ?_ | refine va_passGA 9 rfl rfl rfl rfl rfl rfl rfl rfl ?_ | (refine va_caseG 9 rfl rfl rfl rfl rfl ?_ ?_ <;> (intro hb; (try simp only [hq1, hq2, hq3, hq4, ne_eq, hq5, hq6, hq7, hq8] at hb); try (exfalso; omega)) <;> first | refine va_takeGA 9 rfl rfl rfl rfl rfl rfl rfl rfl ?_ | refine va_passGA 9 rfl rfl rfl rfl rfl rfl rfl rfl ?_)) <;> (first | refine va_takeG 10 rfl rfl rfl rfl rfl rfl rfl rfl (by kernel_rfl) (fun _ _ _ _ h => h) (SE.ent (by repeat' (first | exact SE.refl _ | refine SE.cons _ ?_ | refine SE.trans (se_drop _ _) ?_)) _) (by (first | (apply vq_isBin; first | exact vq_neS rfl rfl | exact vq_neBoolS rfl rfl | (apply vq_isOp .neq; first | exact vq_neBS rfl rfl (by first | assumption | (simp; done)) | exact vq_neTxS rfl rfl (by assumption)) | (apply vq_isOp .eql; first | exact vq_eqS rfl rfl | exact vq_eqBoolS rfl rfl | exact vq_eqBS rfl rfl (by first | assumption | (simp; done)) | exact vq_eqTxS rfl rfl (by assumption) | exact vq_eqHdS rfl rfl (by assumption) | exact vq_eqRecS rfl rfl (by assumption) | exact vq_eqTx rfl rfl (by assumption) (by assumption))) | (apply vq_isBin; first | exact vq_lt rfl rfl | exact vq_eq rfl rfl | exact vq_ne rfl rfl | (apply vq_isOp .add; exact vq_add rfl rfl (by first | exact wr_add (by omega) | exact wu_add (by omega) | exact wr_id (by omega) (by omega) | rfl)) | (apply vq_isOp .sub; exact vq_minus rfl rfl (by first | exact wr_sub (by omega) (by omega) | exact wu_sub (by omega) (by omega) | exact wr_id (by omega) (by omega) | rfl)) | exact vq_gt rfl rfl | exact vq_le rfl rfl | exact vq_ge rfl rfl | (apply vq_isOp .mul; exact vq_mul rfl rfl (by first | exact wr_mul (by omega) | exact wr_id (by omega) (by omega) | rfl)) | (apply vq_isOp .or; exact vq_or rfl rfl (by rfl)) | (apply vq_isOp .and; exact vq_and rfl rfl (by rfl)) | (apply vq_isOp .xor; exact vq_xor rfl rfl (by rfl)) | (apply vq_isOp .shl; exact vq_shl rfl rfl (by omega) (by rfl)) | (apply vq_isOp .shr; exact vq_shr rfl rfl (by omega) (by rfl)) | (apply vq_isOp .quo; exact vq_quo rfl rfl (by decide) (by first | exact q8_i64 (by omega) | exact q2_u8 (by omega) | exact q4_i64 (by omega) | assumption | rfl)) | (apply vq_isOp .rem; exact vq_rem rfl rfl (by decide) (by first | exact r8 | exact r2 | exact r4 | exact r64 | assumption | rfl)) | exact vq_eqNil rfl rfl | exact vq_eqBool rfl rfl | (apply vq_isOp .eql; exact vq_eqB rfl rfl (by first | assumption | (simp; done)) (by first | assumption | (simp; done))) | (apply vq_isOp .neq; first | exact vq_neBool rfl rfl | exact vq_neB rfl rfl (by first | assumption | (simp; done)) (by first | assumption | (simp; done)))))) ?_ | refine va_passGA 10 rfl rfl rfl rfl rfl rfl rfl rfl ?_ | (refine va_caseG 10 rfl rfl rfl rfl rfl ?_ ?_ <;> (intro hb; (try simp only [hq1, hq2, hq3, hq4, ne_eq, hq5, hq6, hq7, hq8] at hb); try (exfalso; omega)) <;> first | refine va_takeG 10 rfl rfl rfl rfl rfl rfl rfl rfl (by kernel_rfl) (fun _ _ _ _ h => h) (SE.ent (by repeat' (first | exact SE.refl _ | refine SE.cons _ ?_ | refine SE.trans (se_drop _ _) ?_)) _) (by (first | (apply vq_isBin; first | exact vq_neS rfl rfl | exact vq_neBoolS rfl rfl | (apply vq_isOp .neq; first | exact vq_neBS rfl rfl (by first | assumption | (simp; done)) | exact vq_neTxS rfl rfl (by assumption)) | (apply vq_isOp .eql; first | exact vq_eqS rfl rfl | exact vq_eqBoolS rfl rfl | exact vq_eqBS rfl rfl (by first | assumption | (simp; done)) | exact vq_eqTxS rfl rfl (by assumption) | exact vq_eqHdS rfl rfl (by assumption) | exact vq_eqRecS rfl rfl (by assumption) | exact vq_eqTx rfl rfl (by assumption) (by assumption))) | (apply vq_isBin; first | exact vq_lt rfl rfl | exact vq_eq rfl rfl | exact vq_ne rfl rfl | (apply vq_isOp .add; exact vq_add rfl rfl (by first | exact wr_add (by omega) | exact wu_add (by omega) | exact wr_id (by omega) (by omega) | rfl)) | (apply vq_isOp .sub; exact vq_minus rfl rfl (by first | exact wr_sub (by omega) (by omega) | exact wu_sub (by omega) (by omega) | exact wr_id (by omega) (by omega) | rfl)) | exact vq_gt rfl rfl | exact vq_le rfl rfl | exact vq_ge rfl rfl | (apply vq_isOp .mul; exact vq_mul rfl rfl (by first | exact wr_mul (by omega) | exact wr_id (by omega) (by omega) | rfl)) | (apply vq_isOp .or; exact vq_or rfl rfl (by rfl)) | (apply vq_isOp .and; exact vq_and rfl rfl (by rfl)) | (apply vq_isOp .xor; exact vq_xor rfl rfl (by rfl)) | (apply vq_isOp .shl; exact vq_shl rfl rfl (by omega) (by rfl)) | (apply vq_isOp .shr; exact vq_shr rfl rfl (by omega) (by rfl)) | (apply vq_isOp .quo; exact vq_quo rfl rfl (by decide) (by first | exact q8_i64 (by omega) | exact q2_u8 (by omega) | exact q4_i64 (by omega) | assumption | rfl)) | (apply vq_isOp .rem; exact vq_rem rfl rfl (by decide) (by first | exact r8 | exact r2 | exact r4 | exact r64 | assumption | rfl)) | exact vq_eqNil rfl rfl | exact vq_eqBool rfl rfl | (apply vq_isOp .eql; exact vq_eqB rfl rfl (by first | assumption | (simp; done)) (by first | assumption | (simp; done))) | (apply vq_isOp .neq; first | exact vq_neBool rfl rfl | exact vq_neB rfl rfl (by first | assumption | (simp; done)) (by first | assumption | (simp; done)))))) ?_ | refine va_passGA 10 rfl rfl rfl rfl rfl rfl rfl rfl ?_)) <;> (refine va_takeA 11 rfl rfl rfl rfl ?_) <;> (refine va_takeA 12 rfl rfl rfl rfl ?_) <;> (first | refine va_takeGA 13 rfl rfl rfl rfl rfl rfl rfl rfl ?_ | refine va_passGA 13 rfl rfl rfl rfl rfl rfl rfl rfl ?_ | (refine va_caseG 13 rfl rfl rfl rfl rfl ?_ ?_ <;> (intro hb; (try simp only [hq1, hq2, hq3, hq4, ne_eq, hq5, hq6, hq7, hq8] at hb); try (exfalso; omega)) <;> first | refine va_takeGA 13 rfl rfl rfl rfl rfl rfl rfl rfl ?_ | refine va_passGA 13 rfl rfl rfl rfl rfl rfl rfl rfl ?_)) <;> (first | refine va_takeGA 14 rfl rfl rfl rfl rfl rfl rfl rfl ?_ | refine va_passGA 14 rfl rfl rfl rfl rfl rfl rfl rfl ?_ | (refine va_caseG 14 rfl rfl rfl rfl rfl ?_ ?_ <;> (intro hb; (try simp only [hq1, hq2, hq3, hq4, ne_eq, hq5, hq6, hq7, hq8] at hb); try (exfalso; omega)) <;> first | refine va_takeGA 14 rfl rfl rfl rfl rfl rfl rfl rfl ?_ | refine va_passGA 14 rfl rfl rfl rfl rfl rfl rfl rfl ?_)) <;> (refine va_takeA 15 rfl rfl rfl rfl ?_) <;> (refine va_takeA 16 rfl rfl rfl rfl ?_) <;> (first | refine va_takeGA 17 rfl rfl rfl rfl rfl rfl rfl rfl ?_ | refine va_passGA 17 rfl rfl rfl rfl rfl rfl rfl rfl ?_ | (refine va_caseG 17 rfl rfl rfl rfl rfl ?_ ?_ <;> (intro hb; (try simp only [hq1, hq2, hq3, hq4, ne_eq, hq5, hq6, hq7, hq8] at hb); try (exfalso; omega)) <;> first | refine va_takeGA 17 rfl rfl rfl rfl rfl rfl rfl rfl ?_ | refine va_passGA 17 rfl rfl rfl rfl rfl rfl rfl rfl ?_)) <;> (first | refine va_takeGA 18 rfl rfl rfl rfl rfl rfl rfl rfl ?_ | refine va_passGA 18 rfl rfl rfl rfl rfl rfl rfl rfl ?_ | (refine va_caseG 18 rfl rfl rfl rfl rfl ?_ ?_ <;> (intro hb; (try simp only [hq1, hq2, hq3, hq4, ne_eq, hq5, hq6, hq7, hq8] at hb); try (exfalso; omega)) <;> first | refine va_takeGA 18 rfl rfl rfl rfl rfl rfl rfl rfl ?_ | refine va_passGA 18 rfl rfl rfl rfl rfl rfl rfl rfl ?_)) <;> (first | refine va_takeGA 19 rfl rfl rfl rfl rfl rfl rfl rfl ?_ | refine va_passGA 19 rfl rfl rfl rfl rfl rfl rfl rfl ?_ | (refine va_caseG 19 rfl rfl rfl rfl rfl ?_ ?_ <;> (intro hb; (try simp only [hq1, hq2, hq3, hq4, ne_eq, hq5, hq6, hq7, hq8] at hb); try (exfalso; omega)) <;> first | refine va_takeGA 19 rfl rfl rfl rfl rfl rfl rfl rfl ?_ | refine va_passGA 19 rfl rfl rfl rfl rfl rfl rfl rfl ?_)) <;> (first | refine va_takeGA 20 rfl rfl rfl rfl rfl rfl rfl rfl ?_ | refine va_passGA 20 rfl rfl rfl rfl rfl rfl rfl rfl ?_ | (refine va_caseG 20 rfl rfl rfl rfl rfl ?_ ?_ <;> (intro hb; (try simp only [hq1, hq2, hq3, hq4, ne_eq, hq5, hq6, hq7, hq8] at hb); try (exfalso; omega)) <;> first | refine va_takeGA 20 rfl rfl rfl rfl rfl rfl rfl rfl ?_ | refine va_passGA 20 rfl rfl rfl rfl rfl rfl rfl rfl ?_)) <;> (first | refine va_takeGA 21 rfl rfl rfl rfl rfl rfl rfl rfl ?_ | refine va_passGA 21 rfl rfl rfl rfl rfl rfl rfl rfl ?_ | (refine va_caseG 21 rfl rfl rfl rfl rfl ?_ ?_ <;> (intro hb; (try simp only [hq1, hq2, hq3, hq4, ne_eq, hq5, hq6, hq7, hq8] at hb); try (exfalso; omega)) <;> first | refine va_takeGA 21 rfl rfl rfl rfl rfl rfl rfl rfl ?_ | refine va_passGA 21 rfl rfl rfl rfl rfl rfl rfl rfl ?_)) <;> (first | refine va_takeG 22 rfl rfl rfl rfl rfl rfl rfl rfl (by kernel_rfl) (fun _ _ _ _ h => h) (SE.ent (by repeat' (first | exact SE.refl _ | refine SE.cons _ ?_ | refine SE.trans (se_drop _ _) ?_)) _) (by (first | (apply vq_isBin; first | exact vq_neS rfl rfl | exact vq_neBoolS rfl rfl | (apply vq_isOp .neq; first | exact vq_neBS rfl rfl (by first | assumption | (simp; done)) | exact vq_neTxS rfl rfl (by assumption)) | (apply vq_isOp .eql; first | exact vq_eqS rfl rfl | exact vq_eqBoolS rfl rfl | exact vq_eqBS rfl rfl (by first | assumption | (simp; done)) | exact vq_eqTxS rfl rfl (by assumption) | exact vq_eqHdS rfl rfl (by assumption) | exact vq_eqRecS rfl rfl (by assumption) | exact vq_eqTx rfl rfl (by assumption) (by assumption))) | (apply vq_isBin; first | exact vq_lt rfl rfl | exact vq_eq rfl rfl | exact vq_ne rfl rfl | (apply vq_isOp .add; exact vq_add rfl rfl (by first | exact wr_add (by omega) | exact wu_add (by omega) | exact wr_id (by omega) (by omega) | rfl)) | (apply vq_isOp .sub; exact vq_minus rfl rfl (by first | exact wr_sub (by omega) (by omega) | exact wu_sub (by omega) (by omega) | exact wr_id (by omega) (by omega) | rfl)) | exact vq_gt rfl rfl | exact vq_le rfl rfl | exact vq_ge rfl rfl | (apply vq_isOp .mul; exact vq_mul rfl rfl (by first | exact wr_mul (by omega) | exact wr_id (by omega) (by omega) | rfl)) | (apply vq_isOp .or; exact vq_or rfl rfl (by rfl)) | (apply vq_isOp .and; exact vq_and rfl rfl (by rfl)) | (apply vq_isOp .xor; exact vq_xor rfl rfl (by rfl)) | (apply vq_isOp .shl; exact vq_shl rfl rfl (by omega) (by rfl)) | (apply vq_isOp .shr; exact vq_shr rfl rfl (by omega) (by rfl)) | (apply vq_isOp .quo; exact vq_quo rfl rfl (by decide) (by first | exact q8_i64 (by omega) | exact q2_u8 (by omega) | exact q4_i64 (by omega) | assumption | rfl)) | (apply vq_isOp .rem; exact vq_rem rfl rfl (by decide) (by first | exact r8 | exact r2 | exact r4 | exact r64 | assumption | rfl)) | exact vq_eqNil rfl rfl | exact vq_eqBool rfl rfl | (apply vq_isOp .eql; exact vq_eqB rfl rfl (by first | assumption | (simp; done)) (by first | assumption | (simp; done))) | (apply vq_isOp .neq; first | exact vq_neBool rfl rfl | exact vq_neB rfl rfl (by first | assumption | (simp; done)) (by first | assumption | (simp; done)))))) ?_ | refine va_passGA 22 rfl rfl rfl rfl rfl rfl rfl rfl ?_ | (refine va_caseG 22 rfl rfl rfl rfl rfl ?_ ?_ <;> (intro hb; (try simp only [hq1, hq2, hq3, hq4, ne_eq, hq5, hq6, hq7, hq8] at hb); try (exfalso; omega)) <;> first | refine va_takeG 22 rfl rfl rfl rfl rfl rfl rfl rfl (by kernel_rfl) (fun _ _ _ _ h => h) (SE.ent (by repeat' (first | exact SE.refl _ | refine SE.cons _ ?_ | refine SE.trans (se_drop _ _) ?_)) _) (by (first | (apply vq_isBin; first | exact vq_neS rfl rfl | exact vq_neBoolS rfl rfl | (apply vq_isOp .neq; first | exact vq_neBS rfl rfl (by first | assumption | (simp; done)) | exact vq_neTxS rfl rfl (by assumption)) | (apply vq_isOp .eql; first | exact vq_eqS rfl rfl | exact vq_eqBoolS rfl rfl | exact vq_eqBS rfl rfl (by first | assumption | (simp; done)) | exact vq_eqTxS rfl rfl (by assumption) | exact vq_eqHdS rfl rfl (by assumption) | exact vq_eqRecS rfl rfl (by assumption) | exact vq_eqTx rfl rfl (by assumption) (by assumption))) | (apply vq_isBin; first | exact vq_lt rfl rfl | exact vq_eq rfl rfl | exact vq_ne rfl rfl | (apply vq_isOp .add; exact vq_add rfl rfl (by first | exact wr_add (by omega) | exact wu_add (by omega) | exact wr_id (by omega) (by omega) | rfl)) | (apply vq_isOp .sub; exact vq_minus rfl rfl (by first | exact wr_sub (by omega) (by omega) | exact wu_sub (by omega) (by omega) | exact wr_id (by omega) (by omega) | rfl)) | exact vq_gt rfl rfl | exact vq_le rfl rfl | exact vq_ge rfl rfl | (apply vq_isOp .mul; exact vq_mul rfl rfl (by first | exact wr_mul (by omega) | exact wr_id (by omega) (by omega) | rfl)) | (apply vq_isOp .or; exact vq_or rfl rfl (by rfl)) | (apply vq_isOp .and; exact vq_and rfl rfl (by rfl)) | (apply vq_isOp .xor; exact vq_xor rfl rfl (by rfl)) | (apply vq_isOp .shl; exact vq_shl rfl rfl (by omega) (by rfl)) | (apply vq_isOp .shr; exact vq_shr rfl rfl (by omega) (by rfl)) | (apply vq_isOp .quo; exact vq_quo rfl rfl (by decide) (by first | exact q8_i64 (by omega) | exact q2_u8 (by omega) | exact q4_i64 (by omega) | assumption | rfl)) | (apply vq_isOp .rem; exact vq_rem rfl rfl (by decide) (by first | exact r8 | exact r2 | exact r4 | exact r64 | assumption | rfl)) | exact vq_eqNil rfl rfl | exact vq_eqBool rfl rfl | (apply vq_isOp .eql; exact vq_eqB rfl rfl (by first | assumption | (simp; done)) (by first | assumption | (simp; done))) | (apply vq_isOp .neq; first | exact vq_neBool rfl rfl | exact vq_neB rfl rfl (by first | assumption | (simp; done)) (by first | assumption | (simp; done)))))) ?_ | refine va_passGA 22 rfl rfl rfl rfl rfl rfl rfl rfl ?_)) <;> (refine va_takeA 23 rfl rfl rfl rfl ?_) <;> (refine va_takeA 24 rfl rfl rfl rfl ?_) <;> (first | refine va_takeGA 25 rfl rfl rfl rfl rfl rfl rfl rfl ?_ | refine va_passGA 25 rfl rfl rfl rfl rfl rfl rfl rfl ?_ | (refine va_caseG 25 rfl rfl rfl rfl rfl ?_ ?_ <;> (intro hb; (try simp only [hq1, hq2, hq3, hq4, ne_eq, hq5, hq6, hq7, hq8] at hb); try (exfalso; omega)) <;> first | refine va_takeGA 25 rfl rfl rfl rfl rfl rfl rfl rfl ?_ | refine va_passGA 25 rfl rfl rfl rfl rfl rfl rfl rfl ?_)) <;> (refine va_takeA 26 rfl rfl rfl rfl ?_) <;> (refine va_done (by kernel_rfl) ?_))
    repeat' (first | (refine go1 ?_; intros) | ((first | refine vl_caseG rfl rfl rfl rfl ?_ ?_ | refine v_cond rfl ?_ ?_) <;> (intro hb; (try simp only [hq1, hq2, hq3, hq4, ne_eq, hq5, hq6, hq7, hq8] at hb); try (exfalso; omega))) | fail)
    all_goals first | (exfalso; omega) | skip
    exact ⟨rfl, i + 1, by omega, by omega, by (repeat' (first | exact Sub.nil _ | refine Sub.cons rfl rfl ?_ | refine Sub.cons rfl ?_ ?_)), sei _ _ _⟩
  as_aux_lemma =>
    obtain rfl : i = dr.length := by omega
    repeat' (first | (refine go1 ?_; intros) | ((first | refine vl_caseG rfl rfl rfl rfl ?_ ?_ | refine v_cond rfl ?_ ?_) <;> (intro hb; (try simp only [hq1, hq2, hq3, hq4, ne_eq, hq5, hq6, hq7, hq8] at hb); try (exfalso; omega))) | fail)
    refine v_loopS Nat [2, 3, 4, 6, 7, 8, 9] rfl (fun i => [(19, .int .i64 i)]) (fun i => i ≤ ms.length) (fun i => ms.length - i) 0 (Nat.zero_le _) (by (repeat' (first | exact Sub.nil _ | refine Sub.cons rfl rfl ?_ | refine Sub.cons rfl ?_ ?_))) (fun i hi => ?_)
    have hml := hmo.len
    by_cases hlt : i < ms.length
    rotate_left
    · obtain rfl : i = ms.length := by omega
      have hfew := D.few
      repeat' (first | (refine go1 ?_; intros) | ((first | refine vl_caseG rfl rfl rfl rfl ?_ ?_ | refine v_cond rfl ?_ ?_) <;> (intro hb; (try simp only [hq1, hq2, hq3, hq4, ne_eq, hq5, hq6, hq7, hq8] at hb); try (exfalso; omega))) | fail)
      all_goals first | (exfalso; omega) | skip
      all_goals
        refine vl_o rfl (vo_call rfl rfl ?_)
        refine vc_mono (scheck_vc w0 _ a1 c1 ms rfl hmo) ?_
        rintro v L' ⟨rfl, rfl⟩
        rw [show mayS ms = true from mayS_iff.2 D.mayM]
        repeat' (first | (refine go1 ?_; intros) | ((first | refine vl_caseG rfl rfl rfl rfl ?_ ?_ | refine v_cond rfl ?_ ?_) <;> (intro hb; (try simp only [hq1, hq2, hq3, hq4, ne_eq, hq5, hq6, hq7, hq8] at hb); try (exfalso; omega))) | fail)
        all_goals first | exact rfl | (exfalso; omega)
    have e0 := hmo.e0 i hlt
    have e1 := hmo.e1 i hlt
    have hpos := hmo.pos i hlt
    have lok := hmo.at i hlt
    have hol := lok.own
    have hts := lok.ts
    have htl := hts.len
    haveI hvm : RdLs w0 [tsA ms, ownTs b1 d1 dr, blk g4 53 [.slice b ns.length d, .int .i64 r], blk g3 24 [.slice a ls.length c]] ms := inferInstance
    haveI := hvm.at i hlt
    have hleft := D.left _ (List.getElem_mem hlt)
    generalize ms[i] = l at *
    have hN2 : ((accG ns r l.own).1 : Int) ≤ 18446744073709551615 := by
      have := nonceA_lt ns r l.own
      unfold nonceA at this
      omega
    repeat' (first | (refine go1 ?_; intros) | ((first | refine vl_caseG rfl rfl rfl rfl ?_ ?_ | refine v_cond rfl ?_ ?_) <;> (intro hb; (try simp only [hq1, hq2, hq3, hq4, ne_eq, hq5, hq6, hq7, hq8] at hb); try (exfalso; omega))) | fail)
    refine v_cut Nat [2, 3, 4, 6, 7, 8, 9, 19] rfl (fun q => [(20, .pointer (some ⟨q, 0, none⟩)), (21, .int .i64 0)]) (fun q => [blk q 58 [.int .u64 (accG ns r l.own).1, .int .u64 (accG ns r l.own).2], blk g8 24 [.slice a1 ms.length c1], ownLs a1 c1 ms, tsA ms, ownTs b1 d1 dr, blk g4 53 [.slice b ns.length d, .int .i64 r], blk g3 24 [.slice a ls.length c]]) ?_ ?_
    · as_aux_lemma =>
      refine v_id ?_
      refine v_draw0 [] (by kernel_rfl) ?_
      refine va_takeA 0 rfl rfl rfl rfl ?_
      refine va_takeA 1 rfl rfl rfl rfl ?_
      refine va_takeA 2 rfl rfl rfl rfl ?_
      refine va_takeA 3 rfl rfl rfl rfl ?_
      refine va_takeA 4 rfl rfl rfl rfl ?_
      refine va_takeA 5 rfl rfl rfl rfl ?_
      refine va_takeA 6 rfl rfl rfl rfl ?_
      refine va_two 7 11 (by kernel_rfl) rfl rfl rfl rfl ?_ ?_
      · first | refine vo_call rfl rfl ?_ | refine vo_callV rfl rfl rfl ?_
        refine vc_mono (aget_vc w0 _ b d ns r l.own rfl hok hol) ?_
        rintro v L' ⟨rfl, rfl⟩
        rw [if_pos D.st]
        refine ⟨.inr (sei _ _ _), ?_⟩
        refine va_takeA 8 rfl rfl rfl rfl ?_
        refine va_takeA 9 rfl rfl rfl rfl ?_
        refine va_takeA 10 rfl rfl rfl rfl ?_
        refine va_one 11 (by kernel_rfl) rfl rfl ?_
        (first | (refine vo_box rfl rfl rfl ?_; intro _) | (refine vo_alloc rfl ?_; intro _) | (refine vo_isStore ?_; first | (refine vo_isPt0 rfl ?_; refine vo_stWA rfl rfl ?_) | (refine vo_isPt rfl ?_; refine vo_stBA rfl rfl ?_) | (refine vo_stO rfl rfl (by rfl) (by first | rfl | assumption) (by first | assumption | (simp; done) | (simp; omega) | omega) rfl ?_; skip)) | (refine vo_isCall ?_; first | (refine vo_isApp ?_; first | (refine vo_append0A rfl rfl rfl ?_; intro _ _ _ _) | (refine vo_appendA rfl rfl rfl ?_; intro _ _ _ _)) | (refine vo_isCopy ?_; refine vo_copyB rfl rfl rfl (by assumption) (by assumption) (by assumption) (by assumption) ?_) | refine vo_yield rfl rfl rfl rfl rfl ?_ | refine vo_callV rfl rfl rfl (vc_in rfl rfl ?_)) | refine vo_convRow rfl rfl ?_ | (refine vo_isBs ?_; refine vo_buildSlice rfl rfl rfl (by decide) (by repeat' (first | exact trivial | rfl | assumption | refine ⟨?_, ?_⟩ | (simp; done) | (simp; omega))) (by decide) rfl ?_; intro _) | (refine vo_buildSlice0 rfl ?_; intro _) | fail)
        refine ⟨.inr (sei _ _ _), ?_⟩
        refine va_one 12 (by kernel_rfl) rfl rfl ?_
        (first | (refine vo_box rfl rfl rfl ?_; intro _) | (refine vo_alloc rfl ?_; intro _) | (refine vo_isStore ?_; first | (refine vo_isPt0 rfl ?_; refine vo_stWA rfl rfl ?_) | (refine vo_isPt rfl ?_; refine vo_stBA rfl rfl ?_) | (refine vo_stO rfl rfl (by rfl) (by first | rfl | assumption) (by first | assumption | (simp; done) | (simp; omega) | omega) rfl ?_; skip)) | (refine vo_isCall ?_; first | (refine vo_isApp ?_; first | (refine vo_append0A rfl rfl rfl ?_; intro _ _ _ _) | (refine vo_appendA rfl rfl rfl ?_; intro _ _ _ _)) | (refine vo_isCopy ?_; refine vo_copyB rfl rfl rfl (by assumption) (by assumption) (by assumption) (by assumption) ?_) | refine vo_yield rfl rfl rfl rfl rfl ?_ | refine vo_callV rfl rfl rfl (vc_in rfl rfl ?_)) | refine vo_convRow rfl rfl ?_ | (refine vo_isBs ?_; refine vo_buildSlice rfl rfl rfl (by decide) (by repeat' (first | exact trivial | rfl | assumption | refine ⟨?_, ?_⟩ | (simp; done) | (simp; omega))) (by decide) rfl ?_; intro _) | (refine vo_buildSlice0 rfl ?_; intro _) | fail)
        refine ⟨.inr (sei _ _ _), ?_⟩
        refine va_takeA 13 rfl rfl rfl rfl ?_
        refine va_done (by kernel_rfl) ?_
        refine ⟨rfl, _, by (repeat' (first | exact Sub.nil _ | refine Sub.cons rfl rfl ?_ | refine Sub.cons rfl ?_ ?_)), ?_⟩
        dsimp only
        exact sei _ _ _
      · (first | (refine vo_box rfl rfl rfl ?_; intro _) | (refine vo_alloc rfl ?_; intro _) | (refine vo_isStore ?_; first | (refine vo_isPt0 rfl ?_; refine vo_stWA rfl rfl ?_) | (refine vo_isPt rfl ?_; refine vo_stBA rfl rfl ?_) | (refine vo_stO rfl rfl (by rfl) (by first | rfl | assumption) (by first | assumption | (simp; done) | (simp; omega) | omega) rfl ?_; skip)) | (refine vo_isCall ?_; first | (refine vo_isApp ?_; first | (refine vo_append0A rfl rfl rfl ?_; intro _ _ _ _) | (refine vo_appendA rfl rfl rfl ?_; intro _ _ _ _)) | (refine vo_isCopy ?_; refine vo_copyB rfl rfl rfl (by assumption) (by assumption) (by assumption) (by assumption) ?_) | refine vo_yield rfl rfl rfl rfl rfl ?_ | refine vo_callV rfl rfl rfl (vc_in rfl rfl ?_)) | refine vo_convRow rfl rfl ?_ | (refine vo_isBs ?_; refine vo_buildSlice rfl rfl rfl (by decide) (by repeat' (first | exact trivial | rfl | assumption | refine ⟨?_, ?_⟩ | (simp; done) | (simp; omega))) (by decide) rfl ?_; intro _) | (refine vo_buildSlice0 rfl ?_; intro _) | fail)
        refine ⟨.inr (sei _ _ _), ?_⟩
        refine va_one 7 (by kernel_rfl) rfl rfl ?_
        first | refine vo_call rfl rfl ?_ | refine vo_callV rfl rfl rfl ?_
        refine vc_mono (aget_vc w0 _ b d ns r l.own rfl hok hol) ?_
        rintro v L' ⟨rfl, rfl⟩
        rw [if_pos D.st]
        refine ⟨.inr (sei _ _ _), ?_⟩
        refine va_takeA 8 rfl rfl rfl rfl ?_
        refine va_takeA 9 rfl rfl rfl rfl ?_
        refine va_takeA 10 rfl rfl rfl rfl ?_
        refine va_one 12 (by kernel_rfl) rfl rfl ?_
        (first | (refine vo_box rfl rfl rfl ?_; intro _) | (refine vo_alloc rfl ?_; intro _) | (refine vo_isStore ?_; first | (refine vo_isPt0 rfl ?_; refine vo_stWA rfl rfl ?_) | (refine vo_isPt rfl ?_; refine vo_stBA rfl rfl ?_) | (refine vo_stO rfl rfl (by rfl) (by first | rfl | assumption) (by first | assumption | (simp; done) | (simp; omega) | omega) rfl ?_; skip)) | (refine vo_isCall ?_; first | (refine vo_isApp ?_; first | (refine vo_append0A rfl rfl rfl ?_; intro _ _ _ _) | (refine vo_appendA rfl rfl rfl ?_; intro _ _ _ _)) | (refine vo_isCopy ?_; refine vo_copyB rfl rfl rfl (by assumption) (by assumption) (by assumption) (by assumption) ?_) | refine vo_yield rfl rfl rfl rfl rfl ?_ | refine vo_callV rfl rfl rfl (vc_in rfl rfl ?_)) | refine vo_convRow rfl rfl ?_ | (refine vo_isBs ?_; refine vo_buildSlice rfl rfl rfl (by decide) (by repeat' (first | exact trivial | rfl | assumption | refine ⟨?_, ?_⟩ | (simp; done) | (simp; omega))) (by decide) rfl ?_; intro _) | (refine vo_buildSlice0 rfl ?_; intro _) | fail)
        refine ⟨.inr (sei _ _ _), ?_⟩
        refine va_takeA 13 rfl rfl rfl rfl ?_
        refine va_done (by kernel_rfl) ?_
        refine ⟨rfl, _, by (repeat' (first | exact Sub.nil _ | refine Sub.cons rfl rfl ?_ | refine Sub.cons rfl ?_ ?_)), ?_⟩
        dsimp only
        exact sei _ _ _
    intro g20
    generalize (accG ns r l.own).1 = N at *
    generalize (accG ns r l.own).2 = N2 at *
    repeat' (first | (refine go1 ?_; intros) | ((first | refine vl_caseG rfl rfl rfl rfl ?_ ?_ | refine v_cond rfl ?_ ?_) <;> (intro hb; (try simp only [hq1, hq2, hq3, hq4, ne_eq, hq5, hq6, hq7, hq8] at hb); try (exfalso; omega))) | fail)
    refine v_loopS Nat [2, 3, 4, 6, 7, 8, 9, 19, 20, 21] rfl (fun j => [(22, .int .i64 j)]) (fun j => j ≤ l.xs.length) (fun j => l.xs.length - j) 0 (Nat.zero_le _) (by (repeat' (first | exact Sub.nil _ | refine Sub.cons rfl rfl ?_ | refine Sub.cons rfl ?_ ?_))) (fun j hj => ?_)
    by_cases hlt2 : j < l.xs.length
    rotate_left
    · obtain rfl : j = l.xs.length := by omega
      repeat' (first | (refine go1 ?_; intros) | ((first | refine vl_caseG rfl rfl rfl rfl ?_ ?_ | refine v_cond rfl ?_ ?_) <;> (intro hb; (try simp only [hq1, hq2, hq3, hq4, ne_eq, hq5, hq6, hq7, hq8] at hb); try (exfalso; omega))) | fail)
      exact ⟨rfl, i + 1, by omega, by omega, by (repeat' (first | exact Sub.nil _ | refine Sub.cons rfl rfl ?_ | refine Sub.cons rfl ?_ ?_)), sei _ _ _⟩
    have xl := hts.el j hlt2
    have xok := hts.at j hlt2
    have hzl := Tx.len xok
    have hz2 := Tx.f2 xok
    have hzn := xok.nonce
    have hpos2 := hts.pos j hlt2
    obtain ⟨hat, hNle⟩ := hleft _ (List.getElem_mem hlt2)
    have hfq := findQ_some hat
    generalize l.xs[j] = z at *
    haveI ozc : OC z.cells := oc_tx _
    repeat' (first | (refine go1 ?_; intros) | ((first | refine vl_caseG rfl rfl rfl rfl ?_ ?_ | refine v_cond rfl ?_ ?_) <;> (intro hb; (try simp only [hq1, hq2, hq3, hq4, ne_eq, hq5, hq6, hq7, hq8] at hb); try (exfalso; omega))) | fail)
    rename_i g23
    refine v_cut Nat [2, 3, 4, 6, 7, 8, 9, 19, 20, 21, 22, 23] rfl (fun q => [(24, .pointer (some ⟨q, 0, none⟩)), (25, .bool true)]) (fun q => [blk q 29 z.cells, blk g23 29 z.cells, blk g20 58 [.int .u64 N, .int .u64 N2], blk g8 24 [.slice a1 ms.length c1], ownLs a1 c1 ms, tsA ms, ownTs b1 d1 dr, blk g4 53 [.slice b ns.length d, .int .i64 r], blk g3 24 [.slice a ls.length c]]) ?_ ?_
    · as_aux_lemma =>
      refine v_id ?_
      refine v_draw0 [] (by kernel_rfl) ?_
      refine va_takeA 0 rfl rfl rfl rfl ?_
      refine va_takeA 1 rfl rfl rfl rfl ?_
      refine va_takeA 2 rfl rfl rfl rfl ?_
      refine va_takeA 3 rfl rfl rfl rfl ?_
      refine va_takeA 4 rfl rfl rfl rfl ?_
      refine va_takeA 5 rfl rfl rfl rfl ?_
      refine va_takeA 6 rfl rfl rfl rfl ?_
      refine va_takeA 7 rfl rfl rfl rfl ?_
      refine va_takeA 8 rfl rfl rfl rfl ?_
      refine va_two 9 13 (by kernel_rfl) rfl rfl rfl rfl ?_ ?_
      · first | refine vo_call rfl rfl ?_ | refine vo_callV rfl rfl rfl ?_
        refine vc_mono (lfind20_vc w0 _ a c ls l.own z.nonce rfl h D.mayL.srt hol hzn) ?_
        rintro v L' ⟨rfl, rfl⟩
        rw [hfq]
        refine ⟨.inr (sei _ _ _), ?_⟩
        refine va_takeA 10 rfl rfl rfl rfl ?_
        refine va_takeA 11 rfl rfl rfl rfl ?_
        refine va_takeA 12 rfl rfl rfl rfl ?_
        refine va_one 13 (by kernel_rfl) rfl rfl ?_
        (first | (refine vo_box rfl rfl rfl ?_; intro _) | (refine vo_alloc rfl ?_; intro _) | (refine vo_isStore ?_; first | (refine vo_isPt0 rfl ?_; refine vo_stWA rfl rfl ?_) | (refine vo_isPt rfl ?_; refine vo_stBA rfl rfl ?_) | (refine vo_stO rfl rfl (by rfl) (by first | rfl | assumption) (by first | assumption | (simp; done) | (simp; omega) | omega) rfl ?_; skip)) | (refine vo_isCall ?_; first | (refine vo_isApp ?_; first | (refine vo_append0A rfl rfl rfl ?_; intro _ _ _ _) | (refine vo_appendA rfl rfl rfl ?_; intro _ _ _ _)) | (refine vo_isCopy ?_; refine vo_copyB rfl rfl rfl (by assumption) (by assumption) (by assumption) (by assumption) ?_) | refine vo_yield rfl rfl rfl rfl rfl ?_ | refine vo_callV rfl rfl rfl (vc_in rfl rfl ?_)) | refine vo_convRow rfl rfl ?_ | (refine vo_isBs ?_; refine vo_buildSlice rfl rfl rfl (by decide) (by repeat' (first | exact trivial | rfl | assumption | refine ⟨?_, ?_⟩ | (simp; done) | (simp; omega))) (by decide) rfl ?_; intro _) | (refine vo_buildSlice0 rfl ?_; intro _) | fail)
        refine ⟨.inr (sei _ _ _), ?_⟩
        refine va_one 14 (by kernel_rfl) rfl rfl ?_
        (first | (refine vo_box rfl rfl rfl ?_; intro _) | (refine vo_alloc rfl ?_; intro _) | (refine vo_isStore ?_; first | (refine vo_isPt0 rfl ?_; refine vo_stWA rfl rfl ?_) | (refine vo_isPt rfl ?_; refine vo_stBA rfl rfl ?_) | (refine vo_stO rfl rfl (by rfl) (by first | rfl | assumption) (by first | assumption | (simp; done) | (simp; omega) | omega) rfl ?_; skip)) | (refine vo_isCall ?_; first | (refine vo_isApp ?_; first | (refine vo_append0A rfl rfl rfl ?_; intro _ _ _ _) | (refine vo_appendA rfl rfl rfl ?_; intro _ _ _ _)) | (refine vo_isCopy ?_; refine vo_copyB rfl rfl rfl (by assumption) (by assumption) (by assumption) (by assumption) ?_) | refine vo_yield rfl rfl rfl rfl rfl ?_ | refine vo_callV rfl rfl rfl (vc_in rfl rfl ?_)) | refine vo_convRow rfl rfl ?_ | (refine vo_isBs ?_; refine vo_buildSlice rfl rfl rfl (by decide) (by repeat' (first | exact trivial | rfl | assumption | refine ⟨?_, ?_⟩ | (simp; done) | (simp; omega))) (by decide) rfl ?_; intro _) | (refine vo_buildSlice0 rfl ?_; intro _) | fail)
        refine ⟨.inr (sei _ _ _), ?_⟩
        refine va_takeA 15 rfl rfl rfl rfl ?_
        refine va_done (by kernel_rfl) ?_
        refine ⟨rfl, _, by (repeat' (first | exact Sub.nil _ | refine Sub.cons rfl rfl ?_ | refine Sub.cons rfl ?_ ?_)), ?_⟩
        dsimp only
        exact sei _ _ _
      · (first | (refine vo_box rfl rfl rfl ?_; intro _) | (refine vo_alloc rfl ?_; intro _) | (refine vo_isStore ?_; first | (refine vo_isPt0 rfl ?_; refine vo_stWA rfl rfl ?_) | (refine vo_isPt rfl ?_; refine vo_stBA rfl rfl ?_) | (refine vo_stO rfl rfl (by rfl) (by first | rfl | assumption) (by first | assumption | (simp; done) | (simp; omega) | omega) rfl ?_; skip)) | (refine vo_isCall ?_; first | (refine vo_isApp ?_; first | (refine vo_append0A rfl rfl rfl ?_; intro _ _ _ _) | (refine vo_appendA rfl rfl rfl ?_; intro _ _ _ _)) | (refine vo_isCopy ?_; refine vo_copyB rfl rfl rfl (by assumption) (by assumption) (by assumption) (by assumption) ?_) | refine vo_yield rfl rfl rfl rfl rfl ?_ | refine vo_callV rfl rfl rfl (vc_in rfl rfl ?_)) | refine vo_convRow rfl rfl ?_ | (refine vo_isBs ?_; refine vo_buildSlice rfl rfl rfl (by decide) (by repeat' (first | exact trivial | rfl | assumption | refine ⟨?_, ?_⟩ | (simp; done) | (simp; omega))) (by decide) rfl ?_; intro _) | (refine vo_buildSlice0 rfl ?_; intro _) | fail)
        refine ⟨.inr (sei _ _ _), ?_⟩
        refine va_one 9 (by kernel_rfl) rfl rfl ?_
        first | refine vo_call rfl rfl ?_ | refine vo_callV rfl rfl rfl ?_
        refine vc_mono (lfind20_vc w0 _ a c ls l.own z.nonce rfl h D.mayL.srt hol hzn) ?_
        rintro v L' ⟨rfl, rfl⟩
        rw [hfq]
        refine ⟨.inr (sei _ _ _), ?_⟩
        refine va_takeA 10 rfl rfl rfl rfl ?_
        refine va_takeA 11 rfl rfl rfl rfl ?_
        refine va_takeA 12 rfl rfl rfl rfl ?_
        refine va_one 14 (by kernel_rfl) rfl rfl ?_
        (first | (refine vo_box rfl rfl rfl ?_; intro _) | (refine vo_alloc rfl ?_; intro _) | (refine vo_isStore ?_; first | (refine vo_isPt0 rfl ?_; refine vo_stWA rfl rfl ?_) | (refine vo_isPt rfl ?_; refine vo_stBA rfl rfl ?_) | (refine vo_stO rfl rfl (by rfl) (by first | rfl | assumption) (by first | assumption | (simp; done) | (simp; omega) | omega) rfl ?_; skip)) | (refine vo_isCall ?_; first | (refine vo_isApp ?_; first | (refine vo_append0A rfl rfl rfl ?_; intro _ _ _ _) | (refine vo_appendA rfl rfl rfl ?_; intro _ _ _ _)) | (refine vo_isCopy ?_; refine vo_copyB rfl rfl rfl (by assumption) (by assumption) (by assumption) (by assumption) ?_) | refine vo_yield rfl rfl rfl rfl rfl ?_ | refine vo_callV rfl rfl rfl (vc_in rfl rfl ?_)) | refine vo_convRow rfl rfl ?_ | (refine vo_isBs ?_; refine vo_buildSlice rfl rfl rfl (by decide) (by repeat' (first | exact trivial | rfl | assumption | refine ⟨?_, ?_⟩ | (simp; done) | (simp; omega))) (by decide) rfl ?_; intro _) | (refine vo_buildSlice0 rfl ?_; intro _) | fail)
        refine ⟨.inr (sei _ _ _), ?_⟩
        refine va_takeA 15 rfl rfl rfl rfl ?_
        refine va_done (by kernel_rfl) ?_
        refine ⟨rfl, _, by (repeat' (first | exact Sub.nil _ | refine Sub.cons rfl rfl ?_ | refine Sub.cons rfl ?_ ?_)), ?_⟩
        dsimp only
        exact sei _ _ _
    intro g24
    repeat' (first | (refine go1 ?_; intros) | ((first | refine vl_caseG rfl rfl rfl rfl ?_ ?_ | refine v_cond rfl ?_ ?_) <;> (intro hb; (try simp only [hq1, hq2, hq3, hq4, ne_eq, hq5, hq6, hq7, hq8] at hb); try (exfalso; omega))) | fail)
    all_goals first | (exfalso; omega) | skip
    refine vl_q rfl rfl rfl rfl (vq_neTxS rfl rfl xok) ?_
    repeat' (first | (refine go1 ?_; intros) | ((first | refine vl_caseG rfl rfl rfl rfl ?_ ?_ | refine v_cond rfl ?_ ?_) <;> (intro hb; (try simp only [hq1, hq2, hq3, hq4, ne_eq, hq5, hq6, hq7, hq8] at hb); try (exfalso; omega))) | fail)
    exact ⟨rfl, j + 1, by omega, by omega, by (repeat' (first | exact Sub.nil _ | refine Sub.cons rfl rfl ?_ | refine Sub.cons rfl ?_ ?_)), sei _ _ _⟩
end Go.Proofs.YtccbcdhpnkbkgaaDoor
