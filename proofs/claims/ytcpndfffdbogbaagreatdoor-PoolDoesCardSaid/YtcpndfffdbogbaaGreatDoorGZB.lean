/-
  Shards: what is drawn, what goes back (the document's). Shards: what goes back (the document's).
-/
import Derived.Test.YtcpndfffdbogbaaGreatDoorAccC
import Derived.Test.YtcpndfffdbogbaaGreatDoorGU
import Derived.Test.YtcpndfffdbogbaaGreatDoorG8
import Derived.Test.YtcpndfffdbogbaaGreatDoorGY
import Derived.Test.YtcpndfffdbogbaaGreatDoorGZC
set_option linter.unusedVariables false
set_option linter.unusedSimpArgs false
set_option linter.unusedSectionVars false
set_option maxRecDepth 100000
set_option maxHeartbeats 8000000
namespace Go.Proofs.YtcpndfffdbogbaaGreatDoor
open Go Go.RowKit
open Classical

theorem rsigned20_vc (w0 : World) (L : List Asn) (a : Option Addr) (c : Nat) (xs : List Tx) {n : Nat} (hn : n = xs.length) (h : TsOk xs) [hr : RdC w0 L a (txc xs)] :
    VC Tryz.prog w0 46 [.slice a n c] L fun v L' => v = .bool (decide (∀ x ∈ xs, x.sign = sgn x)) ∧ L' = L := by
  subst hn
  have hlen := h.len
  refine vc_ent ?_
  refine vc_in rfl rfl ?_
  repeat' (first | (refine go1 ?_; intros) | (refine goCC ?_ ?_ <;> (intro hb; (try simp only [hSQ] at hb); try (exfalso; omega))) | fail)
  refine v_loopS Nat [0] rfl (fun i => [(3, .int .i64 i)]) (fun i => i ≤ xs.length ∧ ∀ j (hj : j < xs.length), j < i → xs[j].sign = sgn xs[j]) (fun i => xs.length - i) 0 ⟨Nat.zero_le _, fun j _ h => by omega⟩ (by (exact sbS)) (fun i ⟨hi, hall⟩ => ?_)
  by_cases hlt : i < xs.length
  rotate_left
  · obtain rfl : i = xs.length := by omega
    have hst : ∀ x ∈ xs, x.sign = sgn x := fun x hx => by
      obtain ⟨j, hj, rfl⟩ := List.getElem_of_mem hx
      exact hall j hj hj
    rw [decide_eq_true hst]
    repeat' (first | (refine go1 ?_; intros) | (refine goCC ?_ ?_ <;> (intro hb; (try simp only [hSQ] at hb); try (exfalso; omega))) | fail)
    exact ⟨_, sei _ _ L, rfl, rfl⟩
  have e := h.el i hlt
  have hpos := h.pos i hlt
  have hxo := h.at i hlt
  have hnext : xs[i].sign = sgn xs[i] → ∀ j (hj : j < xs.length), j < i + 1 → xs[j].sign = sgn xs[j] := fun hq j hj hji => by
    by_cases e2 : j = i
    · subst e2; exact hq
    · exact hall j hj (by omega)
  have hmi : (∀ x ∈ xs, x.sign = sgn x) → xs[i].sign = sgn xs[i] := fun e => e _ (List.getElem_mem hlt)
  generalize xs[i] = x at *
  have hxl := Tx.len hxo
  haveI oxc : OC x.cells := oc_tx _
  repeat' (first | (refine go1 ?_; intros) | (refine goCC ?_ ?_ <;> (intro hb; (try simp only [hSQ] at hb); try (exfalso; omega))) | fail)
  refine clV ?_
  refine vc_mono (rCheck_vc w0 _ x hxo) ?_
  rintro v L' ⟨rfl, hL⟩
  obtain rfl := hL.symm
  by_cases hs : x.sign = sgn x
  · rw [if_pos hs]
    repeat' (first | (refine go1 ?_; intros) | (refine goCC ?_ ?_ <;> (intro hb; (try simp only [hSQ] at hb); try (exfalso; omega))) | fail)
    exact ⟨rfl, i + 1, ⟨by omega, hnext hs⟩, by omega, by (exact sbS), sei _ _ _⟩
  · rw [if_neg hs, decide_eq_false (fun e => hs (hmi e))]
    repeat' (first | (refine go1 ?_; intros) | (refine goCC ?_ ?_ <;> (intro hb; (try simp only [hSQ] at hb); try (exfalso; omega))) | fail)
    exact ⟨_, sei _ _ L, rfl, rfl⟩
theorem rdrawn20_vc (w0 : World) (L : List Asn) (a : Option Addr) (c : Nat) (ls : List Ln) (pa : Option Addr) (pc : Nat) (ps : List PR) (room : Int) {n pn : Nat} (hn : n = ls.length) (hpn : pn = ps.length) (h : LsOk ls) (h9 : ls.length ≤ 6) (hx20 : ∀ l ∈ ls, l.xs.length ≤ 20) (hmc : MayC (lls ls)) (hpo : PsOk ps) (hps : Srt (kvs ps)) (hcaps : ∀ p ∈ ps, p.v.length ≤ p.c) (f : List UInt8 → Nat) (hf : ∀ k, f k = (inP (kvs ps) k).1) [hr : RdC w0 L a (lnc ls)] [hv : RdLs w0 L ls] [hr2 : RdC w0 L pa (prc ps)] [hv2 : RdVs w0 L ps] :
    VC Tryz.prog w0 39 [.agg #[.slice a n c], .slice pa pn pc, .int .i64 room] L fun v L' => ∃ a1 c1 ms b1 d1, v = .tuple #[.agg #[.slice a1 ms.length c1], .slice b1 (drawC f room (lls ls)).2.length d1] ∧ lls ms = (drawC f room (lls ls)).1 ∧ LsOk ms ∧ L' = ownLs a1 c1 ms :: tsA ms :: ownTs b1 d1 (drawC f room (lls ls)).2 :: L := by
  subst hn
  subst hpn
  have hlen := h.len
  refine vc_ent ?_
  refine vc_in rfl rfl ?_
  repeat' (first | (refine go1 ?_; intros) | (refine goCC ?_ ?_ <;> (intro hb; (try simp only [hSQ] at hb); try (exfalso; omega))) | fail)
  refine clV ?_
  refine vc_mono (rtwin20_vc w0 _ a c ls rfl h) ?_
  rintro v L' ⟨a1, c1, ms0, rfl, hms0, rfl⟩
  have hmo0 := h.of_lls hms0
  repeat' (first | (refine go1 ?_; intros) | (refine goCC ?_ ?_ <;> (intro hb; (try simp only [hSQ] at hb); try (exfalso; omega))) | fail)
  rename_i g3 g6 g8
  refine v_loopF (Nat × (Option Addr × Nat × List Ln) × Option Addr × Nat) [1, 2, 3, 6, 8] rfl (fun z => [(10, .int .i64 z.1), (9, .slice z.2.2.1 (drawC f room ((lls ls).take z.1)).2.length z.2.2.2)]) (fun _ z => blk g8 24 [.slice z.2.1.1 z.2.1.2.2.length z.2.1.2.1] :: ownLs z.2.1.1 z.2.1.2.1 z.2.1.2.2 :: tsA z.2.1.2.2 :: ownTs z.2.2.1 z.2.2.2 (drawC f room ((lls ls).take z.1)).2 :: blk g6 24 [.slice none 0 0] :: blk g3 24 [.slice a ls.length c] :: L) (fun z => z.1 ≤ ls.length ∧ lls z.2.1.2.2 = drawAt f room (lls ls) z.1 ∧ LsOk z.2.1.2.2) (fun z => ls.length - z.1) (0, (a1, c1, ms0), none, 0) ?_ ?_ ?_ ?_
  · refine ⟨Nat.zero_le _, ?_, hmo0⟩
    dsimp only
    rw [hms0]
    simp [drawAt, drawC]
  · dsimp only
    rw [List.take_zero]
    (exact sbS)
  · dsimp only
    rw [List.take_zero]
    exact (sei w0 _ (blk g8 24 [.slice a1 ms0.length c1] :: ownLs a1 c1 ms0 :: tsA ms0 :: blk g6 24 [.slice none 0 0] :: blk g3 24 [.slice a ls.length c] :: L)).trans ((SE.cons _ (SE.cons _ (SE.cons _ (se_own_nil 50 99 _)))).ent w0)
  rintro ⟨i, ⟨aM, cM, mm⟩, aD, cD⟩ ⟨hi, hmm, hmo⟩
  dsimp only at hi hmm hmo ⊢
  obtain ⟨D, hD⟩ : ∃ D, D = (drawC f room ((lls ls).take i)).2 := ⟨_, rfl⟩
  by_cases hlt : i < ls.length
  rotate_left
  · obtain rfl : i = ls.length := by omega
    have e1 : (lls ls).take ls.length = lls ls := List.take_of_length_le (by rw [List.length_map]; exact Nat.le_refl _)
    have e2 := drawAt_end f room (lls ls)
    rw [List.length_map] at e2
    rw [e2] at hmm
    rw [e1]
    repeat' (first | (refine go1 ?_; intros) | (refine goCC ?_ ?_ <;> (intro hb; (try simp only [hSQ] at hb); try (exfalso; omega))) | fail)
    exact ⟨_, sei w0 _ (ownLs aM cM mm :: tsA mm :: ownTs aD cD (drawC f room (lls ls)).2 :: L), aM, cM, mm, aD, cD, rfl, hmm, hmo, rfl⟩
  rw [← hD]
  have hi' : i < (lls ls).length := by rwa [List.length_map]
  have hstep := (drawAt_may (f := f) (room := room) hmc h.k2 i (by omega)).2.2 hi'
  have hmmc := (drawAt_may (f := f) (room := room) hmc h.k2 i (by omega)).1
  have hdt := drawC_take (f := f) (room := room) hi'
  have hfew := (drawC_drn (f := f) (room := room) hmc i (by omega)).few
  have hDl := drawC_len f room ((lls ls).take i) ([], [])
  have hD20 : cntC ((lls ls).take i) ≤ 120 := by
    have := cntC_le20 (cs := (lls ls).take i) (fun c hc => by
      obtain ⟨l, hl, rfl⟩ := List.mem_map.1 (List.mem_of_mem_take hc)
      exact hx20 l hl)
    rw [List.length_take, List.length_map] at this
    omega
  rw [show ((lls ls).take i).foldl (drawS f room) ([], []) = drawC f room ((lls ls).take i) from rfl] at hDl
  rw [← hD] at hstep hfew hDl
  rw [← hmm] at hstep hmmc
  have hDl : D.length ≤ 120 := by
    simp only [List.length_nil, Nat.zero_add] at hDl
    omega
  have hgl : GoodL ls[i].own ls[i].xs := hmc.good ls[i].pl (List.mem_map.2 ⟨_, List.getElem_mem hlt, rfl⟩)
  have e := h.e i hlt
  have hpos := h.pos i hlt
  have lok := h.at i hlt
  have hol := lok.own
  have h20 := hx20 _ (List.getElem_mem hlt)
  haveI := hv.at i hlt
  have hpl : (lls ls)[i]'hi' = ls[i].pl := List.getElem_map ..
  rw [hpl] at hstep hdt
  generalize ls[i] = l at *
  have hll := Ln.len hol
  have hl0 := Ln.f0 hol
  haveI olc : OC l.cells := oc_ln _
  obtain ⟨lc, hlc⟩ : ∃ lc, lc = l.cells := ⟨_, rfl⟩
  rw [← hlc] at hll hl0 olc e
  obtain ⟨K, hK⟩ : ∃ K, K = f l.own := ⟨_, rfl⟩
  have hKlt : K < 18446744073709551616 := by rw [hK, hf]; exact (inP_lt _ _).1
  repeat' (first | (refine go1 ?_; intros) | (refine goCC ?_ ?_ <;> (intro hb; (try simp only [hSQ] at hb); try (exfalso; omega))) | fail)
  refine clV ?_
  refine vc_mono (rin10_vc w0 _ pa pc ps l.own rfl hpo hol hps hcaps) ?_
  rintro v L' ⟨rfl, rfl⟩
  rw [← hf, ← hK]
  generalize (inP (kvs ps) l.own).2 = bal at *
  repeat' (first | (refine go1 ?_; intros) | (refine goCC ?_ ?_ <;> (intro hb; (try simp only [hSQ] at hb); try (exfalso; omega))) | fail)
  refine vl_q rfl rfl rfl rfl (vq_field1 (v := .int .u64 K) rfl rfl) ?_
  repeat' (first | (refine go1 ?_; intros) | (refine goCC ?_ ?_ <;> (intro hb; (try simp only [hSQ] at hb); try (exfalso; omega))) | fail)
  refine clV ?_
  rw [hlc]
  refine vc_mono (rparted_vc w0 _ l lok K hKlt) ?_
  rw [← hlc]
  rintro v L' ⟨al, cl, ah, ch, rfl, rfl⟩
  repeat' (first | (refine goB ?_; intros) | (refine goCC ?_ ?_ <;> (intro hb; (try simp only [hSQ] at hb); try (exfalso; omega))) | fail)
  refine vl_q rfl rfl rfl rfl (vq_build rfl rfl (by simp [plOf, hol, Value.cells]) (by simp [hol, Value.cells])) ?_
  repeat' (first | (refine go1 ?_; intros) | (refine goCC ?_ ?_ <;> (intro hb; (try simp only [hSQ] at hb); try (exfalso; omega))) | fail)
  have hgh := hgl.hi K
  have hrest : (Ln.mk l.own ah ch (hiT l.xs K)).ok := ⟨hol, ⟨fun y hy => lok.ts.ok y (hiT_sub y hy), by have := hgh.len; show (hiT l.xs K).length ≤ 1000000; omega⟩⟩
  refine clV ?_
  rw [show (bvs l.own ++ [Value.slice ah (hiT l.xs K).length ch]) = (Ln.mk l.own ah ch (hiT l.xs K)).cells from rfl]
  refine vc_mono (rrun19_vc w0 _ (Ln.mk l.own ah ch (hiT l.xs K)) hrest hgh.up K hKlt) ?_
  rw [show readyT (Ln.mk l.own ah ch (hiT l.xs K)).xs K = readyT l.xs K from ready_hi _ _]
  rintro v L' ⟨ar, cr, rfl, rfl⟩
  have hrle := ready_len l.xs K
  have hmle := cutN_le (readyT l.xs K).length room D.length
  have hcutC : cutC f room D.length l.pl = cutN (readyT l.xs K).length room D.length := by rw [hK]; rfl
  rw [hcutC] at hstep
  have hRo : TsOk (readyT l.xs K) := ⟨fun y hy => lok.ts.ok y (hiT_sub y (runT_sub y hy)), by omega⟩
  have hRtake := ready_take l.xs K _ hmle
  have hmdef : cutN (readyT l.xs K).length room D.length = (max 0 (min ((readyT l.xs K).length : Int) (room - (D.length : Int)))).toNat := rfl
  have hmh : cutN (readyT l.xs K).length room D.length ≤ (hiT l.xs K).length := by
    have := congrArg List.length hRtake
    rw [List.length_take, List.length_take] at this
    omega
  have hDE : (drawC f room ((lls ls).take (i + 1))).2 = D ++ (readyT l.xs K).take (cutN (readyT l.xs K).length room D.length) := by
    rw [hdt]
    unfold drawS
    dsimp only
    rw [← hD, hcutC, hK]
    rfl
  generalize cutN (readyT l.xs K).length room D.length = m at *
  refine vl_know (φ := (hiT l.xs K).length ≤ ch) (fun w hs => (hs.ownLen 2 rfl).2.1) (fun hch => ?_)
  repeat' (first | (refine go1 ?_; intros) | (refine goCC ?_ ?_ <;> (intro hb; (try simp only [hSQ] at hb); try (exfalso; omega))) | fail)
  rename_i g11
  refine v_loopF (Nat × Option Addr × Nat) [1, 2, 3, 6, 8, 10, 11, 14, 16] rfl (fun z => [(15, .int .i64 z.1), (9, .slice z.2.1 (D ++ (readyT l.xs K).take z.1).length z.2.2)]) (fun _ z => ownTs z.2.1 z.2.2 (D ++ (readyT l.xs K).take z.1) :: ownTs ar cr (readyT l.xs K) :: ownTs ah ch (hiT l.xs K) :: blk g11 69 lc :: blk g8 24 [.slice aM mm.length cM] :: ownLs aM cM mm :: tsA mm :: blk g6 24 [.slice none 0 0] :: blk g3 24 [.slice a ls.length c] :: L) (fun z => z.1 ≤ m) (fun z => m - z.1) (0, aD, cD) (Nat.zero_le _) ?_ ?_ ?_
  · dsimp only
    rw [List.take_zero, List.append_nil]
    (exact sbS)
  · dsimp only
    rw [List.take_zero, List.append_nil]
    exact sei _ _ _
  rintro ⟨j, aE, cE⟩ hj
  dsimp only at hj ⊢
  have hol2 : (D ++ (readyT l.xs K).take j).length = D.length + j := by rw [List.length_append, List.length_take]; omega
  by_cases hjm : j < m
  · have hjr : j < (readyT l.xs K).length := by omega
    have hoe : (D ++ (readyT l.xs K).take j) ++ [(readyT l.xs K)[j]] = D ++ (readyT l.xs K).take (j + 1) := by rw [List.append_assoc, List.take_succ_eq_append_getElem hjr]
    have er := hRo.el j hjr
    have xok := hRo.at j hjr
    have hxl := Tx.len xok
    have hposr := hRo.pos j hjr
    generalize (readyT l.xs K)[j] = x at *
    generalize D ++ (readyT l.xs K).take j = o at *
    repeat' (first | (refine go1 ?_; intros) | (refine goCC ?_ ?_ <;> (intro hb; (try simp only [hSQ] at hb); try (exfalso; omega))) | fail)
    all_goals first | (exfalso; omega) | skip
    rename_i q1 a' c' _ _
    refine ⟨rfl, (j + 1, a', c'), by dsimp only; omega, by dsimp only; omega, ?_, ?_⟩
    · dsimp only
      rw [← hoe, List.length_append]
      (exact sbS)
    · dsimp only
      rw [← hoe, ownTs_snoc]
      exact sei _ _ _
  · obtain rfl : j = m := by omega
    have hdl : ((hiT l.xs K).drop j).length = (hiT l.xs K).length - j := List.length_drop
    have hvo : (Ln.mk l.own (subA ah j ch 99) (ch - j) ((hiT l.xs K).drop j)).ok := ⟨hol, ⟨fun y hy => hrest.ts.ok y (List.mem_of_mem_drop hy), by have := hgh.len; show ((hiT l.xs K).drop j).length ≤ 1000000; omega⟩⟩
    have hmo5 : mm.length ≤ 900000 := by
      have e1 := congrArg List.length hmm
      have e2 := drawAt_len f room (lls ls) i
      rw [List.length_map] at e1 e2
      omega
    haveI hrv : ∀ (M : List Asn) [RdC w0 M ah (txc (hiT l.xs K))], RdC w0 M (subA ah j ch 99) (txc (Ln.mk l.own (subA ah j ch 99) (ch - j) ((hiT l.xs K).drop j)).xs) := fun M _ => rdF_drop hrest.ts.wide j ch hch
    repeat' (first | (refine go1 ?_; intros) | (refine goCC ?_ ?_ <;> (intro hb; (try simp only [hSQ] at hb); try (exfalso; omega))) | fail)
    all_goals first | (exfalso; omega) | skip
    all_goals
      refine v_id ?_
      refine v_draw0 [7, 8] (by kernel_rfl) ?_
      refine tA 0 ?_
      refine tA 1 ?_
      refine tA 2 ?_
      refine tA 3 ?_
      refine tA 4 ?_
      refine tA 5 ?_
      refine va_take 6 rfl rfl rfl rfl (by kernel_rfl) (fun _ _ _ _ h => h) entD (vq_build rfl rfl (by simp [plOf, hol, Value.cells]) (by simp [hol, Value.cells])) ?_
      refine va_one 7 (by kernel_rfl) rfl rfl ?_
      first | refine vo_call rfl rfl ?_ | refine vo_callV rfl rfl rfl ?_
      rw [show (bvs l.own ++ [Value.slice (subA ah j ch 99) ((hiT l.xs K).length - j) (ch - j)]) = (Ln.mk l.own (subA ah j ch 99) (ch - j) ((hiT l.xs K).drop j)).cells by rw [← hdl]; rfl]
      refine vc_mono (rwithS_vc w0 _ aM cM mm (Ln.mk l.own (subA ah j ch 99) (ch - j) ((hiT l.xs K).drop j)) rfl hmo hmmc hvo hmo5) ?_
      rintro v L' ⟨aN, cN, mN, rfl, hN, kN, rfl⟩
      refine ⟨.inl (by kernel_rfl), ?_⟩
      refine va_one 8 (by kernel_rfl) rfl rfl ?_
      (refine goV ?_; intros)
      refine ⟨.inl (by kernel_rfl), ?_⟩
      refine va_done (by kernel_rfl) ?_
      repeat' (first | (refine go1 ?_; intros) | (refine goCC ?_ ?_ <;> (intro hb; (try simp only [hSQ] at hb); try (exfalso; omega))) | fail)
      refine ⟨rfl, (i + 1, (aN, cN, mN), aE, cE), ⟨by dsimp only; omega, by dsimp only; rw [hN, hstep, hK]; rfl, kN⟩, by dsimp only; omega, by (dsimp only; rw [hDE]; (exact sbS)), by (dsimp only; rw [hDE]; exact sei _ _ _)⟩
end Go.Proofs.YtcpndfffdbogbaaGreatDoor
namespace Go.Proofs.YtcpndfffdbogbaaGreatDoor
open Go Go.RowKit
open Classical

theorem rreturned20_vc (w0 : World) (L : List Asn) (a : Option Addr) (c : Nat) (ls : List Ln) (pa : Option Addr) (pc : Nat) (ps : List PR) (ea : Option Addr) (ec : Nat) (xs : List Tx) {n pn en : Nat} (hn : n = ls.length) (hpn : pn = ps.length) (hen : en = xs.length) (h : LsOk ls) (h9 : ls.length ≤ 800000) (hmc : MayC (lls ls)) (hpo : PsOk ps) (hps : Srt (kvs ps)) (hcaps : ∀ p ∈ ps, p.v.length ≤ p.c) (hxs : TsOk xs) (hx9 : xs.length ≤ 100000) (hsg : ∀ x ∈ xs, x.sign = sgn x) (f : List UInt8 → Nat) (hf : ∀ k, f k = (inP (kvs ps) k).1) [hr : RdC w0 L a (lnc ls)] [hv : RdLs w0 L ls] [hr2 : RdC w0 L pa (prc ps)] [hv2 : RdVs w0 L ps] [hr3 : RdC w0 L ea (txc xs)] :
    VC Tryz.prog w0 47 [.agg #[.slice a n c], .slice pa pn pc, .slice ea en ec] L fun v L' => ∃ a1 c1 ms b, v = .tuple #[.agg #[.slice a1 ms.length c1], .bool b] ∧ (lls ms, b) = (match backC f (lls ls) xs with | some zs => (zs, true) | none => ([], false)) ∧ LsOk ms ∧ L' = ownLs a1 c1 ms :: tsA ms :: L := by
  subst hn
  subst hpn
  subst hen
  have hlen := h.len
  have hxlen := hxs.len
  refine vc_ent ?_
  refine vc_in rfl rfl ?_
  repeat' (first | (refine go1 ?_; intros) | (refine goCC ?_ ?_ <;> (intro hb; (try simp only [hSQ] at hb); try (exfalso; omega))) | fail)
  refine clV ?_
  refine vc_mono (rtwin20_vc w0 _ a c ls rfl h) ?_
  rintro v L' ⟨a1, c1, ms0, rfl, hms0, rfl⟩
  have hmo0 := h.of_lls hms0
  repeat' (first | (refine go1 ?_; intros) | (refine goCC ?_ ?_ <;> (intro hb; (try simp only [hSQ] at hb); try (exfalso; omega))) | fail)
  rename_i g3 g6 g8
  refine v_loopF (Nat × (Option Addr × Nat × List Ln)) [1, 2, 3, 6, 8] rfl (fun z => [(9, .int .i64 z.1)]) (fun _ z => blk g8 24 [.slice z.2.1 z.2.2.2.length z.2.2.1] :: ownLs z.2.1 z.2.2.1 z.2.2.2 :: tsA z.2.2.2 :: blk g6 24 [.slice none 0 0] :: blk g3 24 [.slice a ls.length c] :: L) (fun z => z.1 ≤ xs.length ∧ backC f (lls ls) (xs.take z.1) = some (lls z.2.2.2) ∧ LsOk z.2.2.2 ∧ z.2.2.2.length ≤ ls.length + z.1) (fun z => xs.length - z.1) (0, (a1, c1, ms0)) ?_ ?_ ?_ ?_
  · refine ⟨Nat.zero_le _, ?_, hmo0, ?_⟩
    · dsimp only
      rw [hms0, List.take_zero]
      rfl
    · dsimp only
      rw [lls_len hms0]
      exact Nat.le_refl _
  · (exact sbS)
  · exact sei _ _ _
  rintro ⟨i, ⟨aM, cM, mm⟩⟩ ⟨hi, hbk, hmo, hml⟩
  dsimp only at hi hbk hmo hml ⊢
  by_cases hlt : i < xs.length
  rotate_left
  · obtain rfl : i = xs.length := by omega
    rw [List.take_length] at hbk
    repeat' (first | (refine go1 ?_; intros) | (refine goCC ?_ ?_ <;> (intro hb; (try simp only [hSQ] at hb); try (exfalso; omega))) | fail)
    exact ⟨_, sei w0 _ (ownLs aM cM mm :: tsA mm :: L), aM, cM, mm, true, rfl, by rw [hbk], hmo, rfl⟩
  obtain ⟨hmmc, hmk, _⟩ := backC_law hmc h.k2 hsg i (by omega) _ hbk
  have hstep := backC_take (f := f) (cs := lls ls) hlt
  rw [hbk] at hstep
  have hstep : backC f (lls ls) (xs.take (i + 1)) = backS f (lls mm) xs[i] := hstep
  have hnone : backC f (lls ls) (xs.take (i + 1)) = none → backC f (lls ls) xs = none := fun e => backC_none e
  have e := hxs.el i hlt
  have hpos := hxs.pos i hlt
  have hx := hxs.at i hlt
  generalize xs[i] = x at *
  have hxl := Tx.len hx
  have hx2 := Tx.f2 hx
  have hx4 := Tx.f4 hx
  have hxn := hx.nonce
  have hfl := fromT_len x
  haveI oxc : OC x.cells := oc_tx _
  repeat' (first | (refine go1 ?_; intros) | (refine goCC ?_ ?_ <;> (intro hb; (try simp only [hSQ] at hb); try (exfalso; omega))) | fail)
  refine clV ?_
  refine vc_mono (rFrom_vc w0 _ x hx) ?_
  rintro v L' ⟨rfl, rfl⟩
  rw [show sha (tagB 3 [x.pub]) = fromT x from rfl]
  repeat' (first | (refine go1 ?_; intros) | (refine goCC ?_ ?_ <;> (intro hb; (try simp only [hSQ] at hb); try (exfalso; omega))) | fail)
  refine clV ?_
  refine vc_mono (rline20_vc w0 _ aM cM mm (fromT x) rfl hmo hmmc.srt hfl) ?_
  rintro v L' ⟨l, rfl, hlo, hlx, hlm, rfl⟩
  have hll : l.cells.length = 33 := Ln.len (by rw [hlo]; exact hfl)
  have hLok := lineC_ok hmo (fromT x)
  have hlok : l.ok := ⟨by rw [hlo]; exact hfl, by rw [hlx]; exact hLok⟩
  haveI hrl : ∀ (M : List Asn) [RdLs w0 M mm], RdC w0 M l.a (txc l.xs) := fun M k => by
    rcases hlm with e | ⟨_, e⟩
    · exact k.out l e
    · rw [e]; exact rdC_nil _ _ _
  have hgood := hmmc.line (fromT x)
  have hup := hgood.up
  rw [← hlx] at hgood hup hLok
  have hl1 := Ln.f1 hlok.own
  have hltl := hlok.ts.len
  have hg256 := hgood.len
  haveI olc : OC l.cells := oc_ln _
  obtain ⟨lc, hlc⟩ : ∃ lc, lc = l.cells := ⟨_, rfl⟩
  rw [← hlc] at hl1 hll olc ⊢
  repeat' (first | (refine go1 ?_; intros) | (refine goCC ?_ ?_ <;> (intro hb; (try simp only [hSQ] at hb); try (exfalso; omega))) | fail)
  refine clV ?_
  rw [hlc]
  refine vc_mono (rfind19_vc w0 _ l hlok x.nonce hxn) ?_
  rintro v L' ⟨m, rfl, hm, rfl⟩
  rw [← hlc]
  repeat' (first | (refine go1 ?_; intros) | (refine goCC ?_ ?_ <;> (intro hb; (try simp only [hSQ] at hb); try (exfalso; omega))) | fail)
  unfold backS at hstep
  rw [← hlx] at hstep
  have hN64 : f (fromT x) < 18446744073709551616 := by rw [hf]; exact (inP_lt _ _).1
  by_cases hA : x.nonce < f (fromT x)
  · rw [if_pos hA] at hstep
    (refine v_draw0 [] (by kernel_rfl) ?_ <;> (refine tA 0 ?_) <;> (refine tA 1 ?_) <;> (refine tA 2 ?_) <;> (refine tA 3 ?_))
    first | refine va_one 4 (by kernel_rfl) rfl rfl (vo_call rfl rfl ?_) | refine va_one 4 (by kernel_rfl) rfl rfl (vo_callV rfl rfl rfl ?_)
    refine vc_mono (rin10_vc w0 _ pa pc ps (fromT x) rfl hpo hfl hps hcaps) ?_
    rintro v L' ⟨rfl, rfl⟩
    rw [← hf]
    generalize f (fromT x) = N at *
    generalize (inP (kvs ps) (fromT x)).2 = bal at *
    refine ⟨.inr entD, ?_⟩
    ((refine va_take 5 rfl rfl rfl rfl (by kernel_rfl) (fun _ _ _ _ h => h) entD (vq_field1 rfl rfl) ?_) <;> (refine tA 6 ?_) <;> (refine tA 7 ?_) <;> (first | refine tG 8 ?_ | (first | refine pG 8 ?_ | refine pU 8 ?_) | (refine va_caseG 8 rfl rfl rfl rfl rfl ?_ ?_ <;> (intro hb; (try simp only [hSQ] at hb); try (exfalso; omega)) <;> first | refine tG 8 ?_ | (first | refine pG 8 ?_ | refine pU 8 ?_))) <;> (first | refine tG 9 ?_ | (first | refine pG 9 ?_ | refine pU 9 ?_) | (refine va_caseG 9 rfl rfl rfl rfl rfl ?_ ?_ <;> (intro hb; (try simp only [hSQ] at hb); try (exfalso; omega)) <;> first | refine tG 9 ?_ | (first | refine pG 9 ?_ | refine pU 9 ?_))) <;> (first | refine tG 10 ?_ | (first | refine pG 10 ?_ | refine pU 10 ?_) | (refine va_caseG 10 rfl rfl rfl rfl rfl ?_ ?_ <;> (intro hb; (try simp only [hSQ] at hb); try (exfalso; omega)) <;> first | refine tG 10 ?_ | (first | refine pG 10 ?_ | refine pU 10 ?_))) <;> (first | refine tG 11 ?_ | (first | refine pG 11 ?_ | refine pU 11 ?_) | (refine va_caseG 11 rfl rfl rfl rfl rfl ?_ ?_ <;> (intro hb; (try simp only [hSQ] at hb); try (exfalso; omega)) <;> first | refine tG 11 ?_ | (first | refine pG 11 ?_ | refine pU 11 ?_))) <;> (first | refine tG 12 ?_ | (first | refine pG 12 ?_ | refine pU 12 ?_) | (refine va_caseG 12 rfl rfl rfl rfl rfl ?_ ?_ <;> (intro hb; (try simp only [hSQ] at hb); try (exfalso; omega)) <;> first | refine tG 12 ?_ | (first | refine pG 12 ?_ | refine pU 12 ?_))) <;> (first | refine tG 13 ?_ | (first | refine pG 13 ?_ | refine pU 13 ?_) | (refine va_caseG 13 rfl rfl rfl rfl rfl ?_ ?_ <;> (intro hb; (try simp only [hSQ] at hb); try (exfalso; omega)) <;> first | refine tG 13 ?_ | (first | refine pG 13 ?_ | refine pU 13 ?_))) <;> (first | refine tG 14 ?_ | (first | refine pG 14 ?_ | refine pU 14 ?_) | (refine va_caseG 14 rfl rfl rfl rfl rfl ?_ ?_ <;> (intro hb; (try simp only [hSQ] at hb); try (exfalso; omega)) <;> first | refine tG 14 ?_ | (first | refine pG 14 ?_ | refine pU 14 ?_))) <;> (first | refine tG 15 ?_ | (first | refine pG 15 ?_ | refine pU 15 ?_) | (refine va_caseG 15 rfl rfl rfl rfl rfl ?_ ?_ <;> (intro hb; (try simp only [hSQ] at hb); try (exfalso; omega)) <;> first | refine tG 15 ?_ | (first | refine pG 15 ?_ | refine pU 15 ?_))) <;> (first | refine tG 16 ?_ | (first | refine pG 16 ?_ | refine pU 16 ?_) | (refine va_caseG 16 rfl rfl rfl rfl rfl ?_ ?_ <;> (intro hb; (try simp only [hSQ] at hb); try (exfalso; omega)) <;> first | refine tG 16 ?_ | (first | refine pG 16 ?_ | refine pU 16 ?_))) <;> (first | refine tG 17 ?_ | (first | refine pG 17 ?_ | refine pU 17 ?_) | (refine va_caseG 17 rfl rfl rfl rfl rfl ?_ ?_ <;> (intro hb; (try simp only [hSQ] at hb); try (exfalso; omega)) <;> first | refine tG 17 ?_ | (first | refine pG 17 ?_ | refine pU 17 ?_))) <;> (first | refine tG 18 ?_ | (first | refine pG 18 ?_ | refine pU 18 ?_) | (refine va_caseG 18 rfl rfl rfl rfl rfl ?_ ?_ <;> (intro hb; (try simp only [hSQ] at hb); try (exfalso; omega)) <;> first | refine tG 18 ?_ | (first | refine pG 18 ?_ | refine pU 18 ?_))) <;> (first | refine tG 19 ?_ | (first | refine pG 19 ?_ | refine pU 19 ?_) | (refine va_caseG 19 rfl rfl rfl rfl rfl ?_ ?_ <;> (intro hb; (try simp only [hSQ] at hb); try (exfalso; omega)) <;> first | refine tG 19 ?_ | (first | refine pG 19 ?_ | refine pU 19 ?_))) <;> (first | refine tG 20 ?_ | (first | refine pG 20 ?_ | refine pU 20 ?_) | (refine va_caseG 20 rfl rfl rfl rfl rfl ?_ ?_ <;> (intro hb; (try simp only [hSQ] at hb); try (exfalso; omega)) <;> first | refine tG 20 ?_ | (first | refine pG 20 ?_ | refine pU 20 ?_))) <;> (refine tA 21 ?_) <;> (refine va_done (by kernel_rfl) ?_))
    repeat' (first | (refine go1 ?_; intros) | (refine goCC ?_ ?_ <;> (intro hb; (try simp only [hSQ] at hb); try (exfalso; omega))) | fail)
    all_goals first | (exfalso; omega) | skip
    exact ⟨rfl, (i + 1, aM, cM, mm), ⟨by dsimp only; omega, hstep, hmo, by dsimp only; omega⟩, by dsimp only; omega, by (exact sbS), sei _ _ _⟩
  rw [if_neg hA] at hstep
  rcases hm.at hup with ⟨rfl, hno, hat⟩ | ⟨j, hj, rfl, hnj, hat⟩
  · rw [hat] at hstep
    dsimp only at hstep
    by_cases hfu : 256 ≤ l.xs.length
    · rw [if_pos hfu] at hstep
      (refine v_draw0 [] (by kernel_rfl) ?_ <;> (refine tA 0 ?_) <;> (refine tA 1 ?_) <;> (refine tA 2 ?_) <;> (refine tA 3 ?_))
      first | refine va_one 4 (by kernel_rfl) rfl rfl (vo_call rfl rfl ?_) | refine va_one 4 (by kernel_rfl) rfl rfl (vo_callV rfl rfl rfl ?_)
      refine vc_mono (rin10_vc w0 _ pa pc ps (fromT x) rfl hpo hfl hps hcaps) ?_
      rintro v L' ⟨rfl, rfl⟩
      rw [← hf]
      generalize f (fromT x) = N at *
      generalize (inP (kvs ps) (fromT x)).2 = bal at *
      refine ⟨.inr entD, ?_⟩
      ((refine va_take 5 rfl rfl rfl rfl (by kernel_rfl) (fun _ _ _ _ h => h) entD (vq_field1 rfl rfl) ?_) <;> (refine tA 6 ?_) <;> (refine tA 7 ?_) <;> (first | refine tG 8 ?_ | (first | refine pG 8 ?_ | refine pU 8 ?_) | (refine va_caseG 8 rfl rfl rfl rfl rfl ?_ ?_ <;> (intro hb; (try simp only [hSQ] at hb); try (exfalso; omega)) <;> first | refine tG 8 ?_ | (first | refine pG 8 ?_ | refine pU 8 ?_))) <;> (first | refine tG 9 ?_ | (first | refine pG 9 ?_ | refine pU 9 ?_) | (refine va_caseG 9 rfl rfl rfl rfl rfl ?_ ?_ <;> (intro hb; (try simp only [hSQ] at hb); try (exfalso; omega)) <;> first | refine tG 9 ?_ | (first | refine pG 9 ?_ | refine pU 9 ?_))) <;> (first | refine tG 10 ?_ | (first | refine pG 10 ?_ | refine pU 10 ?_) | (refine va_caseG 10 rfl rfl rfl rfl rfl ?_ ?_ <;> (intro hb; (try simp only [hSQ] at hb); try (exfalso; omega)) <;> first | refine tG 10 ?_ | (first | refine pG 10 ?_ | refine pU 10 ?_))) <;> (first | refine tG 11 ?_ | (first | refine pG 11 ?_ | refine pU 11 ?_) | (refine va_caseG 11 rfl rfl rfl rfl rfl ?_ ?_ <;> (intro hb; (try simp only [hSQ] at hb); try (exfalso; omega)) <;> first | refine tG 11 ?_ | (first | refine pG 11 ?_ | refine pU 11 ?_))) <;> (first | refine tG 12 ?_ | (first | refine pG 12 ?_ | refine pU 12 ?_) | (refine va_caseG 12 rfl rfl rfl rfl rfl ?_ ?_ <;> (intro hb; (try simp only [hSQ] at hb); try (exfalso; omega)) <;> first | refine tG 12 ?_ | (first | refine pG 12 ?_ | refine pU 12 ?_))) <;> (first | refine tG 13 ?_ | (first | refine pG 13 ?_ | refine pU 13 ?_) | (refine va_caseG 13 rfl rfl rfl rfl rfl ?_ ?_ <;> (intro hb; (try simp only [hSQ] at hb); try (exfalso; omega)) <;> first | refine tG 13 ?_ | (first | refine pG 13 ?_ | refine pU 13 ?_))) <;> (first | refine tG 14 ?_ | (first | refine pG 14 ?_ | refine pU 14 ?_) | (refine va_caseG 14 rfl rfl rfl rfl rfl ?_ ?_ <;> (intro hb; (try simp only [hSQ] at hb); try (exfalso; omega)) <;> first | refine tG 14 ?_ | (first | refine pG 14 ?_ | refine pU 14 ?_))) <;> (first | refine tG 15 ?_ | (first | refine pG 15 ?_ | refine pU 15 ?_) | (refine va_caseG 15 rfl rfl rfl rfl rfl ?_ ?_ <;> (intro hb; (try simp only [hSQ] at hb); try (exfalso; omega)) <;> first | refine tG 15 ?_ | (first | refine pG 15 ?_ | refine pU 15 ?_))) <;> (first | refine tG 16 ?_ | (first | refine pG 16 ?_ | refine pU 16 ?_) | (refine va_caseG 16 rfl rfl rfl rfl rfl ?_ ?_ <;> (intro hb; (try simp only [hSQ] at hb); try (exfalso; omega)) <;> first | refine tG 16 ?_ | (first | refine pG 16 ?_ | refine pU 16 ?_))) <;> (first | refine tG 17 ?_ | (first | refine pG 17 ?_ | refine pU 17 ?_) | (refine va_caseG 17 rfl rfl rfl rfl rfl ?_ ?_ <;> (intro hb; (try simp only [hSQ] at hb); try (exfalso; omega)) <;> first | refine tG 17 ?_ | (first | refine pG 17 ?_ | refine pU 17 ?_))) <;> (first | refine tG 18 ?_ | (first | refine pG 18 ?_ | refine pU 18 ?_) | (refine va_caseG 18 rfl rfl rfl rfl rfl ?_ ?_ <;> (intro hb; (try simp only [hSQ] at hb); try (exfalso; omega)) <;> first | refine tG 18 ?_ | (first | refine pG 18 ?_ | refine pU 18 ?_))) <;> (first | refine tG 19 ?_ | (first | refine pG 19 ?_ | refine pU 19 ?_) | (refine va_caseG 19 rfl rfl rfl rfl rfl ?_ ?_ <;> (intro hb; (try simp only [hSQ] at hb); try (exfalso; omega)) <;> first | refine tG 19 ?_ | (first | refine pG 19 ?_ | refine pU 19 ?_))) <;> (first | refine tG 20 ?_ | (first | refine pG 20 ?_ | refine pU 20 ?_) | (refine va_caseG 20 rfl rfl rfl rfl rfl ?_ ?_ <;> (intro hb; (try simp only [hSQ] at hb); try (exfalso; omega)) <;> first | refine tG 20 ?_ | (first | refine pG 20 ?_ | refine pU 20 ?_))) <;> (refine tA 21 ?_) <;> (refine va_done (by kernel_rfl) ?_))
      repeat' (first | (refine go1 ?_; intros) | (refine goCC ?_ ?_ <;> (intro hb; (try simp only [hSQ] at hb); try (exfalso; omega))) | fail)
      all_goals first | (exfalso; omega) | skip
      exact ⟨_, (sei w0 _ L).trans ((se_ls_nil _).ent w0), none, 0, [], false, rfl, by rw [hnone hstep]; rfl, LsOk.nil, rfl⟩
    · rw [if_neg hfu] at hstep
      (refine v_draw0 [] (by kernel_rfl) ?_ <;> (refine tA 0 ?_) <;> (refine tA 1 ?_) <;> (refine tA 2 ?_) <;> (refine tA 3 ?_))
      first | refine va_one 4 (by kernel_rfl) rfl rfl (vo_call rfl rfl ?_) | refine va_one 4 (by kernel_rfl) rfl rfl (vo_callV rfl rfl rfl ?_)
      refine vc_mono (rin10_vc w0 _ pa pc ps (fromT x) rfl hpo hfl hps hcaps) ?_
      rintro v L' ⟨rfl, rfl⟩
      rw [← hf]
      generalize f (fromT x) = N at *
      generalize (inP (kvs ps) (fromT x)).2 = bal at *
      refine ⟨.inr entD, ?_⟩
      ((refine va_take 5 rfl rfl rfl rfl (by kernel_rfl) (fun _ _ _ _ h => h) entD (vq_field1 rfl rfl) ?_) <;> (refine tA 6 ?_) <;> (refine tA 7 ?_) <;> (first | refine tG 8 ?_ | (first | refine pG 8 ?_ | refine pU 8 ?_) | (refine va_caseG 8 rfl rfl rfl rfl rfl ?_ ?_ <;> (intro hb; (try simp only [hSQ] at hb); try (exfalso; omega)) <;> first | refine tG 8 ?_ | (first | refine pG 8 ?_ | refine pU 8 ?_))) <;> (first | refine tG 9 ?_ | (first | refine pG 9 ?_ | refine pU 9 ?_) | (refine va_caseG 9 rfl rfl rfl rfl rfl ?_ ?_ <;> (intro hb; (try simp only [hSQ] at hb); try (exfalso; omega)) <;> first | refine tG 9 ?_ | (first | refine pG 9 ?_ | refine pU 9 ?_))) <;> (first | refine tG 10 ?_ | (first | refine pG 10 ?_ | refine pU 10 ?_) | (refine va_caseG 10 rfl rfl rfl rfl rfl ?_ ?_ <;> (intro hb; (try simp only [hSQ] at hb); try (exfalso; omega)) <;> first | refine tG 10 ?_ | (first | refine pG 10 ?_ | refine pU 10 ?_))) <;> (first | refine tG 11 ?_ | (first | refine pG 11 ?_ | refine pU 11 ?_) | (refine va_caseG 11 rfl rfl rfl rfl rfl ?_ ?_ <;> (intro hb; (try simp only [hSQ] at hb); try (exfalso; omega)) <;> first | refine tG 11 ?_ | (first | refine pG 11 ?_ | refine pU 11 ?_))) <;> (first | refine tG 12 ?_ | (first | refine pG 12 ?_ | refine pU 12 ?_) | (refine va_caseG 12 rfl rfl rfl rfl rfl ?_ ?_ <;> (intro hb; (try simp only [hSQ] at hb); try (exfalso; omega)) <;> first | refine tG 12 ?_ | (first | refine pG 12 ?_ | refine pU 12 ?_))) <;> (first | refine tG 13 ?_ | (first | refine pG 13 ?_ | refine pU 13 ?_) | (refine va_caseG 13 rfl rfl rfl rfl rfl ?_ ?_ <;> (intro hb; (try simp only [hSQ] at hb); try (exfalso; omega)) <;> first | refine tG 13 ?_ | (first | refine pG 13 ?_ | refine pU 13 ?_))) <;> (first | refine tG 14 ?_ | (first | refine pG 14 ?_ | refine pU 14 ?_) | (refine va_caseG 14 rfl rfl rfl rfl rfl ?_ ?_ <;> (intro hb; (try simp only [hSQ] at hb); try (exfalso; omega)) <;> first | refine tG 14 ?_ | (first | refine pG 14 ?_ | refine pU 14 ?_))) <;> (first | refine tG 15 ?_ | (first | refine pG 15 ?_ | refine pU 15 ?_) | (refine va_caseG 15 rfl rfl rfl rfl rfl ?_ ?_ <;> (intro hb; (try simp only [hSQ] at hb); try (exfalso; omega)) <;> first | refine tG 15 ?_ | (first | refine pG 15 ?_ | refine pU 15 ?_))) <;> (first | refine tG 16 ?_ | (first | refine pG 16 ?_ | refine pU 16 ?_) | (refine va_caseG 16 rfl rfl rfl rfl rfl ?_ ?_ <;> (intro hb; (try simp only [hSQ] at hb); try (exfalso; omega)) <;> first | refine tG 16 ?_ | (first | refine pG 16 ?_ | refine pU 16 ?_))) <;> (first | refine tG 17 ?_ | (first | refine pG 17 ?_ | refine pU 17 ?_) | (refine va_caseG 17 rfl rfl rfl rfl rfl ?_ ?_ <;> (intro hb; (try simp only [hSQ] at hb); try (exfalso; omega)) <;> first | refine tG 17 ?_ | (first | refine pG 17 ?_ | refine pU 17 ?_))) <;> (first | refine tG 18 ?_ | (first | refine pG 18 ?_ | refine pU 18 ?_) | (refine va_caseG 18 rfl rfl rfl rfl rfl ?_ ?_ <;> (intro hb; (try simp only [hSQ] at hb); try (exfalso; omega)) <;> first | refine tG 18 ?_ | (first | refine pG 18 ?_ | refine pU 18 ?_))) <;> (first | refine tG 19 ?_ | (first | refine pG 19 ?_ | refine pU 19 ?_) | (refine va_caseG 19 rfl rfl rfl rfl rfl ?_ ?_ <;> (intro hb; (try simp only [hSQ] at hb); try (exfalso; omega)) <;> first | refine tG 19 ?_ | (first | refine pG 19 ?_ | refine pU 19 ?_))) <;> (first | refine tG 20 ?_ | (first | refine pG 20 ?_ | refine pU 20 ?_) | (refine va_caseG 20 rfl rfl rfl rfl rfl ?_ ?_ <;> (intro hb; (try simp only [hSQ] at hb); try (exfalso; omega)) <;> first | refine tG 20 ?_ | (first | refine pG 20 ?_ | refine pU 20 ?_))) <;> (refine tA 21 ?_) <;> (refine va_done (by kernel_rfl) ?_))
      repeat' (first | (refine go1 ?_; intros) | (refine goCC ?_ ?_ <;> (intro hb; (try simp only [hSQ] at hb); try (exfalso; omega))) | fail)
      all_goals first | (exfalso; omega) | skip
      (refine v_draw0 [4, 5] (by kernel_rfl) ?_ <;> (refine tA 0 ?_) <;> (refine tA 1 ?_) <;> (refine tA 2 ?_))
      first | refine va_one 3 (by kernel_rfl) rfl rfl (vo_call rfl rfl ?_) | refine va_one 3 (by kernel_rfl) rfl rfl (vo_callV rfl rfl rfl ?_)
      rw [hlc]
      refine vc_mono (rwithL_vc w0 _ l hlok hup (by omega) x hx) ?_
      rintro v L' ⟨a5, c5, rfl, rfl⟩
      have hWok : (Ln.mk l.own a5 c5 (withT l.xs x)).ok := ⟨hlok.own, hLok.with (by omega) hx⟩
      refine ⟨.inr entD, ?_⟩
      skip
      first | refine va_one 4 (by kernel_rfl) rfl rfl (vo_call rfl rfl ?_) | refine va_one 4 (by kernel_rfl) rfl rfl (vo_callV rfl rfl rfl ?_)
      refine vc_mono (rwithS_vc w0 _ aM cM mm (Ln.mk l.own a5 c5 (withT l.xs x)) rfl hmo hmmc hWok (by omega)) ?_
      rintro v L' ⟨aN, cN, mN, rfl, hN, kN, rfl⟩
      have hNl : mN.length ≤ mm.length + 1 := by
        have e1 := congrArg List.length hN
        have e2 := setC_len hmmc.srt hmo.k2 (o := l.own) hlok.own (withT l.xs x)
        rw [List.length_map] at e1 e2
        dsimp only at e1
        omega
      refine ⟨.inr entD, ?_⟩
      ((refine va_one 5 (by kernel_rfl) rfl rfl ?_; (refine goV ?_; intros); refine ⟨.inl (by kernel_rfl), ?_⟩) <;> (refine va_done (by kernel_rfl) ?_))
      repeat' (first | (refine go1 ?_; intros) | (refine goCC ?_ ?_ <;> (intro hb; (try simp only [hSQ] at hb); try (exfalso; omega))) | fail)
      exact ⟨rfl, (i + 1, aN, cN, mN), ⟨by dsimp only; omega, by dsimp only; rw [hstep, hN, ← hlo], kN, by dsimp only; omega⟩, by dsimp only; omega, by (exact sbS), sei _ _ _⟩
  · rw [hat] at hstep
    dsimp only at hstep
    have y4 := hlok.ts.e4 j hj
    have yp := hlok.ts.pos j hj
    generalize l.xs[j] = y at *
    by_cases hfee : x.fee ≤ y.fee
    · rw [if_pos hfee] at hstep
      (refine v_draw0 [] (by kernel_rfl) ?_ <;> (refine tA 0 ?_) <;> (refine tA 1 ?_) <;> (refine tA 2 ?_) <;> (refine tA 3 ?_))
      first | refine va_one 4 (by kernel_rfl) rfl rfl (vo_call rfl rfl ?_) | refine va_one 4 (by kernel_rfl) rfl rfl (vo_callV rfl rfl rfl ?_)
      refine vc_mono (rin10_vc w0 _ pa pc ps (fromT x) rfl hpo hfl hps hcaps) ?_
      rintro v L' ⟨rfl, rfl⟩
      rw [← hf]
      generalize f (fromT x) = N at *
      generalize (inP (kvs ps) (fromT x)).2 = bal at *
      refine ⟨.inr entD, ?_⟩
      ((refine va_take 5 rfl rfl rfl rfl (by kernel_rfl) (fun _ _ _ _ h => h) entD (vq_field1 rfl rfl) ?_) <;> (refine tA 6 ?_) <;> (refine tA 7 ?_) <;> (first | refine tG 8 ?_ | refine pG 8 ?_ | (refine va_caseG 8 rfl rfl rfl rfl rfl ?_ ?_ <;> (intro hb; (try simp only [hSQ] at hb); try (exfalso; omega)) <;> first | refine tG 8 ?_ | refine pG 8 ?_)) <;> (first | refine tG 9 ?_ | refine pG 9 ?_ | (refine va_caseG 9 rfl rfl rfl rfl rfl ?_ ?_ <;> (intro hb; (try simp only [hSQ] at hb); try (exfalso; omega)) <;> first | refine tG 9 ?_ | refine pG 9 ?_)) <;> (first | refine tG 10 ?_ | refine pG 10 ?_ | (refine va_caseG 10 rfl rfl rfl rfl rfl ?_ ?_ <;> (intro hb; (try simp only [hSQ] at hb); try (exfalso; omega)) <;> first | refine tG 10 ?_ | refine pG 10 ?_)) <;> (first | refine tG 11 ?_ | refine pG 11 ?_ | (refine va_caseG 11 rfl rfl rfl rfl rfl ?_ ?_ <;> (intro hb; (try simp only [hSQ] at hb); try (exfalso; omega)) <;> first | refine tG 11 ?_ | refine pG 11 ?_)) <;> (first | refine tG 12 ?_ | refine pG 12 ?_ | (refine va_caseG 12 rfl rfl rfl rfl rfl ?_ ?_ <;> (intro hb; (try simp only [hSQ] at hb); try (exfalso; omega)) <;> first | refine tG 12 ?_ | refine pG 12 ?_)) <;> (first | refine tG 13 ?_ | refine pG 13 ?_ | (refine va_caseG 13 rfl rfl rfl rfl rfl ?_ ?_ <;> (intro hb; (try simp only [hSQ] at hb); try (exfalso; omega)) <;> first | refine tG 13 ?_ | refine pG 13 ?_)) <;> (first | refine tG 14 ?_ | refine pG 14 ?_ | (refine va_caseG 14 rfl rfl rfl rfl rfl ?_ ?_ <;> (intro hb; (try simp only [hSQ] at hb); try (exfalso; omega)) <;> first | refine tG 14 ?_ | refine pG 14 ?_)) <;> (first | refine tG 15 ?_ | refine pG 15 ?_ | (refine va_caseG 15 rfl rfl rfl rfl rfl ?_ ?_ <;> (intro hb; (try simp only [hSQ] at hb); try (exfalso; omega)) <;> first | refine tG 15 ?_ | refine pG 15 ?_)) <;> (first | refine tG 16 ?_ | refine pG 16 ?_ | (refine va_caseG 16 rfl rfl rfl rfl rfl ?_ ?_ <;> (intro hb; (try simp only [hSQ] at hb); try (exfalso; omega)) <;> first | refine tG 16 ?_ | refine pG 16 ?_)) <;> (first | refine tG 17 ?_ | refine pG 17 ?_ | (refine va_caseG 17 rfl rfl rfl rfl rfl ?_ ?_ <;> (intro hb; (try simp only [hSQ] at hb); try (exfalso; omega)) <;> first | refine tG 17 ?_ | refine pG 17 ?_)) <;> (first | refine tG 18 ?_ | refine pG 18 ?_ | (refine va_caseG 18 rfl rfl rfl rfl rfl ?_ ?_ <;> (intro hb; (try simp only [hSQ] at hb); try (exfalso; omega)) <;> first | refine tG 18 ?_ | refine pG 18 ?_)) <;> (first | refine tG 19 ?_ | refine pG 19 ?_ | (refine va_caseG 19 rfl rfl rfl rfl rfl ?_ ?_ <;> (intro hb; (try simp only [hSQ] at hb); try (exfalso; omega)) <;> first | refine tG 19 ?_ | refine pG 19 ?_)) <;> (first | refine tG 20 ?_ | refine pG 20 ?_ | (refine va_caseG 20 rfl rfl rfl rfl rfl ?_ ?_ <;> (intro hb; (try simp only [hSQ] at hb); try (exfalso; omega)) <;> first | refine tG 20 ?_ | refine pG 20 ?_)) <;> (refine tA 21 ?_) <;> (refine va_done (by kernel_rfl) ?_))
      repeat' (first | (refine go1 ?_; intros) | (refine goCC ?_ ?_ <;> (intro hb; (try simp only [hSQ] at hb); try (exfalso; omega))) | fail)
      all_goals first | (exfalso; omega) | skip
      exact ⟨rfl, (i + 1, aM, cM, mm), ⟨by dsimp only; omega, hstep, hmo, by dsimp only; omega⟩, by dsimp only; omega, by (exact sbS), sei _ _ _⟩
    · rw [if_neg hfee] at hstep
      (refine v_draw0 [] (by kernel_rfl) ?_ <;> (refine tA 0 ?_) <;> (refine tA 1 ?_) <;> (refine tA 2 ?_) <;> (refine tA 3 ?_))
      first | refine va_one 4 (by kernel_rfl) rfl rfl (vo_call rfl rfl ?_) | refine va_one 4 (by kernel_rfl) rfl rfl (vo_callV rfl rfl rfl ?_)
      refine vc_mono (rin10_vc w0 _ pa pc ps (fromT x) rfl hpo hfl hps hcaps) ?_
      rintro v L' ⟨rfl, rfl⟩
      rw [← hf]
      generalize f (fromT x) = N at *
      generalize (inP (kvs ps) (fromT x)).2 = bal at *
      refine ⟨.inr entD, ?_⟩
      ((refine va_take 5 rfl rfl rfl rfl (by kernel_rfl) (fun _ _ _ _ h => h) entD (vq_field1 rfl rfl) ?_) <;> (refine tA 6 ?_) <;> (refine tA 7 ?_) <;> (first | refine tG 8 ?_ | refine pG 8 ?_ | (refine va_caseG 8 rfl rfl rfl rfl rfl ?_ ?_ <;> (intro hb; (try simp only [hSQ] at hb); try (exfalso; omega)) <;> first | refine tG 8 ?_ | refine pG 8 ?_)) <;> (first | refine tG 9 ?_ | refine pG 9 ?_ | (refine va_caseG 9 rfl rfl rfl rfl rfl ?_ ?_ <;> (intro hb; (try simp only [hSQ] at hb); try (exfalso; omega)) <;> first | refine tG 9 ?_ | refine pG 9 ?_)) <;> (first | refine tG 10 ?_ | refine pG 10 ?_ | (refine va_caseG 10 rfl rfl rfl rfl rfl ?_ ?_ <;> (intro hb; (try simp only [hSQ] at hb); try (exfalso; omega)) <;> first | refine tG 10 ?_ | refine pG 10 ?_)) <;> (first | refine tG 11 ?_ | refine pG 11 ?_ | (refine va_caseG 11 rfl rfl rfl rfl rfl ?_ ?_ <;> (intro hb; (try simp only [hSQ] at hb); try (exfalso; omega)) <;> first | refine tG 11 ?_ | refine pG 11 ?_)) <;> (first | refine tG 12 ?_ | refine pG 12 ?_ | (refine va_caseG 12 rfl rfl rfl rfl rfl ?_ ?_ <;> (intro hb; (try simp only [hSQ] at hb); try (exfalso; omega)) <;> first | refine tG 12 ?_ | refine pG 12 ?_)) <;> (first | refine tG 13 ?_ | refine pG 13 ?_ | (refine va_caseG 13 rfl rfl rfl rfl rfl ?_ ?_ <;> (intro hb; (try simp only [hSQ] at hb); try (exfalso; omega)) <;> first | refine tG 13 ?_ | refine pG 13 ?_)) <;> (first | refine tG 14 ?_ | refine pG 14 ?_ | (refine va_caseG 14 rfl rfl rfl rfl rfl ?_ ?_ <;> (intro hb; (try simp only [hSQ] at hb); try (exfalso; omega)) <;> first | refine tG 14 ?_ | refine pG 14 ?_)) <;> (first | refine tG 15 ?_ | refine pG 15 ?_ | (refine va_caseG 15 rfl rfl rfl rfl rfl ?_ ?_ <;> (intro hb; (try simp only [hSQ] at hb); try (exfalso; omega)) <;> first | refine tG 15 ?_ | refine pG 15 ?_)) <;> (first | refine tG 16 ?_ | refine pG 16 ?_ | (refine va_caseG 16 rfl rfl rfl rfl rfl ?_ ?_ <;> (intro hb; (try simp only [hSQ] at hb); try (exfalso; omega)) <;> first | refine tG 16 ?_ | refine pG 16 ?_)) <;> (first | refine tG 17 ?_ | refine pG 17 ?_ | (refine va_caseG 17 rfl rfl rfl rfl rfl ?_ ?_ <;> (intro hb; (try simp only [hSQ] at hb); try (exfalso; omega)) <;> first | refine tG 17 ?_ | refine pG 17 ?_)) <;> (first | refine tG 18 ?_ | refine pG 18 ?_ | (refine va_caseG 18 rfl rfl rfl rfl rfl ?_ ?_ <;> (intro hb; (try simp only [hSQ] at hb); try (exfalso; omega)) <;> first | refine tG 18 ?_ | refine pG 18 ?_)) <;> (first | refine tG 19 ?_ | refine pG 19 ?_ | (refine va_caseG 19 rfl rfl rfl rfl rfl ?_ ?_ <;> (intro hb; (try simp only [hSQ] at hb); try (exfalso; omega)) <;> first | refine tG 19 ?_ | refine pG 19 ?_)) <;> (first | refine tG 20 ?_ | refine pG 20 ?_ | (refine va_caseG 20 rfl rfl rfl rfl rfl ?_ ?_ <;> (intro hb; (try simp only [hSQ] at hb); try (exfalso; omega)) <;> first | refine tG 20 ?_ | refine pG 20 ?_)) <;> (refine tA 21 ?_) <;> (refine va_done (by kernel_rfl) ?_))
      repeat' (first | (refine go1 ?_; intros) | (refine goCC ?_ ?_ <;> (intro hb; (try simp only [hSQ] at hb); try (exfalso; omega))) | fail)
      all_goals first | (exfalso; omega) | skip
      (refine v_draw0 [4, 5] (by kernel_rfl) ?_ <;> (refine tA 0 ?_) <;> (refine tA 1 ?_) <;> (refine tA 2 ?_))
      first | refine va_one 3 (by kernel_rfl) rfl rfl (vo_call rfl rfl ?_) | refine va_one 3 (by kernel_rfl) rfl rfl (vo_callV rfl rfl rfl ?_)
      rw [hlc]
      refine vc_mono (rwithL_vc w0 _ l hlok hup (by omega) x hx) ?_
      rintro v L' ⟨a5, c5, rfl, rfl⟩
      have hWok : (Ln.mk l.own a5 c5 (withT l.xs x)).ok := ⟨hlok.own, hLok.with (by omega) hx⟩
      refine ⟨.inr entD, ?_⟩
      skip
      first | refine va_one 4 (by kernel_rfl) rfl rfl (vo_call rfl rfl ?_) | refine va_one 4 (by kernel_rfl) rfl rfl (vo_callV rfl rfl rfl ?_)
      refine vc_mono (rwithS_vc w0 _ aM cM mm (Ln.mk l.own a5 c5 (withT l.xs x)) rfl hmo hmmc hWok (by omega)) ?_
      rintro v L' ⟨aN, cN, mN, rfl, hN, kN, rfl⟩
      have hNl : mN.length ≤ mm.length + 1 := by
        have e1 := congrArg List.length hN
        have e2 := setC_len hmmc.srt hmo.k2 (o := l.own) hlok.own (withT l.xs x)
        rw [List.length_map] at e1 e2
        dsimp only at e1
        omega
      refine ⟨.inr entD, ?_⟩
      ((refine va_one 5 (by kernel_rfl) rfl rfl ?_; (refine goV ?_; intros); refine ⟨.inl (by kernel_rfl), ?_⟩) <;> (refine va_done (by kernel_rfl) ?_))
      repeat' (first | (refine go1 ?_; intros) | (refine goCC ?_ ?_ <;> (intro hb; (try simp only [hSQ] at hb); try (exfalso; omega))) | fail)
      exact ⟨rfl, (i + 1, aN, cN, mN), ⟨by dsimp only; omega, by dsimp only; rw [hstep, hN, ← hlo], kN, by dsimp only; omega⟩, by dsimp only; omega, by (exact sbS), sei _ _ _⟩
end Go.Proofs.YtcpndfffdbogbaaGreatDoor
