/-
  What becomes of pools: the law.
-/
import Derived.Test.YtcpndfffdbogbaaGreatDoorGPB
import Derived.Test.YtcpndfffdbogbaaGreatDoorShdW
set_option linter.unusedVariables false
set_option linter.unusedSimpArgs false
set_option linter.unusedSectionVars false
set_option maxRecDepth 100000
set_option maxHeartbeats 8000000
namespace Go.Proofs.YtcpndfffdbogbaaGreatDoor
open Go Go.RowKit
open Classical

theorem great21S_vc (w0 : World) (L : List Asn) (a : Option Addr) (c : Nat) (ss : List Sh) {n : Nat} (hn : n = ss.length) (hk : ∀ s ∈ ss, s.ls.length ≤ 9223372036854775807 ∧ ∀ p ∈ s.ls, p.own.length = 32 ∧ (∀ x ∈ p.xs, x.ok) ∧ p.xs.length ≤ 9223372036854775807) (hl : ss.length ≤ 9223372036854775807) [hr : RdC w0 L a (shc ss)] [hv : RdSs w0 L ss] :
    VC Tryz.prog w0 16 [.slice a n c] L fun v L' => ∃ b, v = .bool b ∧ (b = false → ss.length ≤ 10 ∧ SsOk ss ∧ ∀ s ∈ ss, s.ls.length ≤ 6 ∧ ∀ l ∈ s.ls, l.xs.length ≤ 20) ∧ L' = L := by
  subst hn
  refine vc_ent ?_
  refine vc_in rfl rfl ?_
  repeat' (first | (refine go1 ?_; intros) | (refine goCC ?_ ?_ <;> (intro hb; (try simp only [hSQ] at hb); try (exfalso; omega))) | fail)
  refine v_loopS Nat [0] rfl (fun i => [(3, .int .i64 i)]) (fun i => i ≤ ss.length ∧ i ≤ 10 ∧ ∀ j (hj : j < ss.length), j < i → ss[j].ls.length ≤ 6 ∧ ∀ l ∈ ss[j].ls, l.xs.length ≤ 20) (fun i => ss.length - i) 0 ⟨Nat.zero_le _, Nat.zero_le _, fun j hj h => by omega⟩ (by (exact sbS)) (fun i ⟨hi, h10, hj⟩ => ?_)
  by_cases hlt : i < ss.length ∧ i < 10
  · obtain ⟨h1, h2⟩ := hlt
    have e' := shs_e1 i h1
    have hpos : 0 < (shc ss).length := by rw [shs_len]; omega
    obtain ⟨k1, k2⟩ := hk _ (List.getElem_mem h1)
    haveI := hv.at i h1
    haveI := hv.at2 i h1
    repeat' (first | (refine go1 ?_; intros) | (refine goCC ?_ ?_ <;> (intro hb; (try simp only [hSQ] at hb); try (exfalso; omega))) | fail)
    all_goals first | (exfalso; omega) | skip
    refine clV ?_
    refine vc_mono (great20_vc w0 _ ss[i].a ss[i].c ss[i].ls rfl (fun p hp => ⟨(k2 p hp).1, (k2 p hp).2.2⟩) k1) ?_
    rintro v L' ⟨b, rfl, hg, hL⟩
    obtain rfl := hL.symm
    cases b with
    | true =>
      repeat' (first | (refine go1 ?_; intros) | (refine goCC ?_ ?_ <;> (intro hb; (try simp only [hSQ] at hb); try (exfalso; omega))) | fail)
      exact ⟨L, sei _ _ _, true, rfl, by simp, rfl⟩
    | false =>
      have hg := hg rfl
      repeat' (first | (refine go1 ?_; intros) | (refine goCC ?_ ?_ <;> (intro hb; (try simp only [hSQ] at hb); try (exfalso; omega))) | fail)
      refine ⟨rfl, i + 1, ⟨by omega, by omega, fun j hj2 hji => ?_⟩, by omega, by (exact sbS), Ent.refl _ _⟩
      by_cases e : j = i
      · subst e
        exact hg
      · exact hj j hj2 (by omega)
  · repeat' (first | (refine go1 ?_; intros) | (refine goCC ?_ ?_ <;> (intro hb; (try simp only [hSQ] at hb); try (exfalso; omega))) | fail)
    all_goals first
      | (exfalso; omega)
      | (refine ⟨L, sei _ _ _, _, rfl, fun e => ?_, rfl⟩
         have h3 := of_decide_eq_false e
         have hall : ∀ s ∈ ss, s.ls.length ≤ 6 ∧ ∀ l ∈ s.ls, l.xs.length ≤ 20 := fun s hs => by
           obtain ⟨j, hj2, rfl⟩ := List.getElem_of_mem hs
           exact hj j hj2 (by omega)
         exact ⟨by omega, ⟨fun s hs => LsOk.of0 (hk s hs).2 (hall s hs), by omega⟩, hall⟩)
theorem turnO_ts {cs : PC} {i : Int} {q : Nat → List LC × List Tx × Int} (h : ∀ k, k < cs.length → TsOk (q k).2.1) : TsOk (turnO cs i q []).2.1 := by
  unfold turnO
  split
  · rename_i hi
    split
    · exact h _ (by omega)
    · exact TsOk.nil
  · exact TsOk.nil
theorem submitO_ts {ss : List Sh} (h : SsOk ss) (ns : List Nd) (r cap : Int) {x : Tx} (hx : x.ok) : TsOk (submitO (shl ss) ns r cap x).2.1 := by
  unfold submitO
  split
  · refine turnO_ts (fun k hk => ?_)
    rw [atC_eq hk, shl_at]
    exact submitS_ok (ms := []) (h.at k (by rwa [shl_length] at hk)) hx
  · exact TsOk.nil
theorem drawO_ts {ss : List Sh} (h : SsOk ss) (h6 : ∀ s ∈ ss, s.ls.length ≤ 6 ∧ ∀ l ∈ s.ls, l.xs.length ≤ 20) (ns : List Nd) (r i room : Int) : TsOk (drawO (shl ss) ns r i room).2.1 := by
  unfold drawO
  split
  · refine turnO_ts (fun k hk => ?_)
    rw [atC_eq hk, shl_at]
    have hk' : k < ss.length := by rwa [shl_length] at hk
    exact drawQ_ts (h.at k hk') (h6 _ (List.getElem_mem hk')).1 (h6 _ (List.getElem_mem hk')).2 ns r room
  · exact TsOk.nil
theorem backO_ts {cs : PC} (ns : List Nd) (r i : Int) {l : List Tx} (h : TsOk l) : TsOk (backO cs ns r i l).2.1 := by
  unfold backO
  split
  · refine turnO_ts (fun k hk => ?_)
    have := h.filter (fun x => !ofO i cs.length x) l.length
    rwa [List.take_length] at this
  · exact TsOk.nil
theorem shA_capW (w0 : World) (L : List Asn) (ss : List Sh) [h : HasSh L ss] (w : World) (hs : St w0 w L) : ∀ s ∈ ss, ∀ l ∈ s.ls, l.xs.length ≤ l.c := fun s hm l hl => by
  obtain ⟨i, hi⟩ := h.out
  refine hs.know i hi (fun F hF => ?_)
  obtain ⟨G, hG⟩ := SLs.mem (P := tsA s.ls) hF (List.mem_flatMap.2 ⟨s, hm, by simp⟩)
  obtain ⟨G2, h0, hG2⟩ := SLs.mem (P := ownTs l.a l.c l.xs) hG (List.mem_map.2 ⟨l, hl, rfl⟩)
  rcases hG2 with ⟨_, e1, e2⟩ | ⟨g, off, cs, _, _, _, h1, _⟩
  · omega
  · exact h1
theorem shl_six {us ss : List Sh} (h : shl us = shl ss) (h6 : ∀ s ∈ ss, s.ls.length ≤ 6 ∧ ∀ l ∈ s.ls, l.xs.length ≤ 20) : ∀ s ∈ us, s.ls.length ≤ 6 ∧ ∀ l ∈ s.ls, l.xs.length ≤ 20 := fun s hs => by
  have : lls s.ls ∈ shl ss := by rw [← h]; exact List.mem_map.2 ⟨s, hs, rfl⟩
  obtain ⟨t, ht, e⟩ := List.mem_map.1 this
  obtain ⟨h1, h2⟩ := h6 t ht
  refine ⟨by rw [← lls_len e]; exact h1, fun l hl => ?_⟩
  have : l.pl ∈ lls t.ls := by rw [e]; exact List.mem_map.2 ⟨l, hl, rfl⟩
  obtain ⟨k, hk, e2⟩ := List.mem_map.1 this
  rw [show l.xs = k.xs from (congrArg Prod.snd e2).symm]
  exact h2 k hk
theorem poolDoes_vc (w0 : World) (a : Option Addr) (c : Nat) (ss : List Sh) (b : Option Addr) (d : Nat) (ns : List Nd) (r I cap : Int) (x : Tx) (e : Option Addr) (g : Nat) (xs : List Tx) {n : Nat} (hn : n = ss.length) (hw : ∀ s ∈ ss, s.ls.length ≤ 9223372036854775807 ∧ ∀ p ∈ s.ls, p.own.length = 32 ∧ (∀ x ∈ p.xs, x.ok) ∧ p.xs.length ≤ 9223372036854775807) (hsl : ss.length ≤ 9223372036854775807) (hkey : ∀ p ∈ ns, p.key.length = 32) (hnl : ns.length ≤ 9223372036854775807) (hro : -9223372036854775808 ≤ cap ∧ cap < 9223372036854775808) (hxo : x.ok) {en : Nat} (hen : en = xs.length) (hx : ∀ x ∈ xs, x.ok) (hxl : xs.length ≤ 9223372036854775807) [hK : RdA w0 (some ⟨0, 0, none⟩) (wds K64)] [hr : RdA w0 a (shc ss)] [hv : RdSs w0 [] ss] [gr : RdA w0 b (ndc ns)] [gv : RdNs w0 [] ns] [er : RdA w0 e (txc xs)] :
    VC Tryz.prog w0 4 [.slice a n c, .agg #[.slice b ns.length d, .int .i64 r], .int .i64 I, .int .i64 cap, .agg x.cells.toArray, .slice e en g] [] fun u L' => u = .bool true := by
  subst hn
  subst hen
  have hcl := Tx.len hxo
  haveI oxc : OC x.cells := oc_tx _
  refine vc_in rfl rfl ?_
  obtain ⟨xc, hxc⟩ : ∃ xc, xc = x.cells := ⟨_, rfl⟩
  rw [← hxc] at hcl oxc ⊢
  repeat' (first | (refine go1 ?_; intros) | (refine goCC ?_ ?_ <;> (intro hb; (try simp only [hSQ] at hb); try (exfalso; omega))) | fail)
  refine clV ?_
  refine vc_mono (great21S_vc w0 _ a c ss rfl hw hsl) ?_
  rintro u L' ⟨b1, rfl, hg, rfl⟩
  cases b1
  rotate_left
  · repeat' (first | (refine go1 ?_; intros) | (refine goCC ?_ ?_ <;> (intro hb; (try simp only [hSQ] at hb); try (exfalso; omega))) | fail)
    exact rfl
  obtain ⟨h10s, h, h6⟩ := hg rfl
  repeat' (first | (refine go1 ?_; intros) | (refine goCC ?_ ?_ <;> (intro hb; (try simp only [hSQ] at hb); try (exfalso; omega))) | fail)
  refine clV ?_
  refine vc_mono (great6_vc w0 _ b d ns r 600 rfl (by decide) hkey hnl) ?_
  rintro u L' ⟨b2, rfl, gg, rfl⟩
  cases b2
  rotate_left
  · repeat' (first | (refine go1 ?_; intros) | (refine goCC ?_ ?_ <;> (intro hb; (try simp only [hSQ] at hb); try (exfalso; omega))) | fail)
    exact rfl
  obtain ⟨hg1, hg2⟩ := gg rfl
  have hok : NsOk ns := ⟨hkey, fun p hp => by have := hg2 p hp; omega, by omega⟩
  by_cases h10 : xs.length ≤ 10
  rotate_left
  · repeat' (first | (refine go1 ?_; intros) | (refine goCC ?_ ?_ <;> (intro hb; (try simp only [hSQ] at hb); try (exfalso; omega))) | fail)
    all_goals first | (exfalso; omega) | exact rfl
  have hxs : TsOk xs := ⟨hx, by omega⟩
  repeat' (first | (refine go1 ?_; intros) | (refine goCC ?_ ?_ <;> (intro hb; (try simp only [hSQ] at hb); try (exfalso; omega))) | fail)
  all_goals first | (exfalso; omega) | skip
  refine clV ?_
  refine vc_mono (rtwin21_vc w0 _ a c ss rfl h) ?_
  rintro u L' ⟨a0, c0, us, rfl, hus, rfl⟩
  have huo := h.of_shl hus
  have hul := shl_len hus
  have hu6 := shl_six hus h6
  refine vl_know (φ := ∀ s ∈ us, ∀ l ∈ s.ls, l.xs.length ≤ l.c) (fun w hs => shA_capW w0 _ us w hs) (fun huc => ?_)
  repeat' (first | (refine go1 ?_; intros) | (refine goCC ?_ ?_ <;> (intro hb; (try simp only [hSQ] at hb); try (exfalso; omega))) | fail)
  refine clV ?_
  rw [hxc]
  refine vc_mono (psubmit_vc w0 _ a0 c0 us cap b d ns r x rfl rfl huo (fun s hs => by have := (hu6 s hs).1; omega) hok hxo) ?_
  rw [hus, ← hxc]
  rintro u L' ⟨a1, c1, m1, b1, d1, rfl, h1, k1, rfl⟩
  repeat' (first | (refine go1 ?_; intros) | (refine goCC ?_ ?_ <;> (intro hb; (try simp only [hSQ] at hb); try (exfalso; omega))) | fail)
  refine clV ?_
  rw [hxc]
  refine vc_mono (rsubmit21_vc w0 _ a c ss cap b d ns r x rfl rfl h (fun s hs => by have := (h6 s hs).1; omega) hok hxo) ?_
  rw [← hxc]
  rintro u L' ⟨a2, c2, m2, b2, d2, rfl, h2, k2, rfl⟩
  have hgo := submitO_ts h ns r cap hxo
  have h12 : shl m1 = shl m2 := h1.trans h2.symm
  generalize (submitO (shl ss) ns r cap x).2.1 = go at *
  generalize (submitO (shl ss) ns r cap x).2.2 = E1 at *
  repeat' (first | (refine go1 ?_; intros) | (refine goCC ?_ ?_ <;> (intro hb; (try simp only [hSQ] at hb); try (exfalso; omega))) | fail)
  refine clV ?_
  refine vc_mono (pdraw_vc w0 _ a0 c0 us I b d ns r cap rfl rfl huo (fun s hs => ⟨(hu6 s hs).1, (hu6 s hs).2, huc s hs⟩) hok hro) ?_
  rw [hus]
  rintro u L' ⟨a3, c3, m3, b3, d3, rfl, h3, k3, rfl⟩
  repeat' (first | (refine go1 ?_; intros) | (refine goCC ?_ ?_ <;> (intro hb; (try simp only [hSQ] at hb); try (exfalso; omega))) | fail)
  refine clV ?_
  refine vc_mono (rdraw21_vc w0 _ a c ss I b d ns r cap rfl rfl h h6 hok) ?_
  rintro u L' ⟨a4, c4, m4, b4, d4, rfl, h4, k4, rfl⟩
  have hdo := drawO_ts h h6 ns r I cap
  have h34 : shl m3 = shl m4 := h3.trans h4.symm
  generalize (drawO (shl ss) ns r I cap).2.1 = dr at *
  generalize (drawO (shl ss) ns r I cap).2.2 = E2 at *
  repeat' (first | (refine go1 ?_; intros) | (refine goCC ?_ ?_ <;> (intro hb; (try simp only [hSQ] at hb); try (exfalso; omega))) | fail)
  refine clV ?_
  refine vc_mono (pback_vc w0 _ a0 c0 us I b d ns r e g xs rfl rfl rfl huo (fun s hs => by have := (hu6 s hs).1; omega) hok hxs (by omega)) ?_
  rw [hus]
  rintro u L' ⟨a5, c5, m5, b5, d5, rfl, h5, k5, rfl⟩
  repeat' (first | (refine go1 ?_; intros) | (refine goCC ?_ ?_ <;> (intro hb; (try simp only [hSQ] at hb); try (exfalso; omega))) | fail)
  refine clV ?_
  refine vc_mono (rback21_vc w0 _ a c ss I b d ns r e g xs rfl rfl rfl h (fun s hs => by have := (h6 s hs).1; omega) hok hxs (by omega)) ?_
  rintro u L' ⟨a6, c6, m6, b6, d6, rfl, h6', k6, rfl⟩
  have hbo := backO_ts (cs := shl ss) ns r I hxs
  have h56 : shl m5 = shl m6 := h5.trans h6'.symm
  generalize (backO (shl ss) ns r I xs).2.1 = bk at *
  generalize (backO (shl ss) ns r I xs).2.2 = E3 at *
  repeat' (first | (refine go1 ?_; intros) | (refine goCC ?_ ?_ <;> (intro hb; (try simp only [hSQ] at hb); try (exfalso; omega))) | fail)
  refine clV ?_
  refine vc_mono (rsame21_vc w0 _ a1 c1 m1 a2 c2 m2 rfl rfl k1 k2) ?_
  rintro u L' ⟨rfl, rfl⟩
  rw [decide_eq_true h12]
  repeat' (first | (refine go1 ?_; intros) | (refine goCC ?_ ?_ <;> (intro hb; (try simp only [hSQ] at hb); try (exfalso; omega))) | fail)
  refine clV ?_
  refine vc_mono (rsameTs_vc w0 _ b1 d1 go b2 d2 go rfl rfl hgo hgo) ?_
  rintro u L' ⟨rfl, rfl⟩
  rw [decide_eq_true rfl]
  repeat' (first | (refine goE ?_; intros) | (refine goCC ?_ ?_ <;> (intro hb; (try simp only [hSQ] at hb); try (exfalso; omega))) | fail)
  all_goals first | (exfalso; omega) | skip
  refine clV ?_
  refine vc_mono (rsame21_vc w0 _ a3 c3 m3 a4 c4 m4 rfl rfl k3 k4) ?_
  rintro u L' ⟨rfl, rfl⟩
  rw [decide_eq_true h34]
  repeat' (first | (refine goE ?_; intros) | (refine goCC ?_ ?_ <;> (intro hb; (try simp only [hSQ] at hb); try (exfalso; omega))) | fail)
  all_goals first | (exfalso; omega) | skip
  refine clV ?_
  refine vc_mono (rsameTs_vc w0 _ b3 d3 dr b4 d4 dr rfl rfl hdo hdo) ?_
  rintro u L' ⟨rfl, rfl⟩
  rw [decide_eq_true rfl]
  repeat' (first | (refine goE ?_; intros) | (refine goCC ?_ ?_ <;> (intro hb; (try simp only [hSQ] at hb); try (exfalso; omega))) | fail)
  all_goals first | (exfalso; omega) | skip
  refine clV ?_
  refine vc_mono (rsame21_vc w0 _ a5 c5 m5 a6 c6 m6 rfl rfl k5 k6) ?_
  rintro u L' ⟨rfl, rfl⟩
  rw [decide_eq_true h56]
  repeat' (first | (refine goE ?_; intros) | (refine goCC ?_ ?_ <;> (intro hb; (try simp only [hSQ] at hb); try (exfalso; omega))) | fail)
  all_goals first | (exfalso; omega) | skip
  refine clV ?_
  refine vc_mono (rsameTs_vc w0 _ b5 d5 bk b6 d6 bk rfl rfl hbo hbo) ?_
  rintro u L' ⟨rfl, rfl⟩
  rw [decide_eq_true rfl]
  repeat' (first | (refine goE ?_; intros) | (refine goCC ?_ ?_ <;> (intro hb; (try simp only [hSQ] at hb); try (exfalso; omega))) | fail)
  all_goals first | (exfalso; omega) | skip
  refine clV ?_
  refine vc_mono (rsame21_vc w0 _ a0 c0 us a c ss rfl rfl huo h) ?_
  rintro u L' ⟨rfl, rfl⟩
  rw [decide_eq_true hus]
  repeat' (first | (refine goE ?_; intros) | (refine goCC ?_ ?_ <;> (intro hb; (try simp only [hSQ] at hb); try (exfalso; omega))) | fail)
  exact rfl
end Go.Proofs.YtcpndfffdbogbaaGreatDoor
