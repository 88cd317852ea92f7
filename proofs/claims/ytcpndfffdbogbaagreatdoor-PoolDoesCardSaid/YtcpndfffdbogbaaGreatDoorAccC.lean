/-
  Accounts: the document's reading, whether pairs are all accounts, whether a tree is a state, a key's account among pairs.
-/
import Derived.Test.YtcpndfffdbogbaaGreatDoorGP
import Derived.Test.YtcpndfffdbogbaaGreatDoorPairE
import Derived.Test.YtcpndfffdbogbaaGreatDoorG7
set_option linter.unusedVariables false
set_option linter.unusedSimpArgs false
set_option linter.unusedSectionVars false
set_option maxRecDepth 100000
set_option maxHeartbeats 1000000
namespace Go.Proofs.YtcpndfffdbogbaaGreatDoor
open Go Go.RowKit
open Classical

theorem rread10_vc (w0 : World) (L : List Asn) (a : Option Addr) (cap : Nat) (b : List UInt8) {n : Nat} (hn : n = b.length) (hcap : b.length ≤ cap) (hl : b.length ≤ 1000000000000) [hr : RdC w0 L a (bvs b)] :
    VC Tryz.prog w0 126 [.slice a n cap] L fun v L' => v = .tuple #[.agg #[.int .u64 (accR b).1, .int .u64 (accR b).2.1], .int .i64 (accR b).2.2] ∧ L' = L := by
  subst hn
  refine vc_ent ?_
  refine vc_in rfl rfl ?_
  by_cases h1 : b.length < 16
  · rw [accR_short h1]
    repeat' (first | (refine go1 ?_; intros) | (refine goCC ?_ ?_ <;> (intro hb; (try simp only [hSQ] at hb); try (exfalso; omega))) | fail)
    all_goals exact ⟨_, sei _ _ L, rfl, rfl⟩
  by_cases h2 : 16 < b.length
  · rw [accR_long h2]
    repeat' (first | (refine go1 ?_; intros) | (refine goCC ?_ ?_ <;> (intro hb; (try simp only [hSQ] at hb); try (exfalso; omega))) | fail)
    all_goals exact ⟨_, sei _ _ L, rfl, rfl⟩
  have h16 : b.length = 16 := by omega
  repeat' (first | (refine go1 ?_; intros) | (refine goCC ?_ ?_ <;> (intro hb; (try simp only [hSQ] at hb); try (exfalso; omega))) | fail)
  rename_i g2 _
  haveI r1 : ∀ (M : List Asn) [RdC w0 M a (bvs b)], RdC w0 M (subA a 0 cap 1) (bvs (b.take 8)) := fun M _ => rd_cut 0 8 cap (by omega)
  haveI r2 : ∀ (M : List Asn) [RdC w0 M a (bvs b)], RdC w0 M (subA a 8 cap 1) (bvs (b.drop 8)) := fun M _ => rd_drop 8 cap hcap
  have hlt1 := numOf_lt (b.take 8)
  have hlt2 := numOf_lt (b.drop 8)
  refine v_cut Nat [0, 2, 3] rfl (fun g => [(4, .pointer (some ⟨g, 0, none⟩))]) (fun g => blk g 80 [.int .u64 (numOf (b.take 8)), .int .u64 (numOf (b.drop 8))] :: blk g2 80 [.int .u64 0, .int .u64 0] :: L) ?_ ?_
  · refine v_id ?_
    refine v_draw0 [] (by kernel_rfl) ?_
    refine tA 0 ?_
    refine tA 1 ?_
    refine tA 3 ?_
    refine tA 4 ?_
    refine va_two 2 7 (by kernel_rfl) rfl rfl rfl rfl ?_ ?_
    · first | refine vo_call rfl rfl ?_ | refine vo_callV rfl rfl rfl ?_
      refine vc_mono (number_vc w0 _ _ _ (b.take 8) (by first | (simp; done) | (simp; omega)) (by first | (simp; done) | (simp; omega))) ?_
      rintro v L' ⟨rfl, rfl⟩
      refine ⟨.inr (sei _ _ _), ?_⟩
      refine va_two 5 7 (by kernel_rfl) rfl rfl rfl rfl ?_ ?_
      · first | refine vo_call rfl rfl ?_ | refine vo_callV rfl rfl rfl ?_
        refine vc_mono (number_vc w0 _ _ _ (b.drop 8) (by first | (simp; done) | (simp; omega)) (by first | (simp; done) | (simp; omega))) ?_
        rintro v L' ⟨rfl, rfl⟩
        refine ⟨.inr (sei _ _ _), ?_⟩
        refine tA 6 ?_
        refine va_one 7 (by kernel_rfl) rfl rfl ?_
        (refine goV ?_; intros)
        refine ⟨.inr (sei _ _ _), ?_⟩
        refine va_one 8 (by kernel_rfl) rfl rfl ?_
        (refine goV ?_; intros)
        refine ⟨.inr (sei _ _ _), ?_⟩
        refine va_done (by kernel_rfl) ?_
        refine ⟨rfl, _, by (exact sbS), ?_⟩
        dsimp only
        exact sei _ _ _
      · (refine goV ?_; intros)
        refine ⟨.inr (sei _ _ _), ?_⟩
        refine va_one 5 (by kernel_rfl) rfl rfl ?_
        first | refine vo_call rfl rfl ?_ | refine vo_callV rfl rfl rfl ?_
        refine vc_mono (number_vc w0 _ _ _ (b.drop 8) (by first | (simp; done) | (simp; omega)) (by first | (simp; done) | (simp; omega))) ?_
        rintro v L' ⟨rfl, rfl⟩
        refine ⟨.inr (sei _ _ _), ?_⟩
        refine tA 6 ?_
        refine va_one 8 (by kernel_rfl) rfl rfl ?_
        (refine goV ?_; intros)
        refine ⟨.inr (sei _ _ _), ?_⟩
        refine va_done (by kernel_rfl) ?_
        refine ⟨rfl, _, by (exact sbS), ?_⟩
        dsimp only
        exact sei _ _ _
    · (refine goV ?_; intros)
      refine ⟨.inr (sei _ _ _), ?_⟩
      refine va_one 2 (by kernel_rfl) rfl rfl ?_
      first | refine vo_call rfl rfl ?_ | refine vo_callV rfl rfl rfl ?_
      refine vc_mono (number_vc w0 _ _ _ (b.take 8) (by first | (simp; done) | (simp; omega)) (by first | (simp; done) | (simp; omega))) ?_
      rintro v L' ⟨rfl, rfl⟩
      refine ⟨.inr (sei _ _ _), ?_⟩
      refine va_one 5 (by kernel_rfl) rfl rfl ?_
      first | refine vo_call rfl rfl ?_ | refine vo_callV rfl rfl rfl ?_
      refine vc_mono (number_vc w0 _ _ _ (b.drop 8) (by first | (simp; done) | (simp; omega)) (by first | (simp; done) | (simp; omega))) ?_
      rintro v L' ⟨rfl, rfl⟩
      refine ⟨.inr (sei _ _ _), ?_⟩
      refine tA 6 ?_
      refine va_one 8 (by kernel_rfl) rfl rfl ?_
      (refine goV ?_; intros)
      refine ⟨.inr (sei _ _ _), ?_⟩
      refine va_done (by kernel_rfl) ?_
      refine ⟨rfl, _, by (exact sbS), ?_⟩
      dsimp only
      exact sei _ _ _
  intro g4
  by_cases hz : numOf (b.take 8) = 0 ∧ numOf (b.drop 8) = 0
  · rw [accR_zero h16 hz.1 hz.2, hz.1, hz.2]
    repeat' (first | (refine go1 ?_; intros) | (refine goCC ?_ ?_ <;> (intro hb; (try simp only [hSQ] at hb); try (exfalso; omega))) | fail)
    all_goals exact ⟨_, sei _ _ L, rfl, rfl⟩
  · rw [accR_ok h16 hz]
    generalize numOf (b.take 8) = N at *
    generalize numOf (b.drop 8) = M at *
    repeat' (first | (refine go1 ?_; intros) | (refine goCC ?_ ?_ <;> (intro hb; (try simp only [hSQ] at hb); try (exfalso; omega))) | fail)
    all_goals first | (exfalso; omega) | exact ⟨_, sei _ _ L, rfl, rfl⟩
theorem rheld10_vc (w0 : World) (L : List Asn) (a : Option Addr) (c : Nat) (ps : List PR) {n : Nat} (hn : n = ps.length) (h : PsOk ps) (hcaps : ∀ p ∈ ps, p.v.length ≤ p.c) [hr : RdC w0 L a (prc ps)] [hv : RdVs w0 L ps] :
    VC Tryz.prog w0 82 [.slice a n c] L fun v L' => v = .bool (decide (heldP (kvs ps))) ∧ L' = L := by
  subst hn
  have hlen := h.len
  refine vc_ent ?_
  refine vc_in rfl rfl ?_
  repeat' (first | (refine go1 ?_; intros) | (refine goCC ?_ ?_ <;> (intro hb; (try simp only [hSQ] at hb); try (exfalso; omega))) | fail)
  refine v_loopS Nat [0] rfl (fun i => [(3, .int .i64 i)]) (fun i => i ≤ ps.length ∧ ∀ j (hj : j < ps.length), j < i → (accR ps[j].v).2.2 = 0) (fun i => ps.length - i) 0 ⟨Nat.zero_le _, fun j _ h => by omega⟩ (by (exact sbS)) (fun i ⟨hi, hall⟩ => ?_)
  by_cases hlt : i < ps.length
  rotate_left
  · obtain rfl : i = ps.length := by omega
    have hst : heldP (kvs ps) := fun x hx => by
      obtain ⟨p, hp, rfl⟩ := List.mem_map.1 hx
      obtain ⟨j, hj, rfl⟩ := List.getElem_of_mem hp
      exact hall j hj hj
    rw [decide_eq_true hst]
    repeat' (first | (refine go1 ?_; intros) | (refine goCC ?_ ?_ <;> (intro hb; (try simp only [hSQ] at hb); try (exfalso; omega))) | fail)
    exact ⟨_, sei _ _ L, rfl, rfl⟩
  have e1 := h.e1 i hlt
  have hpos := h.pos i hlt
  have hvl := h.vlat i hlt
  have hcp := hcaps _ (List.getElem_mem hlt)
  haveI := hv.at i hlt
  have hnext : (accR ps[i].v).2.2 = 0 → ∀ j (hj : j < ps.length), j < i + 1 → (accR ps[j].v).2.2 = 0 := fun hq j hj hji => by
    by_cases e2 : j = i
    · subst e2; exact hq
    · exact hall j hj (by omega)
  have hmi : heldP (kvs ps) → (accR ps[i].v).2.2 = 0 := fun e => e _ (List.mem_map.2 ⟨_, List.getElem_mem hlt, rfl⟩)
  generalize ps[i] = p at *
  repeat' (first | (refine go1 ?_; intros) | (refine goCC ?_ ?_ <;> (intro hb; (try simp only [hSQ] at hb); try (exfalso; omega))) | fail)
  refine clV ?_
  refine vc_mono (rread10_vc w0 _ p.a p.c p.v rfl hcp (by omega)) ?_
  rintro v L' ⟨rfl, hL⟩
  obtain rfl := hL.symm
  have hlta := accR_lt p.v
  generalize (accR p.v).2.2 = E at *
  by_cases hE : E = 0
  · subst hE
    repeat' (first | (refine go1 ?_; intros) | (refine goCC ?_ ?_ <;> (intro hb; (try simp only [hSQ] at hb); try (exfalso; omega))) | fail)
    all_goals first | (exfalso; omega) | skip
    exact ⟨rfl, i + 1, ⟨by omega, hnext rfl⟩, by omega, by (exact sbS), sei _ _ _⟩
  · rw [decide_eq_false (fun e => hE (hmi e))]
    repeat' (first | (refine go1 ?_; intros) | (refine goCC ?_ ?_ <;> (intro hb; (try simp only [hSQ] at hb); try (exfalso; omega))) | fail)
    all_goals first | (exfalso; omega) | skip
    exact ⟨_, sei _ _ L, rfl, rfl⟩
theorem rin10_vc (w0 : World) (L : List Asn) (a : Option Addr) (c : Nat) (ps : List PR) (k : List UInt8) {n : Nat} (hn : n = ps.length) (h : PsOk ps) (hk : k.length = 32) (hs : Srt (kvs ps)) (hcaps : ∀ p ∈ ps, p.v.length ≤ p.c) [hr : RdC w0 L a (prc ps)] [hv : RdVs w0 L ps] :
    VC Tryz.prog w0 83 [.slice a n c, .agg (bvs k).toArray] L fun v L' => v = .agg #[.int .u64 (inP (kvs ps) k).1, .int .u64 (inP (kvs ps) k).2] ∧ L' = L := by
  subst hn
  have hlen := h.len
  unfold inP
  refine vc_ent ?_
  refine vc_in rfl rfl ?_
  repeat' (first | (refine go1 ?_; intros) | (refine goCC ?_ ?_ <;> (intro hb; (try simp only [hSQ] at hb); try (exfalso; omega))) | fail)
  refine clV ?_
  refine vc_mono (rfind_vc w0 _ a c ps k rfl h hk hs) ?_
  rintro v L' ⟨rfl, rfl⟩
  have hh := has_at hs h.k32 hk
  cases hb : has (kvs ps) k
  · rw [show findI (kvs ps) k = -1 by rw [findI, if_neg (by rw [hb]; simp)], if_neg (by simp)]
    repeat' (first | (refine go1 ?_; intros) | (refine goCC ?_ ?_ <;> (intro hb; (try simp only [hSQ] at hb); try (exfalso; omega))) | fail)
    exact ⟨_, sei _ _ L, rfl, rfl⟩
  · rw [hb] at hh
    obtain ⟨hi, hke⟩ := hh.1 rfl
    have hge := has_get hs h.k32 hk hb hi
    have hfi : findI (kvs ps) k = ((lowF (kvs ps) k).length : Int) := by rw [findI, if_pos hb]
    obtain ⟨at', hat⟩ : ∃ at', at' = (lowF (kvs ps) k).length := ⟨_, rfl⟩
    have hlt : at' < ps.length := by rw [hat]; simpa using hi
    have e1 := h.e1 at' hlt
    have hpos := h.pos at' hlt
    have hvl := h.vlat at' hlt
    have hcp := hcaps _ (List.getElem_mem hlt)
    haveI := hv.at at' hlt
    have hval : ps[at'].v = getF (kvs ps) k := by
      have : (kvs ps)[at']'(by simpa using hlt) = (k, getF (kvs ps) k) := by rw [← hge]; congr 1
      have := congrArg Prod.snd this
      simpa [PR.kv] using this
    rw [← hat] at hfi
    rw [hfi, ← hval, if_pos rfl]
    generalize ps[at'] = p at *
    repeat' (first | (refine go1 ?_; intros) | (refine goCC ?_ ?_ <;> (intro hb; (try simp only [hSQ] at hb); try (exfalso; omega))) | fail)
    refine clV ?_
    refine vc_mono (rread10_vc w0 _ p.a p.c p.v rfl hcp (by omega)) ?_
    rintro v L' ⟨rfl, rfl⟩
    repeat' (first | (refine go1 ?_; intros) | (refine goCC ?_ ?_ <;> (intro hb; (try simp only [hSQ] at hb); try (exfalso; omega))) | fail)
    exact ⟨_, sei _ _ L, rfl, rfl⟩
theorem vsA_capH (w0 : World) (L : List Asn) (ps : List PR) [h : HasPs L (ps.map PR.pb)] (w : World) (hs : St w0 w L) : ∀ p ∈ ps, p.v.length ≤ p.c := fun p hp => by
  obtain ⟨i, hi, rfl⟩ := List.getElem_of_mem hp
  have := psA_capH w0 L (ps.map PR.pb) i (by simpa using hi) w hs
  rw [List.getElem_map] at this
  exact this
theorem rmay10_vc (w0 : World) (L : List Asn) (a : Option Addr) (c : Nat) (ns : List Nd) (r : Int) {n : Nat} (hn : n = ns.length) (hok : NsOk ns) [hr : RdC w0 L a (ndc ns)] [hv : RdNs w0 L ns] :
    VC Tryz.prog w0 38 [.agg #[.slice a n c, .int .i64 r]] L fun v L' => v = .bool (decide (StP ns r)) ∧ L' = L := by
  subst hn
  refine vc_ent ?_
  refine vc_in rfl rfl ?_
  repeat' (first | (refine go1 ?_; intros) | (refine goCC ?_ ?_ <;> (intro hb; (try simp only [hSQ] at hb); try (exfalso; omega))) | fail)
  refine clV ?_
  refine vc_mono (may6_vc w0 _ a c ns r rfl hok) ?_
  rintro v L' ⟨rfl, rfl⟩
  by_cases hm : MayP ns r
  rotate_left
  · rw [decide_eq_false hm, decide_eq_false (fun e => hm e.1)]
    repeat' (first | (refine go1 ?_; intros) | (refine goCC ?_ ?_ <;> (intro hb; (try simp only [hSQ] at hb); try (exfalso; omega))) | fail)
    exact ⟨_, sei _ _ L, rfl, rfl⟩
  rw [decide_eq_true hm]
  repeat' (first | (refine go1 ?_; intros) | (refine goCC ?_ ?_ <;> (intro hb; (try simp only [hSQ] at hb); try (exfalso; omega))) | fail)
  refine clV ?_
  refine vc_mono (all6_vc w0 _ a c ns r rfl hok hm) ?_
  rintro v L' ⟨a1, c1, ps, rfl, hps, rfl⟩
  have hpo := all_ok hok hm hps
  refine vl_know (φ := ∀ p ∈ ps, p.v.length ≤ p.c) (fun w hs => vsA_capH w0 _ ps w hs) (fun hcs => ?_)
  repeat' (first | (refine go1 ?_; intros) | (refine goCC ?_ ?_ <;> (intro hb; (try simp only [hSQ] at hb); try (exfalso; omega))) | fail)
  refine clV ?_
  refine vc_mono (rheld10_vc w0 _ a1 c1 ps rfl hpo hcs) ?_
  rintro v L' ⟨rfl, rfl⟩
  rw [show decide (heldP (kvs ps)) = decide (StP ns r) by rw [hps]; simp [StP, hm]]
  repeat' (first | (refine go1 ?_; intros) | (refine goCC ?_ ?_ <;> (intro hb; (try simp only [hSQ] at hb); try (exfalso; omega))) | fail)
  exact ⟨_, sei _ _ L, rfl, rfl⟩
end Go.Proofs.YtcpndfffdbogbaaGreatDoor
