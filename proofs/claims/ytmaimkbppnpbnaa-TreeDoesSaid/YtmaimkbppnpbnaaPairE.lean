/-
  Pairs: the document's walks.
-/
import Derived.Test.YtmaimkbppnpbnaaGL
import Derived.Test.YtmaimkbppnpbnaaGK
set_option linter.unusedVariables false
set_option linter.unusedSimpArgs false
namespace Go.Proofs.Ytmaimkbppnpbnaa
open Go Go.RowKit
set_option linter.unusedVariables false
set_option linter.unusedSimpArgs false
open Classical

/-- The place of a key, by going through all. -/
noncomputable def findI (l : List KV) (k : List UInt8) : Int := if has l k = true then ((lowF l k).length : Int) else -1
set_option maxRecDepth 100000 in
theorem rfind_vc (w0 : World) (L : List Asn) (a : Option Addr) (cap : Nat) (ps : List PR) (k : List UInt8) {n : Nat} (hn : n = ps.length) (h : PsOk ps) (hk : k.length = 32) (hs : Srt (kvs ps)) [hr : RdC w0 L a (prc ps)] :
    VC Try.prog w0 25 [.slice a n cap, .agg (bvs k).toArray] L fun v L' => v = .int .i64 (findI (kvs ps) k) ∧ L' = L := by
  subst hn
  have hlen := h.len
  refine vc_ent ?_
  refine vc_in rfl rfl ?_
  repeat' (first | (refine go1 ?_; intros) | (refine vl_caseG rfl rfl rfl rfl ?_ ?_ <;> (intro hb; (try simp only [decide_eq_true_eq, decide_eq_false_iff_not, Bool.not_eq_true', Bool.not_eq_false', ne_eq, Decidable.not_not, Option.isNone_iff_eq_none, not_true_eq_false, not_false_eq_true] at hb); try (exfalso; omega))) | (refine v_cond rfl ?_ ?_ <;> (intro hb; (try simp only [decide_eq_true_eq, decide_eq_false_iff_not, Bool.not_eq_true', Bool.not_eq_false', ne_eq, Decidable.not_not, Option.isNone_iff_eq_none, not_true_eq_false, not_false_eq_true] at hb); try (exfalso; omega))) | fail)
  refine v_loopS Nat [0, 3] rfl (fun i => [(5, .int .i64 i)]) (fun i => i ≤ ps.length ∧ ∀ j (hj : j < ps.length), j < i → ¬ ps[j].key = k) (fun i => ps.length - i) 0 ⟨Nat.zero_le _, fun j hj h => by omega⟩ (by (repeat' (first | exact Sub.nil _ | refine Sub.cons rfl rfl ?_ | refine Sub.cons rfl ?_ ?_))) (fun i ⟨hi, hp⟩ => ?_)
  by_cases hlt : i < ps.length
  · have e0 := h.e0 i hlt
    have hk32 := h.k32at i hlt
    have hpos := h.pos i hlt
    repeat' (first | (refine go1 ?_; intros) | (refine vl_caseG rfl rfl rfl rfl ?_ ?_ <;> (intro hb; (try simp only [decide_eq_true_eq, decide_eq_false_iff_not, Bool.not_eq_true', Bool.not_eq_false', ne_eq, Decidable.not_not, Option.isNone_iff_eq_none, not_true_eq_false, not_false_eq_true] at hb); try (exfalso; omega))) | (refine v_cond rfl ?_ ?_ <;> (intro hb; (try simp only [decide_eq_true_eq, decide_eq_false_iff_not, Bool.not_eq_true', Bool.not_eq_false', ne_eq, Decidable.not_not, Option.isNone_iff_eq_none, not_true_eq_false, not_false_eq_true] at hb); try (exfalso; omega))) | fail)
    (refine v_draw0 [] (by kernel_rfl) ?_ <;> (refine va_takeA 0 rfl rfl rfl rfl ?_) <;> (refine va_takeA 1 rfl rfl rfl rfl ?_) <;> (refine va_takeA 2 rfl rfl rfl rfl ?_) <;> (refine va_takeA 3 rfl rfl rfl rfl ?_) <;> (refine va_takeA 4 rfl rfl rfl rfl ?_) <;> (refine va_takeA 5 rfl rfl rfl rfl ?_) <;> (refine va_takeA 6 rfl rfl rfl rfl ?_) <;> (refine va_done (by kernel_rfl) ?_))
    repeat' (first | (refine go1 ?_; intros) | (refine vl_caseG rfl rfl rfl rfl ?_ ?_ <;> (intro hb; (try simp only [decide_eq_true_eq, decide_eq_false_iff_not, Bool.not_eq_true', Bool.not_eq_false', ne_eq, Decidable.not_not, Option.isNone_iff_eq_none, not_true_eq_false, not_false_eq_true] at hb); try (exfalso; omega))) | (refine v_cond rfl ?_ ?_ <;> (intro hb; (try simp only [decide_eq_true_eq, decide_eq_false_iff_not, Bool.not_eq_true', Bool.not_eq_false', ne_eq, Decidable.not_not, Option.isNone_iff_eq_none, not_true_eq_false, not_false_eq_true] at hb); try (exfalso; omega))) | fail)
    · refine ⟨L, sei _ _ _, ?_, rfl⟩
      have hmem : (k, ps[i].v) ∈ kvs ps := List.mem_map.2 ⟨ps[i], List.getElem_mem hlt, by simp [PR.kv, hb]⟩
      have hh : has (kvs ps) k = true := has_iff.2 ⟨_, hmem⟩
      have hat := low_len (l := kvs ps) hs (k := k) (at' := i) (by simpa using hi) (fun j hj hji => by
        have := srt_at hs hji (by simpa using hlt)
        simpa [PR.kv, hb] using this) (fun j hj hij => by
        rcases Nat.lt_or_ge i j with e | e
        · have := srt_at hs e (by simpa using hj)
          simp only [List.getElem_map, PR.kv, hb] at this
          simpa [PR.kv] using this.asymm
        · obtain rfl : j = i := by omega
          simp only [List.getElem_map, PR.kv, hb]
          exact Ahd.irrefl _)
      rw [findI, if_pos hh, ← hat]
    · refine ⟨rfl, i + 1, ⟨by omega, fun j hj hji => ?_⟩, by omega, by (repeat' (first | exact Sub.nil _ | refine Sub.cons rfl rfl ?_ | refine Sub.cons rfl ?_ ?_)), Ent.refl _ _⟩
      rcases Nat.lt_or_ge j i with e | e
      · exact hp j hj e
      · obtain rfl : j = i := by omega
        exact hb
  · obtain rfl : i = ps.length := by omega
    repeat' (first | (refine go1 ?_; intros) | (refine vl_caseG rfl rfl rfl rfl ?_ ?_ <;> (intro hb; (try simp only [decide_eq_true_eq, decide_eq_false_iff_not, Bool.not_eq_true', Bool.not_eq_false', ne_eq, Decidable.not_not, Option.isNone_iff_eq_none, not_true_eq_false, not_false_eq_true] at hb); try (exfalso; omega))) | (refine v_cond rfl ?_ ?_ <;> (intro hb; (try simp only [decide_eq_true_eq, decide_eq_false_iff_not, Bool.not_eq_true', Bool.not_eq_false', ne_eq, Decidable.not_not, Option.isNone_iff_eq_none, not_true_eq_false, not_false_eq_true] at hb); try (exfalso; omega))) | fail)
    refine ⟨L, sei _ _ _, ?_, rfl⟩
    have hh : has (kvs ps) k = false := has_false.2 fun x hx => by
      obtain ⟨p, hp', rfl⟩ := List.mem_map.1 hx
      obtain ⟨j, hj, rfl⟩ := List.getElem_of_mem hp'
      exact hp j hj hj
    rw [findI, if_neg (by rw [hh]; simp)]

noncomputable def pbx (ps : List PR) (k : List UInt8) : List PR := ps.filter fun p => decide (p.key ≠ k)
theorem kvs_pbx (ps : List PR) (k : List UInt8) : kvs (pbx ps k) = dropF (kvs ps) k := by
  simp only [pbx, dropF, kvs, List.filter_map]
  rfl
theorem pbx_take {ps : List PR} {k : List UInt8} {i : Nat} (hi : i < ps.length) : pbx (ps.take (i + 1)) k = if ps[i].key = k then pbx (ps.take i) k else pbx (ps.take i) k ++ [ps[i]] := by
  unfold pbx
  rw [List.take_succ_eq_append_getElem hi, List.filter_append]
  by_cases h : ps[i].key = k
  · rw [if_pos h, List.filter_cons_of_neg (by simpa using h)]; simp
  · rw [if_neg h, List.filter_cons_of_pos (by simpa using h)]; rfl
theorem pbx_len (ps : List PR) (k : List UInt8) (i : Nat) : (pbx (ps.take i) k).length ≤ ps.length := Nat.le_trans (List.length_filter_le _ _) (by simp; omega)
theorem pbx_mem {ps : List PR} {k : List UInt8} {p : PR} (h : p ∈ pbx ps k) : p ∈ ps := (List.mem_filter.1 h).1
set_option maxRecDepth 100000 in
set_option maxHeartbeats 1000000 in
theorem rwithout_vc (w0 : World) (L : List Asn) (a : Option Addr) (cap : Nat) (ps : List PR) (k : List UInt8) {n : Nat} (hn : n = ps.length) (h : PsOk ps) (hk : k.length = 32) [hr : RdC w0 L a (prc ps)] [hv : RdVs w0 L ps] :
    VC Try.prog w0 26 [.slice a n cap, .agg (bvs k).toArray] L (RPs w0 L (dropF (kvs ps) k)) := by
  subst hn
  have hlen := h.len
  refine vc_ent ?_
  refine vc_in rfl rfl ?_
  repeat' (first | (refine go1 ?_; intros) | (refine vl_caseG rfl rfl rfl rfl ?_ ?_ <;> (intro hb; (try simp only [decide_eq_true_eq, decide_eq_false_iff_not, Bool.not_eq_true', Bool.not_eq_false', ne_eq, Decidable.not_not, Option.isNone_iff_eq_none, not_true_eq_false, not_false_eq_true] at hb); try (exfalso; omega))) | (refine v_cond rfl ?_ ?_ <;> (intro hb; (try simp only [decide_eq_true_eq, decide_eq_false_iff_not, Bool.not_eq_true', Bool.not_eq_false', ne_eq, Decidable.not_not, Option.isNone_iff_eq_none, not_true_eq_false, not_false_eq_true] at hb); try (exfalso; omega))) | fail)
  rename_i g3
  refine v_loopF (Nat × Option Addr × Nat) [0, 3] rfl (fun x => [(6, .int .i64 x.1), (5, .slice x.2.1 (pbx (ps.take x.1) k).length x.2.2)]) (fun _ x => ownPs x.2.1 x.2.2 (pbx (ps.take x.1) k) :: blk g3 26 (bvs k) :: L) (fun x => x.1 ≤ ps.length) (fun x => ps.length - x.1) (0, none, 0) (Nat.zero_le _) (by (repeat' (first | exact Sub.nil _ | refine Sub.cons rfl rfl ?_ | refine Sub.cons rfl ?_ ?_))) ?_ ?_
  · exact (se_own_nil 65 33 _).ent w0
  rintro ⟨i, a5, c5⟩ hi
  dsimp only at hi ⊢
  by_cases hlt : i < ps.length
  · have e0 := h.e0 i hlt
    have e := h.e i hlt
    have hk32 := h.k32at i hlt
    have hc33 := PR.len hk32
    have hpos := h.pos i hlt
    have hl0 := pbx_len ps k i
    have s0 := pbx_take (k := k) hlt
    generalize hAs : pbx (ps.take i) k = ws at *
    repeat' (first | (refine go1 ?_; intros) | (refine vl_caseG rfl rfl rfl rfl ?_ ?_ <;> (intro hb; (try simp only [decide_eq_true_eq, decide_eq_false_iff_not, Bool.not_eq_true', Bool.not_eq_false', ne_eq, Decidable.not_not, Option.isNone_iff_eq_none, not_true_eq_false, not_false_eq_true] at hb); try (exfalso; omega))) | (refine v_cond rfl ?_ ?_ <;> (intro hb; (try simp only [decide_eq_true_eq, decide_eq_false_iff_not, Bool.not_eq_true', Bool.not_eq_false', ne_eq, Decidable.not_not, Option.isNone_iff_eq_none, not_true_eq_false, not_false_eq_true] at hb); try (exfalso; omega))) | fail)
    (refine v_draw0 [] (by kernel_rfl) ?_ <;> (refine va_takeA 0 rfl rfl rfl rfl ?_) <;> (refine va_takeA 1 rfl rfl rfl rfl ?_) <;> (refine va_takeA 2 rfl rfl rfl rfl ?_) <;> (refine va_takeA 3 rfl rfl rfl rfl ?_) <;> (refine va_takeA 4 rfl rfl rfl rfl ?_) <;> (refine va_takeA 5 rfl rfl rfl rfl ?_) <;> (refine va_takeA 6 rfl rfl rfl rfl ?_) <;> (refine va_done (by kernel_rfl) ?_))
    by_cases hkk : ps[i].key = k
    · rw [if_pos hkk] at s0
      rw [decide_eq_true hkk]
      repeat' (first | (refine go1 ?_; intros) | (refine vl_caseG rfl rfl rfl rfl ?_ ?_ <;> (intro hb; (try simp only [decide_eq_true_eq, decide_eq_false_iff_not, Bool.not_eq_true', Bool.not_eq_false', ne_eq, Decidable.not_not, Option.isNone_iff_eq_none, not_true_eq_false, not_false_eq_true] at hb); try (exfalso; omega))) | (refine v_cond rfl ?_ ?_ <;> (intro hb; (try simp only [decide_eq_true_eq, decide_eq_false_iff_not, Bool.not_eq_true', Bool.not_eq_false', ne_eq, Decidable.not_not, Option.isNone_iff_eq_none, not_true_eq_false, not_false_eq_true] at hb); try (exfalso; omega))) | fail)
      refine ⟨rfl, (i + 1, a5, c5), by dsimp only; omega, by dsimp only; omega, ?_, ?_⟩
      · dsimp only
        rw [s0]
        (repeat' (first | exact Sub.nil _ | refine Sub.cons rfl rfl ?_ | refine Sub.cons rfl ?_ ?_))
      · dsimp only
        rw [s0]
        exact sei _ _ _
    · rw [if_neg hkk] at s0
      rw [decide_eq_false hkk]
      repeat' (first | (refine go1 ?_; intros) | (refine vl_caseG rfl rfl rfl rfl ?_ ?_ <;> (intro hb; (try simp only [decide_eq_true_eq, decide_eq_false_iff_not, Bool.not_eq_true', Bool.not_eq_false', ne_eq, Decidable.not_not, Option.isNone_iff_eq_none, not_true_eq_false, not_false_eq_true] at hb); try (exfalso; omega))) | (refine v_cond rfl ?_ ?_ <;> (intro hb; (try simp only [decide_eq_true_eq, decide_eq_false_iff_not, Bool.not_eq_true', Bool.not_eq_false', ne_eq, Decidable.not_not, Option.isNone_iff_eq_none, not_true_eq_false, not_false_eq_true] at hb); try (exfalso; omega))) | fail)
      rename_i a5' c5' _ _
      refine ⟨rfl, (i + 1, a5', c5'), by dsimp only; omega, by dsimp only; omega, ?_, ?_⟩
      · dsimp only
        rw [s0, List.length_append]
        (repeat' (first | exact Sub.nil _ | refine Sub.cons rfl rfl ?_ | refine Sub.cons rfl ?_ ?_))
      · dsimp only
        rw [s0, ownPs_snoc2]
        simp only [List.append_nil]
        exact sei _ _ _
  · obtain rfl : i = ps.length := by omega
    rw [List.take_length]
    have okA : PsOk (pbx ps k) := h.sub (fun p hp => pbx_mem hp) (List.length_filter_le _ _)
    haveI vA : RdVs w0 L (pbx ps k) := hv.sub (fun p hp => pbx_mem hp)
    have hkv := kvs_pbx ps k
    generalize pbx ps k = ws at *
    repeat' (first | (refine go1 ?_; intros) | (refine vl_caseG rfl rfl rfl rfl ?_ ?_ <;> (intro hb; (try simp only [decide_eq_true_eq, decide_eq_false_iff_not, Bool.not_eq_true', Bool.not_eq_false', ne_eq, Decidable.not_not, Option.isNone_iff_eq_none, not_true_eq_false, not_false_eq_true] at hb); try (exfalso; omega))) | (refine v_cond rfl ?_ ?_ <;> (intro hb; (try simp only [decide_eq_true_eq, decide_eq_false_iff_not, Bool.not_eq_true', Bool.not_eq_false', ne_eq, Decidable.not_not, Option.isNone_iff_eq_none, not_true_eq_false, not_false_eq_true] at hb); try (exfalso; omega))) | fail)
    refine vl_o rfl (vo_call rfl rfl ?_)
    refine vc_mono (rtwin_vc w0 _ a5 c5 ws rfl okA) ?_
    rintro v L' ⟨a', c', ns, rfl, hns, rfl⟩
    repeat' (first | (refine go1 ?_; intros) | (refine vl_caseG rfl rfl rfl rfl ?_ ?_ <;> (intro hb; (try simp only [decide_eq_true_eq, decide_eq_false_iff_not, Bool.not_eq_true', Bool.not_eq_false', ne_eq, Decidable.not_not, Option.isNone_iff_eq_none, not_true_eq_false, not_false_eq_true] at hb); try (exfalso; omega))) | (refine v_cond rfl ?_ ?_ <;> (intro hb; (try simp only [decide_eq_true_eq, decide_eq_false_iff_not, Bool.not_eq_true', Bool.not_eq_false', ne_eq, Decidable.not_not, Option.isNone_iff_eq_none, not_true_eq_false, not_false_eq_true] at hb); try (exfalso; omega))) | fail)
    refine ⟨ownPs a' c' ns :: vsA ns :: L, sei _ _ _, a', c', ns, rfl, by rw [hns, hkv], rfl⟩

set_option maxRecDepth 100000 in
set_option maxHeartbeats 2000000 in
theorem rwith_vc (w0 : World) (L : List Asn) (a : Option Addr) (cap : Nat) (ps : List PR) (k : List UInt8) (va : Option Addr) (vc : Nat) (v : List UInt8) {n vn : Nat} (hn : n = ps.length) (hvn : vn = v.length) (h : PsOk ps) (hk : k.length = 32) (hvl : v.length ≤ 1000000) (hs : Srt (kvs ps)) (hlen5 : ps.length ≤ 900000) [hr : RdC w0 L a (prc ps)] [hv : RdVs w0 L ps] [hrv : RdC w0 L va (bvs v)] :
    VC Try.prog w0 21 [.slice a n cap, .agg (bvs k).toArray, .slice va vn vc] L (RPs w0 L (putF (kvs ps) k v)) := by
  subst hn; subst hvn
  have hlen := h.len
  refine vc_ent ?_
  refine vc_in rfl rfl ?_
  repeat' (first | (refine go1 ?_; intros) | (refine vl_caseG rfl rfl rfl rfl ?_ ?_ <;> (intro hb; (try simp only [decide_eq_true_eq, decide_eq_false_iff_not, Bool.not_eq_true', Bool.not_eq_false', ne_eq, Decidable.not_not, Option.isNone_iff_eq_none, not_true_eq_false, not_false_eq_true] at hb); try (exfalso; omega))) | (refine v_cond rfl ?_ ?_ <;> (intro hb; (try simp only [decide_eq_true_eq, decide_eq_false_iff_not, Bool.not_eq_true', Bool.not_eq_false', ne_eq, Decidable.not_not, Option.isNone_iff_eq_none, not_true_eq_false, not_false_eq_true] at hb); try (exfalso; omega))) | fail)
  rename_i g4
  refine vl_o rfl (vo_call rfl rfl ?_)
  refine vc_mono (rwithout_vc w0 _ a cap ps k rfl h hk) ?_
  rintro u L' ⟨a1, c1, ns, rfl, hns, rfl⟩
  have hsn : Srt (kvs ns) := by rw [hns]; exact srt_dropF hs k
  have hdl : (dropF (kvs ps) k).length ≤ ps.length := Nat.le_trans (List.length_filter_le _ _) (by simp)
  have hnl : ns.length ≤ ps.length := by
    have := congrArg List.length hns
    simp only [List.length_map] at this
    omega
  have hn32 : K32 (kvs ns) := by rw [hns]; exact h.k32.dropF k
  have okn : PsOk ns := by
    refine ⟨fun p hp => hn32 p.kv (List.mem_map.2 ⟨p, hp, rfl⟩), fun p hp => ?_, by omega⟩
    have : p.kv ∈ dropF (kvs ps) k := by rw [← hns]; exact List.mem_map.2 ⟨p, hp, rfl⟩
    obtain ⟨q, hq, e⟩ := List.mem_map.1 (mem_drop.1 this).1
    rw [← (Prod.mk.inj e).2]; exact h.vl q hq
  repeat' (first | (refine go1 ?_; intros) | (refine vl_caseG rfl rfl rfl rfl ?_ ?_ <;> (intro hb; (try simp only [decide_eq_true_eq, decide_eq_false_iff_not, Bool.not_eq_true', Bool.not_eq_false', ne_eq, Decidable.not_not, Option.isNone_iff_eq_none, not_true_eq_false, not_false_eq_true] at hb); try (exfalso; omega))) | (refine v_cond rfl ?_ ?_ <;> (intro hb; (try simp only [decide_eq_true_eq, decide_eq_false_iff_not, Bool.not_eq_true', Bool.not_eq_false', ne_eq, Decidable.not_not, Option.isNone_iff_eq_none, not_true_eq_false, not_false_eq_true] at hb); try (exfalso; omega))) | fail)
  refine v_know (φ := ns.length ≤ c1) (fun w hs => (hs.ownLen 0 rfl).2.1) (fun hc1 => ?_)
  refine v_loopF Nat [2, 4, 7] rfl (fun i => [(8, .int .i64 i)]) (fun M i => M) (fun i => i ≤ ns.length ∧ ∀ j (hj : j < ns.length), j < i → Ahd ns[j].key k) (fun i => ns.length - i) 0 ⟨Nat.zero_le _, fun j hj h => by omega⟩ (by (repeat' (first | exact Sub.nil _ | refine Sub.cons rfl rfl ?_ | refine Sub.cons rfl ?_ ?_))) (Ent.refl _ _) ?_
  rintro i ⟨hi, hp⟩
  have hfin : (∀ j (hj : j < ns.length), i ≤ j → ¬ Ahd ns[j].key k) → (kvs ns).take i = lowF (kvs ps) k ∧ (kvs ns).drop i = highF (kvs ps) k := by
    intro hq
    have e := low_take (l := kvs ns) hsn (k := k) (at' := i) (by simpa using hi) (fun j hj hji => by simpa [PR.kv] using hp j (by simpa using hj) hji) (fun j hj hij => by simpa [PR.kv] using hq j (by simpa using hj) hij)
    have e2 : lowF (kvs ns) k = lowF (kvs ps) k := by
      rw [hns]
      unfold lowF dropF
      rw [List.filter_filter]
      refine List.filter_congr (fun x hx => ?_)
      by_cases hx' : Ahd x.1 k
      · simp [hx', hx'.ne]
      · simp [hx']
    have e3 : kvs ns = lowF (kvs ps) k ++ highF (kvs ps) k := by rw [hns, drop_three hs h.k32 hk]
    have e4 : (kvs ns).take i = lowF (kvs ps) k := by rw [← e2, e]
    refine ⟨e4, ?_⟩
    have := List.take_append_drop i (kvs ns)
    rw [e4, e3] at this
    have h5 : highF (kvs ps) k = (lowF (kvs ps) k ++ highF (kvs ps) k).drop i := (List.append_cancel_left this).symm
    conv => lhs; rw [e3]
    exact h5.symm
  haveI rT : ∀ M, RdC w0 (ownPs a1 c1 ns :: M) (subA a1 0 c1 33) (prc (ns.take i)) := fun M => by
    have := rdF_cut (w0 := w0) (L := ownPs a1 c1 ns :: M) (a := a1) okn.wide 0 i c1 (by omega)
    rwa [List.drop_zero] at this
  haveI rD : ∀ M, RdC w0 (ownPs a1 c1 ns :: M) (subA a1 i c1 33) (prc (ns.drop i)) := fun M => rdF_drop okn.wide i c1 hc1
  have hTl : (prc (ns.take i)).length = (i - 0) * 33 := by
    rw [(okn.sub (fun p hp => List.mem_of_mem_take hp) (by simp; omega)).wide.len, List.length_take]; congr 1; omega
  have hDl : (prc (ns.drop i)).length = (ns.length - i) * 33 := by
    rw [(okn.sub (fun p hp => List.mem_of_mem_drop hp) (by simp)).wide.len, List.length_drop]
  have hdone : (∀ j (hj : j < ns.length), i ≤ j → ¬ Ahd ns[j].key k) → ∀ a2 c2, kvs (ns.take i ++ ⟨k, a2, c2, v⟩ :: ns.drop i) = putF (kvs ps) k v := by
    intro hq a2 c2
    obtain ⟨e1, e2⟩ := hfin hq
    unfold putF
    rw [← e1, ← e2]
    simp [List.map_take, List.map_drop, PR.kv]
  by_cases hlt : i < ns.length
  · have e0 := okn.e0 i hlt
    have hk32 := okn.k32at i hlt
    have hpos := okn.pos i hlt
    repeat' (first | (refine go1 ?_; intros) | (refine vl_caseG rfl rfl rfl rfl ?_ ?_ <;> (intro hb; (try simp only [decide_eq_true_eq, decide_eq_false_iff_not, Bool.not_eq_true', Bool.not_eq_false', ne_eq, Decidable.not_not, Option.isNone_iff_eq_none, not_true_eq_false, not_false_eq_true] at hb); try (exfalso; omega))) | (refine v_cond rfl ?_ ?_ <;> (intro hb; (try simp only [decide_eq_true_eq, decide_eq_false_iff_not, Bool.not_eq_true', Bool.not_eq_false', ne_eq, Decidable.not_not, Option.isNone_iff_eq_none, not_true_eq_false, not_false_eq_true] at hb); try (exfalso; omega))) | fail)
    (refine v_draw0 [] (by kernel_rfl) ?_ <;> (refine va_takeA 0 rfl rfl rfl rfl ?_) <;> (refine va_takeA 1 rfl rfl rfl rfl ?_) <;> (refine va_takeA 2 rfl rfl rfl rfl ?_) <;> (refine va_takeA 3 rfl rfl rfl rfl ?_) <;> (refine va_takeA 4 rfl rfl rfl rfl ?_) <;> (first | refine va_takeGA 5 rfl rfl rfl rfl rfl rfl rfl rfl ?_ | refine va_passGA 5 rfl rfl rfl rfl rfl rfl rfl rfl ?_ | (refine va_caseG 5 rfl rfl rfl rfl rfl ?_ ?_ <;> (intro hb; (try simp only [decide_eq_true_eq, decide_eq_false_iff_not, Bool.not_eq_true', Bool.not_eq_false', ne_eq, Decidable.not_not, Option.isNone_iff_eq_none, not_true_eq_false, not_false_eq_true] at hb); try (exfalso; omega)) <;> first | refine va_takeGA 5 rfl rfl rfl rfl rfl rfl rfl rfl ?_ | refine va_passGA 5 rfl rfl rfl rfl rfl rfl rfl rfl ?_)) <;> (first | refine va_takeGA 6 rfl rfl rfl rfl rfl rfl rfl rfl ?_ | refine va_passGA 6 rfl rfl rfl rfl rfl rfl rfl rfl ?_ | (refine va_caseG 6 rfl rfl rfl rfl rfl ?_ ?_ <;> (intro hb; (try simp only [decide_eq_true_eq, decide_eq_false_iff_not, Bool.not_eq_true', Bool.not_eq_false', ne_eq, Decidable.not_not, Option.isNone_iff_eq_none, not_true_eq_false, not_false_eq_true] at hb); try (exfalso; omega)) <;> first | refine va_takeGA 6 rfl rfl rfl rfl rfl rfl rfl rfl ?_ | refine va_passGA 6 rfl rfl rfl rfl rfl rfl rfl rfl ?_)) <;> (first | refine va_takeGA 7 rfl rfl rfl rfl rfl rfl rfl rfl ?_ | refine va_passGA 7 rfl rfl rfl rfl rfl rfl rfl rfl ?_ | (refine va_caseG 7 rfl rfl rfl rfl rfl ?_ ?_ <;> (intro hb; (try simp only [decide_eq_true_eq, decide_eq_false_iff_not, Bool.not_eq_true', Bool.not_eq_false', ne_eq, Decidable.not_not, Option.isNone_iff_eq_none, not_true_eq_false, not_false_eq_true] at hb); try (exfalso; omega)) <;> first | refine va_takeGA 7 rfl rfl rfl rfl rfl rfl rfl rfl ?_ | refine va_passGA 7 rfl rfl rfl rfl rfl rfl rfl rfl ?_)) <;> (first | refine va_takeGA 8 rfl rfl rfl rfl rfl rfl rfl rfl ?_ | refine va_passGA 8 rfl rfl rfl rfl rfl rfl rfl rfl ?_ | (refine va_caseG 8 rfl rfl rfl rfl rfl ?_ ?_ <;> (intro hb; (try simp only [decide_eq_true_eq, decide_eq_false_iff_not, Bool.not_eq_true', Bool.not_eq_false', ne_eq, Decidable.not_not, Option.isNone_iff_eq_none, not_true_eq_false, not_false_eq_true] at hb); try (exfalso; omega)) <;> first | refine va_takeGA 8 rfl rfl rfl rfl rfl rfl rfl rfl ?_ | refine va_passGA 8 rfl rfl rfl rfl rfl rfl rfl rfl ?_)) <;> (first | refine va_takeGA 9 rfl rfl rfl rfl rfl rfl rfl rfl ?_ | refine va_passGA 9 rfl rfl rfl rfl rfl rfl rfl rfl ?_ | (refine va_caseG 9 rfl rfl rfl rfl rfl ?_ ?_ <;> (intro hb; (try simp only [decide_eq_true_eq, decide_eq_false_iff_not, Bool.not_eq_true', Bool.not_eq_false', ne_eq, Decidable.not_not, Option.isNone_iff_eq_none, not_true_eq_false, not_false_eq_true] at hb); try (exfalso; omega)) <;> first | refine va_takeGA 9 rfl rfl rfl rfl rfl rfl rfl rfl ?_ | refine va_passGA 9 rfl rfl rfl rfl rfl rfl rfl rfl ?_)) <;> (first | refine va_takeGA 10 rfl rfl rfl rfl rfl rfl rfl rfl ?_ | refine va_passGA 10 rfl rfl rfl rfl rfl rfl rfl rfl ?_ | (refine va_caseG 10 rfl rfl rfl rfl rfl ?_ ?_ <;> (intro hb; (try simp only [decide_eq_true_eq, decide_eq_false_iff_not, Bool.not_eq_true', Bool.not_eq_false', ne_eq, Decidable.not_not, Option.isNone_iff_eq_none, not_true_eq_false, not_false_eq_true] at hb); try (exfalso; omega)) <;> first | refine va_takeGA 10 rfl rfl rfl rfl rfl rfl rfl rfl ?_ | refine va_passGA 10 rfl rfl rfl rfl rfl rfl rfl rfl ?_)))
    refine va_oneG 11 (by kernel_rfl) rfl rfl rfl rfl rfl rfl (vo_call rfl rfl ?_)
    refine vc_mono (rahead_vc w0 _ ns[i].key k hk32 hk) ?_
    rintro u L' ⟨rfl, rfl⟩
    refine ⟨.inr (SE.ent (by repeat' (first | exact SE.refl _ | refine SE.cons _ ?_ | refine SE.trans (se_drop _ _) ?_)) _), ?_⟩
    by_cases ha : Ahd ns[i].key k
    · rw [decide_eq_true ha]
      ((refine va_takeA 12 rfl rfl rfl rfl ?_) <;> (refine va_done (by kernel_rfl) ?_))
      repeat' (first | (refine go1 ?_; intros) | (refine vl_caseG rfl rfl rfl rfl ?_ ?_ <;> (intro hb; (try simp only [decide_eq_true_eq, decide_eq_false_iff_not, Bool.not_eq_true', Bool.not_eq_false', ne_eq, Decidable.not_not, Option.isNone_iff_eq_none, not_true_eq_false, not_false_eq_true] at hb); try (exfalso; omega))) | (refine v_cond rfl ?_ ?_ <;> (intro hb; (try simp only [decide_eq_true_eq, decide_eq_false_iff_not, Bool.not_eq_true', Bool.not_eq_false', ne_eq, Decidable.not_not, Option.isNone_iff_eq_none, not_true_eq_false, not_false_eq_true] at hb); try (exfalso; omega))) | fail)
      refine ⟨rfl, i + 1, ⟨by omega, fun j hj hji => ?_⟩, by omega, by (repeat' (first | exact Sub.nil _ | refine Sub.cons rfl rfl ?_ | refine Sub.cons rfl ?_ ?_)), Ent.refl _ _⟩
      rcases Nat.lt_or_ge j i with e | e
      · exact hp j hj e
      · obtain rfl : j = i := by omega
        exact ha
    · rw [decide_eq_false ha]
      ((refine va_takeA 12 rfl rfl rfl rfl ?_) <;> (refine va_done (by kernel_rfl) ?_))
      have hd := hdone (fun j hj hij => by
        rcases Nat.lt_or_ge i j with e | e
        · intro hj2
          have := srt_at hsn e (by simpa using hj)
          simp only [List.getElem_map, PR.kv] at this
          exact ha (this.trans hj2)
        · obtain rfl : j = i := by omega
          exact ha)
      repeat' (first | (refine go1 ?_; intros) | (refine vl_caseG rfl rfl rfl rfl ?_ ?_ <;> (intro hb; (try simp only [decide_eq_true_eq, decide_eq_false_iff_not, Bool.not_eq_true', Bool.not_eq_false', ne_eq, Decidable.not_not, Option.isNone_iff_eq_none, not_true_eq_false, not_false_eq_true] at hb); try (exfalso; omega))) | (refine v_cond rfl ?_ ?_ <;> (intro hb; (try simp only [decide_eq_true_eq, decide_eq_false_iff_not, Bool.not_eq_true', Bool.not_eq_false', ne_eq, Decidable.not_not, Option.isNone_iff_eq_none, not_true_eq_false, not_false_eq_true] at hb); try (exfalso; omega))) | fail)
      refine v_draw0 [6] (by kernel_rfl) ?_
      refine va_takeA 0 rfl rfl rfl rfl ?_
      refine va_takeA 1 rfl rfl rfl rfl ?_
      refine va_takeA 2 rfl rfl rfl rfl ?_
      refine va_one 3 (by kernel_rfl) rfl rfl ?_
      first | refine vo_call rfl rfl ?_ | refine vo_callV rfl rfl rfl ?_
      refine vc_mono (twin_vc w0 _ va vc v rfl (by omega)) ?_
      rintro u L' ⟨a2, c2, _, rfl, rfl⟩
      have hc33 : (PR.cells ⟨k, a2, c2, v⟩).length = 33 := PR.len hk
      refine ⟨.inr (sei _ _ _), ?_⟩
      refine va_take 4 rfl rfl rfl rfl (by kernel_rfl) (fun _ _ _ _ h => h) (sei _ _ _) (vq_build (us := PR.cells ⟨k, a2, c2, v⟩) rfl rfl (by simp [plOf, Value.cells, hk]) (PR.len hk)) ?_
      refine va_one 5 (by kernel_rfl) rfl rfl ?_
      (first | (refine vo_box rfl rfl rfl ?_; intro _) | (refine vo_alloc rfl ?_; intro _) | (refine vo_isStore ?_; first | (refine vo_isPt0 rfl ?_; refine vo_stWA rfl rfl ?_) | (refine vo_isPt rfl ?_; refine vo_stBA rfl rfl ?_) | (refine vo_stO rfl rfl (by rfl) (by first | rfl | assumption) (by first | assumption | (simp; done) | (simp; omega) | omega) rfl ?_; skip)) | (refine vo_isCall ?_; first | (refine vo_isApp ?_; first | (refine vo_append0A rfl rfl rfl ?_; intro _ _ _ _) | (refine vo_appendA rfl rfl rfl ?_; intro _ _ _ _)) | (refine vo_isCopy ?_; refine vo_copyB rfl rfl rfl (by assumption) (by assumption) (by assumption) (by assumption) ?_) | refine vo_yield rfl rfl rfl rfl rfl ?_ | refine vo_callV rfl rfl rfl (vc_in rfl rfl ?_)) | refine vo_convRow rfl rfl ?_ | (refine vo_isBs ?_; refine vo_buildSlice rfl rfl rfl (by decide) (by repeat' (first | exact trivial | rfl | assumption | refine ⟨?_, ?_⟩ | (simp; done) | (simp; omega))) (by decide) rfl ?_; intro _) | (refine vo_buildSlice0 rfl ?_; intro _) | fail)
      refine ⟨.inr (sei _ _ _), ?_⟩
      refine va_one 6 (by kernel_rfl) rfl rfl ?_
      (first | (refine vo_box rfl rfl rfl ?_; intro _) | (refine vo_alloc rfl ?_; intro _) | (refine vo_isStore ?_; first | (refine vo_isPt0 rfl ?_; refine vo_stWA rfl rfl ?_) | (refine vo_isPt rfl ?_; refine vo_stBA rfl rfl ?_) | (refine vo_stO rfl rfl (by rfl) (by first | rfl | assumption) (by first | assumption | (simp; done) | (simp; omega) | omega) rfl ?_; skip)) | (refine vo_isCall ?_; first | (refine vo_isApp ?_; first | (refine vo_append0A rfl rfl rfl ?_; intro _ _ _ _) | (refine vo_appendA rfl rfl rfl ?_; intro _ _ _ _)) | (refine vo_isCopy ?_; refine vo_copyB rfl rfl rfl (by assumption) (by assumption) (by assumption) (by assumption) ?_) | refine vo_yield rfl rfl rfl rfl rfl ?_ | refine vo_callV rfl rfl rfl (vc_in rfl rfl ?_)) | refine vo_convRow rfl rfl ?_ | (refine vo_isBs ?_; refine vo_buildSlice rfl rfl rfl (by decide) (by repeat' (first | exact trivial | rfl | assumption | refine ⟨?_, ?_⟩ | (simp; done) | (simp; omega))) (by decide) rfl ?_; intro _) | (refine vo_buildSlice0 rfl ?_; intro _) | fail)
      refine ⟨.inl (by kernel_rfl), ?_⟩
      refine va_takePA 7 rfl rfl rfl rfl ?_
      refine va_done (by kernel_rfl) ?_
      skip
      repeat' (first | (refine go1 ?_; intros) | (refine vl_caseG rfl rfl rfl rfl ?_ ?_ <;> (intro hb; (try simp only [decide_eq_true_eq, decide_eq_false_iff_not, Bool.not_eq_true', Bool.not_eq_false', ne_eq, Decidable.not_not, Option.isNone_iff_eq_none, not_true_eq_false, not_false_eq_true] at hb); try (exfalso; omega))) | (refine v_cond rfl ?_ ?_ <;> (intro hb; (try simp only [decide_eq_true_eq, decide_eq_false_iff_not, Bool.not_eq_true', Bool.not_eq_false', ne_eq, Decidable.not_not, Option.isNone_iff_eq_none, not_true_eq_false, not_false_eq_true] at hb); try (exfalso; omega))) | fail)
      rename_i a8 c8 _ _
      have hfa : ∀ M : List Asn, ownPs a8 c8 (ns.take i ++ ⟨k, a2, c2, v⟩ :: ns.drop i) :: M = own 65 33 a8 (i - 0 + 1 + (ns.length - i)) c8 (prc (ns.take i) ++ (PR.cells ⟨k, a2, c2, v⟩ ++ []) ++ prc (ns.drop i)) :: M := by
        intro M
        unfold ownPs prc
        rw [prins_flat, prins_len _ hi, List.append_nil, List.append_assoc, show i - 0 + 1 + (ns.length - i) = ns.length + 1 by omega]
      refine ⟨ownPs a8 c8 (ns.take i ++ ⟨k, a2, c2, v⟩ :: ns.drop i) :: vsA (ns.take i ++ ⟨k, a2, c2, v⟩ :: ns.drop i) :: L, ?_, a8, c8, _, ?_, hd a2 c2, rfl⟩
      · rw [hfa]
        refine ((SEI.out (M := _ :: ownB a2 c2 v :: vsA ns :: L)).trans (SE.cons _ (se_psA_push (ns.map PR.pb) _ L ⟨a2, c2, v⟩ ?_))).ent w0
        have : (⟨a2, c2, v⟩ :: ns.map PR.pb : List PB).Perm ((⟨k, a2, c2, v⟩ :: (ns.take i ++ ns.drop i)).map PR.pb) := by
          rw [List.take_append_drop]; exact List.Perm.refl _
        exact this.trans ((List.perm_middle.symm).map PR.pb)
      · rw [prins_len _ hi, show i - 0 + 1 + (ns.length - i) = ns.length + 1 by omega]
  · repeat' (first | (refine go1 ?_; intros) | (refine vl_caseG rfl rfl rfl rfl ?_ ?_ <;> (intro hb; (try simp only [decide_eq_true_eq, decide_eq_false_iff_not, Bool.not_eq_true', Bool.not_eq_false', ne_eq, Decidable.not_not, Option.isNone_iff_eq_none, not_true_eq_false, not_false_eq_true] at hb); try (exfalso; omega))) | (refine v_cond rfl ?_ ?_ <;> (intro hb; (try simp only [decide_eq_true_eq, decide_eq_false_iff_not, Bool.not_eq_true', Bool.not_eq_false', ne_eq, Decidable.not_not, Option.isNone_iff_eq_none, not_true_eq_false, not_false_eq_true] at hb); try (exfalso; omega))) | fail)
    (refine v_draw0 [] (by kernel_rfl) ?_ <;> (refine va_takeA 0 rfl rfl rfl rfl ?_) <;> (refine va_takeA 1 rfl rfl rfl rfl ?_) <;> (refine va_takeA 2 rfl rfl rfl rfl ?_) <;> (refine va_takeA 3 rfl rfl rfl rfl ?_) <;> (refine va_takeA 4 rfl rfl rfl rfl ?_) <;> (first | refine va_takeGA 5 rfl rfl rfl rfl rfl rfl rfl rfl ?_ | refine va_passGA 5 rfl rfl rfl rfl rfl rfl rfl rfl ?_ | (refine va_caseG 5 rfl rfl rfl rfl rfl ?_ ?_ <;> (intro hb; (try simp only [decide_eq_true_eq, decide_eq_false_iff_not, Bool.not_eq_true', Bool.not_eq_false', ne_eq, Decidable.not_not, Option.isNone_iff_eq_none, not_true_eq_false, not_false_eq_true] at hb); try (exfalso; omega)) <;> first | refine va_takeGA 5 rfl rfl rfl rfl rfl rfl rfl rfl ?_ | refine va_passGA 5 rfl rfl rfl rfl rfl rfl rfl rfl ?_)) <;> (first | refine va_takeGA 6 rfl rfl rfl rfl rfl rfl rfl rfl ?_ | refine va_passGA 6 rfl rfl rfl rfl rfl rfl rfl rfl ?_ | (refine va_caseG 6 rfl rfl rfl rfl rfl ?_ ?_ <;> (intro hb; (try simp only [decide_eq_true_eq, decide_eq_false_iff_not, Bool.not_eq_true', Bool.not_eq_false', ne_eq, Decidable.not_not, Option.isNone_iff_eq_none, not_true_eq_false, not_false_eq_true] at hb); try (exfalso; omega)) <;> first | refine va_takeGA 6 rfl rfl rfl rfl rfl rfl rfl rfl ?_ | refine va_passGA 6 rfl rfl rfl rfl rfl rfl rfl rfl ?_)) <;> (first | refine va_takeGA 7 rfl rfl rfl rfl rfl rfl rfl rfl ?_ | refine va_passGA 7 rfl rfl rfl rfl rfl rfl rfl rfl ?_ | (refine va_caseG 7 rfl rfl rfl rfl rfl ?_ ?_ <;> (intro hb; (try simp only [decide_eq_true_eq, decide_eq_false_iff_not, Bool.not_eq_true', Bool.not_eq_false', ne_eq, Decidable.not_not, Option.isNone_iff_eq_none, not_true_eq_false, not_false_eq_true] at hb); try (exfalso; omega)) <;> first | refine va_takeGA 7 rfl rfl rfl rfl rfl rfl rfl rfl ?_ | refine va_passGA 7 rfl rfl rfl rfl rfl rfl rfl rfl ?_)) <;> (first | refine va_takeGA 8 rfl rfl rfl rfl rfl rfl rfl rfl ?_ | refine va_passGA 8 rfl rfl rfl rfl rfl rfl rfl rfl ?_ | (refine va_caseG 8 rfl rfl rfl rfl rfl ?_ ?_ <;> (intro hb; (try simp only [decide_eq_true_eq, decide_eq_false_iff_not, Bool.not_eq_true', Bool.not_eq_false', ne_eq, Decidable.not_not, Option.isNone_iff_eq_none, not_true_eq_false, not_false_eq_true] at hb); try (exfalso; omega)) <;> first | refine va_takeGA 8 rfl rfl rfl rfl rfl rfl rfl rfl ?_ | refine va_passGA 8 rfl rfl rfl rfl rfl rfl rfl rfl ?_)) <;> (first | refine va_takeGA 9 rfl rfl rfl rfl rfl rfl rfl rfl ?_ | refine va_passGA 9 rfl rfl rfl rfl rfl rfl rfl rfl ?_ | (refine va_caseG 9 rfl rfl rfl rfl rfl ?_ ?_ <;> (intro hb; (try simp only [decide_eq_true_eq, decide_eq_false_iff_not, Bool.not_eq_true', Bool.not_eq_false', ne_eq, Decidable.not_not, Option.isNone_iff_eq_none, not_true_eq_false, not_false_eq_true] at hb); try (exfalso; omega)) <;> first | refine va_takeGA 9 rfl rfl rfl rfl rfl rfl rfl rfl ?_ | refine va_passGA 9 rfl rfl rfl rfl rfl rfl rfl rfl ?_)) <;> (first | refine va_takeGA 10 rfl rfl rfl rfl rfl rfl rfl rfl ?_ | refine va_passGA 10 rfl rfl rfl rfl rfl rfl rfl rfl ?_ | (refine va_caseG 10 rfl rfl rfl rfl rfl ?_ ?_ <;> (intro hb; (try simp only [decide_eq_true_eq, decide_eq_false_iff_not, Bool.not_eq_true', Bool.not_eq_false', ne_eq, Decidable.not_not, Option.isNone_iff_eq_none, not_true_eq_false, not_false_eq_true] at hb); try (exfalso; omega)) <;> first | refine va_takeGA 10 rfl rfl rfl rfl rfl rfl rfl rfl ?_ | refine va_passGA 10 rfl rfl rfl rfl rfl rfl rfl rfl ?_)))
    refine va_passGA 11 rfl rfl rfl rfl rfl rfl rfl rfl ?_
    ((refine va_takeA 12 rfl rfl rfl rfl ?_) <;> (refine va_done (by kernel_rfl) ?_))
    have hd := hdone (fun j hj hij => by omega)
    repeat' (first | (refine go1 ?_; intros) | (refine vl_caseG rfl rfl rfl rfl ?_ ?_ <;> (intro hb; (try simp only [decide_eq_true_eq, decide_eq_false_iff_not, Bool.not_eq_true', Bool.not_eq_false', ne_eq, Decidable.not_not, Option.isNone_iff_eq_none, not_true_eq_false, not_false_eq_true] at hb); try (exfalso; omega))) | (refine v_cond rfl ?_ ?_ <;> (intro hb; (try simp only [decide_eq_true_eq, decide_eq_false_iff_not, Bool.not_eq_true', Bool.not_eq_false', ne_eq, Decidable.not_not, Option.isNone_iff_eq_none, not_true_eq_false, not_false_eq_true] at hb); try (exfalso; omega))) | fail)
    refine v_draw0 [6] (by kernel_rfl) ?_
    refine va_takeA 0 rfl rfl rfl rfl ?_
    refine va_takeA 1 rfl rfl rfl rfl ?_
    refine va_takeA 2 rfl rfl rfl rfl ?_
    refine va_one 3 (by kernel_rfl) rfl rfl ?_
    first | refine vo_call rfl rfl ?_ | refine vo_callV rfl rfl rfl ?_
    refine vc_mono (twin_vc w0 _ va vc v rfl (by omega)) ?_
    rintro u L' ⟨a2, c2, _, rfl, rfl⟩
    have hc33 : (PR.cells ⟨k, a2, c2, v⟩).length = 33 := PR.len hk
    refine ⟨.inr (sei _ _ _), ?_⟩
    refine va_take 4 rfl rfl rfl rfl (by kernel_rfl) (fun _ _ _ _ h => h) (sei _ _ _) (vq_build (us := PR.cells ⟨k, a2, c2, v⟩) rfl rfl (by simp [plOf, Value.cells, hk]) (PR.len hk)) ?_
    refine va_one 5 (by kernel_rfl) rfl rfl ?_
    (first | (refine vo_box rfl rfl rfl ?_; intro _) | (refine vo_alloc rfl ?_; intro _) | (refine vo_isStore ?_; first | (refine vo_isPt0 rfl ?_; refine vo_stWA rfl rfl ?_) | (refine vo_isPt rfl ?_; refine vo_stBA rfl rfl ?_) | (refine vo_stO rfl rfl (by rfl) (by first | rfl | assumption) (by first | assumption | (simp; done) | (simp; omega) | omega) rfl ?_; skip)) | (refine vo_isCall ?_; first | (refine vo_isApp ?_; first | (refine vo_append0A rfl rfl rfl ?_; intro _ _ _ _) | (refine vo_appendA rfl rfl rfl ?_; intro _ _ _ _)) | (refine vo_isCopy ?_; refine vo_copyB rfl rfl rfl (by assumption) (by assumption) (by assumption) (by assumption) ?_) | refine vo_yield rfl rfl rfl rfl rfl ?_ | refine vo_callV rfl rfl rfl (vc_in rfl rfl ?_)) | refine vo_convRow rfl rfl ?_ | (refine vo_isBs ?_; refine vo_buildSlice rfl rfl rfl (by decide) (by repeat' (first | exact trivial | rfl | assumption | refine ⟨?_, ?_⟩ | (simp; done) | (simp; omega))) (by decide) rfl ?_; intro _) | (refine vo_buildSlice0 rfl ?_; intro _) | fail)
    refine ⟨.inr (sei _ _ _), ?_⟩
    refine va_one 6 (by kernel_rfl) rfl rfl ?_
    (first | (refine vo_box rfl rfl rfl ?_; intro _) | (refine vo_alloc rfl ?_; intro _) | (refine vo_isStore ?_; first | (refine vo_isPt0 rfl ?_; refine vo_stWA rfl rfl ?_) | (refine vo_isPt rfl ?_; refine vo_stBA rfl rfl ?_) | (refine vo_stO rfl rfl (by rfl) (by first | rfl | assumption) (by first | assumption | (simp; done) | (simp; omega) | omega) rfl ?_; skip)) | (refine vo_isCall ?_; first | (refine vo_isApp ?_; first | (refine vo_append0A rfl rfl rfl ?_; intro _ _ _ _) | (refine vo_appendA rfl rfl rfl ?_; intro _ _ _ _)) | (refine vo_isCopy ?_; refine vo_copyB rfl rfl rfl (by assumption) (by assumption) (by assumption) (by assumption) ?_) | refine vo_yield rfl rfl rfl rfl rfl ?_ | refine vo_callV rfl rfl rfl (vc_in rfl rfl ?_)) | refine vo_convRow rfl rfl ?_ | (refine vo_isBs ?_; refine vo_buildSlice rfl rfl rfl (by decide) (by repeat' (first | exact trivial | rfl | assumption | refine ⟨?_, ?_⟩ | (simp; done) | (simp; omega))) (by decide) rfl ?_; intro _) | (refine vo_buildSlice0 rfl ?_; intro _) | fail)
    refine ⟨.inl (by kernel_rfl), ?_⟩
    refine va_takePA 7 rfl rfl rfl rfl ?_
    refine va_done (by kernel_rfl) ?_
    skip
    repeat' (first | (refine go1 ?_; intros) | (refine vl_caseG rfl rfl rfl rfl ?_ ?_ <;> (intro hb; (try simp only [decide_eq_true_eq, decide_eq_false_iff_not, Bool.not_eq_true', Bool.not_eq_false', ne_eq, Decidable.not_not, Option.isNone_iff_eq_none, not_true_eq_false, not_false_eq_true] at hb); try (exfalso; omega))) | (refine v_cond rfl ?_ ?_ <;> (intro hb; (try simp only [decide_eq_true_eq, decide_eq_false_iff_not, Bool.not_eq_true', Bool.not_eq_false', ne_eq, Decidable.not_not, Option.isNone_iff_eq_none, not_true_eq_false, not_false_eq_true] at hb); try (exfalso; omega))) | fail)
    rename_i a8 c8 _ _
    have hfa : ∀ M : List Asn, ownPs a8 c8 (ns.take i ++ ⟨k, a2, c2, v⟩ :: ns.drop i) :: M = own 65 33 a8 (i - 0 + 1 + (ns.length - i)) c8 (prc (ns.take i) ++ (PR.cells ⟨k, a2, c2, v⟩ ++ []) ++ prc (ns.drop i)) :: M := by
      intro M
      unfold ownPs prc
      rw [prins_flat, prins_len _ hi, List.append_nil, List.append_assoc, show i - 0 + 1 + (ns.length - i) = ns.length + 1 by omega]
    refine ⟨ownPs a8 c8 (ns.take i ++ ⟨k, a2, c2, v⟩ :: ns.drop i) :: vsA (ns.take i ++ ⟨k, a2, c2, v⟩ :: ns.drop i) :: L, ?_, a8, c8, _, ?_, hd a2 c2, rfl⟩
    · rw [hfa]
      refine ((SEI.out (M := _ :: ownB a2 c2 v :: vsA ns :: L)).trans (SE.cons _ (se_psA_push (ns.map PR.pb) _ L ⟨a2, c2, v⟩ ?_))).ent w0
      have : (⟨a2, c2, v⟩ :: ns.map PR.pb : List PB).Perm ((⟨k, a2, c2, v⟩ :: (ns.take i ++ ns.drop i)).map PR.pb) := by
        rw [List.take_append_drop]; exact List.Perm.refl _
      exact this.trans ((List.perm_middle.symm).map PR.pb)
    · rw [prins_len _ hi, show i - 0 + 1 + (ns.length - i) = ns.length + 1 by omega]
end Go.Proofs.Ytmaimkbppnpbnaa
