/-
  slices.Insert and slices.Delete, of pairs. Pairs: twins, and whether two are the same. Pairs: with a value for a key, and without a key.
-/
import Derived.Test.YtmaimkbppnpbnaaGK
import Derived.Test.YtmaimkbppnpbnaaGI
set_option linter.unusedVariables false
set_option linter.unusedSimpArgs false
namespace Go.Proofs.Ytmaimkbppnpbnaa
open Go Go.RowKit
set_option linter.unusedVariables false
set_option linter.unusedSimpArgs false

abbrev ownQs (a : Option Addr) (cap : Nat) (xs : List PR) : Asn := own 65 33 a xs.length cap (flat PR.cells xs)
theorem prins_flat {ws : List PR} (x : PR) (at' : Nat) : flat PR.cells (ws.take at' ++ x :: ws.drop at') = flat PR.cells (ws.take at') ++ (PR.cells x ++ flat PR.cells (ws.drop at')) := by
  rw [flat_append, flat_cons]
theorem prins_len {ws : List PR} (x : PR) {at' : Nat} (h : at' ≤ ws.length) : (ws.take at' ++ x :: ws.drop at').length = ws.length + 1 := by
  simp; omega


end Go.Proofs.Ytmaimkbppnpbnaa
namespace Go.Proofs.Ytmaimkbppnpbnaa
open Go Go.RowKit
set_option linter.unusedVariables false
set_option linter.unusedSimpArgs false
open Classical

theorem PsOk.of_kvs {ps ns : List PR} (h : PsOk ps) (e : kvs ns = kvs ps) : PsOk ns := by
  have hm : ∀ p ∈ ns, ∃ q ∈ ps, q.kv = p.kv := fun p hp => by
    have : p.kv ∈ kvs ns := List.mem_map.2 ⟨p, hp, rfl⟩
    rw [e] at this
    exact List.mem_map.1 this
  refine ⟨fun p hp => ?_, fun p hp => ?_, ?_⟩
  · obtain ⟨q, hq, e⟩ := hm p hp
    rw [← (Prod.mk.inj e).1]; exact h.key q hq
  · obtain ⟨q, hq, e⟩ := hm p hp
    rw [← (Prod.mk.inj e).2]; exact h.vl q hq
  · have := congrArg List.length e
    simp only [List.length_map] at this
    have := h.len
    omega
theorem psOk_one {p : PR} (h : p.key.length = 32) (hv : p.v.length ≤ 1000000) : PsOk [p] := ⟨by simpa, by simpa, by simp⟩
/-- New pairs: all of it the call's own. -/
def RPs (w0 : World) (L : List Asn) (l : List KV) (v : Value) (L' : List Asn) : Prop := ∃ a c ns, v = .slice a ns.length c ∧ kvs ns = l ∧ L' = ownPs a c ns :: vsA ns :: L
theorem ownPs_snoc2 (a : Option Addr) (c : Nat) (ns : List PR) (p : PR) : ownPs a c (ns ++ [p]) = own 65 33 a (ns.length + 1) c (prc ns ++ p.cells) := by
  unfold ownPs prc
  rw [flat_snoc, List.length_append]
  rfl
theorem se_ps_nil (L : List Asn) : SE L (ownPs none 0 [] :: vsA [] :: L) := (se_psA_nil L).trans (se_own_nil 65 33 _)
theorem se_ps_snoc (ns : List PR) (p : PR) (L : List Asn) : SE (ownB p.a p.c p.v :: vsA ns :: L) (vsA (ns ++ [p]) :: L) := by
  have := se_psA_snoc (ns.map PR.pb) L p.a p.c p.v
  rw [show ns.map PR.pb ++ [⟨p.a, p.c, p.v⟩] = (ns ++ [p]).map PR.pb by simp [PR.pb]] at this
  exact this

set_option maxRecDepth 100000 in
set_option maxHeartbeats 1000000 in
theorem rtwin_vc (w0 : World) (L : List Asn) (a : Option Addr) (cap : Nat) (ps : List PR) {n : Nat} (hn : n = ps.length) (h : PsOk ps) [hr : RdC w0 L a (prc ps)] [hv : RdVs w0 L ps] :
    VC Try.prog w0 40 [.slice a n cap] L (RPs w0 L (kvs ps)) := by
  subst hn
  have hlen := h.len
  refine vc_ent ?_
  refine vc_in rfl rfl ?_
  repeat' (first | (refine go1 ?_; intros) | (refine vl_caseG rfl rfl rfl rfl ?_ ?_ <;> (intro hb; (try simp only [decide_eq_true_eq, decide_eq_false_iff_not, Bool.not_eq_true', Bool.not_eq_false', ne_eq, Decidable.not_not, Option.isNone_iff_eq_none, not_true_eq_false, not_false_eq_true] at hb); try (exfalso; omega))) | (refine v_cond rfl ?_ ?_ <;> (intro hb; (try simp only [decide_eq_true_eq, decide_eq_false_iff_not, Bool.not_eq_true', Bool.not_eq_false', ne_eq, Decidable.not_not, Option.isNone_iff_eq_none, not_true_eq_false, not_false_eq_true] at hb); try (exfalso; omega))) | fail)
  refine v_loopF (List PR × Option Addr × Nat) [0] rfl (fun x => [(4, .int .i64 x.1.length), (3, .slice x.2.1 x.1.length x.2.2)]) (fun _ x => ownPs x.2.1 x.2.2 x.1 :: vsA x.1 :: L) (fun x => x.1.length ≤ ps.length ∧ kvs x.1 = (kvs ps).take x.1.length) (fun x => ps.length - x.1.length) ([], none, 0) ⟨Nat.zero_le _, by simp⟩ (by (repeat' (first | exact Sub.nil _ | refine Sub.cons rfl rfl ?_ | refine Sub.cons rfl ?_ ?_))) ((se_ps_nil L).ent w0) ?_
  rintro ⟨ns, a', c'⟩ ⟨hi, hk⟩
  dsimp only at hi hk ⊢
  obtain ⟨i, hni⟩ : ∃ i, i = ns.length := ⟨_, rfl⟩
  rw [← hni] at hi hk
  have hnil : (prc ns).length = ns.length * 33 := by
    have : PsOk ns := (h.sub (qs := ps.take i) (fun p hp => List.mem_of_mem_take hp) (by simp; omega)).of_kvs (by rw [hk, ← List.map_take])
    exact this.wide.len
  by_cases hlt : i < ps.length
  · have e0 := h.e0 i hlt
    have e1 := h.e1 i hlt
    have hk32 := h.k32at i hlt
    have hpos := h.pos i hlt
    have hvl := h.vlat i hlt
    haveI := hv.at i hlt
    rw [show ownPs a' c' ns = own 65 33 a' i c' (prc ns) by rw [hni], ← hni]
    repeat' (first | (refine go1 ?_; intros) | (refine vl_caseG rfl rfl rfl rfl ?_ ?_ <;> (intro hb; (try simp only [decide_eq_true_eq, decide_eq_false_iff_not, Bool.not_eq_true', Bool.not_eq_false', ne_eq, Decidable.not_not, Option.isNone_iff_eq_none, not_true_eq_false, not_false_eq_true] at hb); try (exfalso; omega))) | (refine v_cond rfl ?_ ?_ <;> (intro hb; (try simp only [decide_eq_true_eq, decide_eq_false_iff_not, Bool.not_eq_true', Bool.not_eq_false', ne_eq, Decidable.not_not, Option.isNone_iff_eq_none, not_true_eq_false, not_false_eq_true] at hb); try (exfalso; omega))) | fail)
    refine v_draw0 [14] (by kernel_rfl) ?_
    refine va_takeA 0 rfl rfl rfl rfl ?_
    refine va_takeA 1 rfl rfl rfl rfl ?_
    refine va_takeA 2 rfl rfl rfl rfl ?_
    refine va_takeA 3 rfl rfl rfl rfl ?_
    refine va_takeA 4 rfl rfl rfl rfl ?_
    refine va_takeA 5 rfl rfl rfl rfl ?_
    refine va_takeA 6 rfl rfl rfl rfl ?_
    refine va_takeA 7 rfl rfl rfl rfl ?_
    refine va_takeA 8 rfl rfl rfl rfl ?_
    refine va_takeA 9 rfl rfl rfl rfl ?_
    refine va_takeA 10 rfl rfl rfl rfl ?_
    refine va_one 11 (by kernel_rfl) rfl rfl ?_
    first | refine vo_call rfl rfl ?_ | refine vo_callV rfl rfl rfl ?_
    refine vc_mono (twin_vc w0 _ ps[i].a ps[i].c ps[i].v rfl (by omega)) ?_
    rintro v L' ⟨a2, c2, _, rfl, rfl⟩
    have hc33 : (PR.cells ⟨ps[i].key, a2, c2, ps[i].v⟩).length = 33 := PR.len hk32
    refine ⟨.inr (sei _ _ _), ?_⟩
    refine va_take 12 rfl rfl rfl rfl (by kernel_rfl) (fun _ _ _ _ h => h) (sei _ _ _) (vq_build (us := PR.cells ⟨ps[i].key, a2, c2, ps[i].v⟩) rfl rfl (by simp [plOf, Value.cells, hk32]) (PR.len hk32)) ?_
    refine va_one 13 (by kernel_rfl) rfl rfl ?_
    (first | (refine vo_box rfl rfl rfl ?_; intro _) | (refine vo_alloc rfl ?_; intro _) | (refine vo_isStore ?_; first | (refine vo_isPt0 rfl ?_; refine vo_stWA rfl rfl ?_) | (refine vo_isPt rfl ?_; refine vo_stBA rfl rfl ?_) | (refine vo_stO rfl rfl (by rfl) (by first | rfl | assumption) (by first | assumption | (simp; done) | (simp; omega) | omega) rfl ?_; skip)) | (refine vo_isCall ?_; first | (refine vo_isApp ?_; first | (refine vo_append0A rfl rfl rfl ?_; intro _ _ _ _) | (refine vo_appendA rfl rfl rfl ?_; intro _ _ _ _)) | (refine vo_isCopy ?_; refine vo_copyB rfl rfl rfl (by assumption) (by assumption) (by assumption) (by assumption) ?_) | refine vo_yield rfl rfl rfl rfl rfl ?_ | refine vo_callV rfl rfl rfl (vc_in rfl rfl ?_)) | refine vo_convRow rfl rfl ?_ | (refine vo_isBs ?_; refine vo_buildSlice rfl rfl rfl (by decide) (by repeat' (first | exact trivial | rfl | assumption | refine ⟨?_, ?_⟩ | (simp; done) | (simp; omega))) (by decide) rfl ?_; intro _) | (refine vo_buildSlice0 rfl ?_; intro _) | fail)
    refine ⟨.inr (sei _ _ _), ?_⟩
    refine va_one 14 (by kernel_rfl) rfl rfl ?_
    (first | (refine vo_box rfl rfl rfl ?_; intro _) | (refine vo_alloc rfl ?_; intro _) | (refine vo_isStore ?_; first | (refine vo_isPt0 rfl ?_; refine vo_stWA rfl rfl ?_) | (refine vo_isPt rfl ?_; refine vo_stBA rfl rfl ?_) | (refine vo_stO rfl rfl (by rfl) (by first | rfl | assumption) (by first | assumption | (simp; done) | (simp; omega) | omega) rfl ?_; skip)) | (refine vo_isCall ?_; first | (refine vo_isApp ?_; first | (refine vo_append0A rfl rfl rfl ?_; intro _ _ _ _) | (refine vo_appendA rfl rfl rfl ?_; intro _ _ _ _)) | (refine vo_isCopy ?_; refine vo_copyB rfl rfl rfl (by assumption) (by assumption) (by assumption) (by assumption) ?_) | refine vo_yield rfl rfl rfl rfl rfl ?_ | refine vo_callV rfl rfl rfl (vc_in rfl rfl ?_)) | refine vo_convRow rfl rfl ?_ | (refine vo_isBs ?_; refine vo_buildSlice rfl rfl rfl (by decide) (by repeat' (first | exact trivial | rfl | assumption | refine ⟨?_, ?_⟩ | (simp; done) | (simp; omega))) (by decide) rfl ?_; intro _) | (refine vo_buildSlice0 rfl ?_; intro _) | fail)
    refine ⟨.inl (by kernel_rfl), ?_⟩
    refine va_takePA 15 rfl rfl rfl rfl ?_
    refine va_done (by kernel_rfl) ?_
    skip
    repeat' (first | (refine go1 ?_; intros) | (refine vl_caseG rfl rfl rfl rfl ?_ ?_ <;> (intro hb; (try simp only [decide_eq_true_eq, decide_eq_false_iff_not, Bool.not_eq_true', Bool.not_eq_false', ne_eq, Decidable.not_not, Option.isNone_iff_eq_none, not_true_eq_false, not_false_eq_true] at hb); try (exfalso; omega))) | (refine v_cond rfl ?_ ?_ <;> (intro hb; (try simp only [decide_eq_true_eq, decide_eq_false_iff_not, Bool.not_eq_true', Bool.not_eq_false', ne_eq, Decidable.not_not, Option.isNone_iff_eq_none, not_true_eq_false, not_false_eq_true] at hb); try (exfalso; omega))) | fail)
    rename_i g a3 c3 _ _
    refine ⟨rfl, (ns ++ [⟨ps[i].key, a2, c2, ps[i].v⟩], a3, c3), ⟨by simp; omega, ?_⟩, by simp; omega, ?_, ?_⟩
    · simp only [List.map_append, List.map_cons, List.map_nil, List.length_append, List.length_cons, List.length_nil, ← hni, Nat.zero_add]
      rw [show ns.map PR.kv = kvs ns from rfl, hk, List.take_succ_eq_append_getElem (by simpa using hlt)]
      simp [PR.kv]
    · simp only [List.length_append, List.length_cons, List.length_nil, ← hni, Nat.zero_add]
      (repeat' (first | exact Sub.nil _ | refine Sub.cons rfl rfl ?_ | refine Sub.cons rfl ?_ ?_))
    · rw [ownPs_snoc2, ← hni]
      simp only [List.append_nil]
      exact ((se_drop _ _).trans ((se_swap _ _ _).trans (SE.cons _ (se_ps_snoc ns ⟨ps[i].key, a2, c2, ps[i].v⟩ L)))).ent w0
  · have hin : i = ps.length := by omega
    repeat' (first | (refine go1 ?_; intros) | (refine vl_caseG rfl rfl rfl rfl ?_ ?_ <;> (intro hb; (try simp only [decide_eq_true_eq, decide_eq_false_iff_not, Bool.not_eq_true', Bool.not_eq_false', ne_eq, Decidable.not_not, Option.isNone_iff_eq_none, not_true_eq_false, not_false_eq_true] at hb); try (exfalso; omega))) | (refine v_cond rfl ?_ ?_ <;> (intro hb; (try simp only [decide_eq_true_eq, decide_eq_false_iff_not, Bool.not_eq_true', Bool.not_eq_false', ne_eq, Decidable.not_not, Option.isNone_iff_eq_none, not_true_eq_false, not_false_eq_true] at hb); try (exfalso; omega))) | fail)
    exact ⟨_, Ent.refl _ _, a', c', ns, rfl, by rw [hk, List.take_of_length_le (by simp; omega)], rfl⟩

/-! ### Whether two are the same -/
theorem kvs_get (ps : List PR) (i : Nat) (h : i < ps.length) : (kvs ps)[i]'(by simpa) = ps[i].kv := by simp
theorem kvs_step {ps qs : List PR} {i : Nat} (h : i < ps.length) (k : i < qs.length) (he : (kvs ps).take i = (kvs qs).take i) (h1 : ps[i].key = qs[i].key) (h2 : ps[i].v = qs[i].v) : (kvs ps).take (i + 1) = (kvs qs).take (i + 1) := by
  rw [List.take_succ_eq_append_getElem (by simpa using h), List.take_succ_eq_append_getElem (by simpa using k), he, kvs_get ps i h, kvs_get qs i k]
  simp [PR.kv, h1, h2]
theorem kvs_ne1 {ps qs : List PR} {i : Nat} (h : i < ps.length) (k : i < qs.length) (hn : ¬ ps[i].key = qs[i].key) : ¬ kvs ps = kvs qs := fun e => hn (by
  have := kvs_get ps i h
  have h2 := kvs_get qs i k
  have h3 : (kvs ps)[i]'(by simpa) = (kvs qs)[i]'(by simpa) := by congr 1
  rw [this, h2] at h3
  exact (Prod.mk.inj h3).1)
theorem kvs_ne2 {ps qs : List PR} {i : Nat} (h : i < ps.length) (k : i < qs.length) (hn : ¬ ps[i].v = qs[i].v) : ¬ kvs ps = kvs qs := fun e => hn (by
  have := kvs_get ps i h
  have h2 := kvs_get qs i k
  have h3 : (kvs ps)[i]'(by simpa) = (kvs qs)[i]'(by simpa) := by congr 1
  rw [this, h2] at h3
  exact (Prod.mk.inj h3).2)
theorem kvs_nel {ps qs : List PR} (hn : ¬ ps.length = qs.length) : ¬ kvs ps = kvs qs := fun e => hn (by simpa using congrArg List.length e)

set_option maxRecDepth 100000 in
set_option maxHeartbeats 1000000 in
theorem rsame_vc (w0 : World) (L : List Asn) (a : Option Addr) (cap : Nat) (ps : List PR) (b : Option Addr) (cb : Nat) (qs : List PR) {n m : Nat} (hn : n = ps.length) (hm : m = qs.length) (h : PsOk ps) (k : PsOk qs) [hr : RdC w0 L a (prc ps)] [hv : RdVs w0 L ps] [hr2 : RdC w0 L b (prc qs)] [hv2 : RdVs w0 L qs] :
    VC Try.prog w0 27 [.slice a n cap, .slice b m cb] L fun v L' => v = .bool (decide (kvs ps = kvs qs)) ∧ L' = L := by
  subst hn; subst hm
  have hlen := h.len
  have hlen2 := k.len
  refine vc_in rfl rfl ?_
  repeat' (first | (refine go1 ?_; intros) | (refine vl_caseG rfl rfl rfl rfl ?_ ?_ <;> (intro hb; (try simp only [decide_eq_true_eq, decide_eq_false_iff_not, Bool.not_eq_true', Bool.not_eq_false', ne_eq, Decidable.not_not, Option.isNone_iff_eq_none, not_true_eq_false, not_false_eq_true] at hb); try (exfalso; omega))) | (refine v_cond rfl ?_ ?_ <;> (intro hb; (try simp only [decide_eq_true_eq, decide_eq_false_iff_not, Bool.not_eq_true', Bool.not_eq_false', ne_eq, Decidable.not_not, Option.isNone_iff_eq_none, not_true_eq_false, not_false_eq_true] at hb); try (exfalso; omega))) | fail)
  · exact ⟨by rw [decide_eq_false (kvs_nel (by omega))], rfl⟩
  have hl : ps.length = qs.length := by omega
  refine v_loopS Nat [0, 1] rfl (fun i => [(5, .int .i64 i)]) (fun i => i ≤ ps.length ∧ (kvs ps).take i = (kvs qs).take i) (fun i => ps.length - i) 0 ⟨Nat.zero_le _, by simp⟩ (by (repeat' (first | exact Sub.nil _ | refine Sub.cons rfl rfl ?_ | refine Sub.cons rfl ?_ ?_))) (fun i ⟨hi, he⟩ => ?_)
  by_cases hlt : i < ps.length
  · have hlt2 : i < qs.length := by omega
    have e0 := h.e0 i hlt
    have e1 := h.e1 i hlt
    have hk32 := h.k32at i hlt
    have hpos := h.pos i hlt
    have d0 := k.e0 i hlt2
    have d1 := k.e1 i hlt2
    have hk32b := k.k32at i hlt2
    have hpos2 := k.pos i hlt2
    haveI := hv.at i hlt
    haveI := hv2.at i hlt2
    by_cases hkk : ps[i].key = qs[i].key
    · repeat' (first | (refine go1 ?_; intros) | (refine vl_caseG rfl rfl rfl rfl ?_ ?_ <;> (intro hb; (try simp only [decide_eq_true_eq, decide_eq_false_iff_not, Bool.not_eq_true', Bool.not_eq_false', ne_eq, Decidable.not_not, Option.isNone_iff_eq_none, not_true_eq_false, not_false_eq_true] at hb); try (exfalso; omega))) | (refine v_cond rfl ?_ ?_ <;> (intro hb; (try simp only [decide_eq_true_eq, decide_eq_false_iff_not, Bool.not_eq_true', Bool.not_eq_false', ne_eq, Decidable.not_not, Option.isNone_iff_eq_none, not_true_eq_false, not_false_eq_true] at hb); try (exfalso; omega))) | fail)
      (refine v_draw0 [] (by kernel_rfl) ?_ <;> (refine va_takeA 0 rfl rfl rfl rfl ?_) <;> (refine va_takeA 1 rfl rfl rfl rfl ?_) <;> (refine va_takeA 2 rfl rfl rfl rfl ?_) <;> (refine va_takeA 3 rfl rfl rfl rfl ?_) <;> (refine va_takeA 4 rfl rfl rfl rfl ?_) <;> (refine va_takeA 5 rfl rfl rfl rfl ?_) <;> (refine va_takeA 6 rfl rfl rfl rfl ?_) <;> (refine va_takeA 7 rfl rfl rfl rfl ?_) <;> (refine va_takeA 8 rfl rfl rfl rfl ?_) <;> (refine va_takeA 9 rfl rfl rfl rfl ?_) <;> (refine va_takeA 10 rfl rfl rfl rfl ?_) <;> (refine va_takeA 11 rfl rfl rfl rfl ?_) <;> (first | refine va_takeGA 12 rfl rfl rfl rfl rfl rfl rfl rfl ?_ | refine va_passGA 12 rfl rfl rfl rfl rfl rfl rfl rfl ?_ | (refine va_caseG 12 rfl rfl rfl rfl rfl ?_ ?_ <;> (intro hb; (try simp only [decide_eq_true_eq, decide_eq_false_iff_not, Bool.not_eq_true', Bool.not_eq_false', ne_eq, Decidable.not_not, Option.isNone_iff_eq_none, not_true_eq_false, not_false_eq_true] at hb); try (exfalso; omega)) <;> first | refine va_takeGA 12 rfl rfl rfl rfl rfl rfl rfl rfl ?_ | refine va_passGA 12 rfl rfl rfl rfl rfl rfl rfl rfl ?_)) <;> (first | refine va_takeGA 13 rfl rfl rfl rfl rfl rfl rfl rfl ?_ | refine va_passGA 13 rfl rfl rfl rfl rfl rfl rfl rfl ?_ | (refine va_caseG 13 rfl rfl rfl rfl rfl ?_ ?_ <;> (intro hb; (try simp only [decide_eq_true_eq, decide_eq_false_iff_not, Bool.not_eq_true', Bool.not_eq_false', ne_eq, Decidable.not_not, Option.isNone_iff_eq_none, not_true_eq_false, not_false_eq_true] at hb); try (exfalso; omega)) <;> first | refine va_takeGA 13 rfl rfl rfl rfl rfl rfl rfl rfl ?_ | refine va_passGA 13 rfl rfl rfl rfl rfl rfl rfl rfl ?_)) <;> (first | refine va_takeGA 14 rfl rfl rfl rfl rfl rfl rfl rfl ?_ | refine va_passGA 14 rfl rfl rfl rfl rfl rfl rfl rfl ?_ | (refine va_caseG 14 rfl rfl rfl rfl rfl ?_ ?_ <;> (intro hb; (try simp only [decide_eq_true_eq, decide_eq_false_iff_not, Bool.not_eq_true', Bool.not_eq_false', ne_eq, Decidable.not_not, Option.isNone_iff_eq_none, not_true_eq_false, not_false_eq_true] at hb); try (exfalso; omega)) <;> first | refine va_takeGA 14 rfl rfl rfl rfl rfl rfl rfl rfl ?_ | refine va_passGA 14 rfl rfl rfl rfl rfl rfl rfl rfl ?_)) <;> (first | refine va_takeGA 15 rfl rfl rfl rfl rfl rfl rfl rfl ?_ | refine va_passGA 15 rfl rfl rfl rfl rfl rfl rfl rfl ?_ | (refine va_caseG 15 rfl rfl rfl rfl rfl ?_ ?_ <;> (intro hb; (try simp only [decide_eq_true_eq, decide_eq_false_iff_not, Bool.not_eq_true', Bool.not_eq_false', ne_eq, Decidable.not_not, Option.isNone_iff_eq_none, not_true_eq_false, not_false_eq_true] at hb); try (exfalso; omega)) <;> first | refine va_takeGA 15 rfl rfl rfl rfl rfl rfl rfl rfl ?_ | refine va_passGA 15 rfl rfl rfl rfl rfl rfl rfl rfl ?_)) <;> (first | refine va_takeGA 16 rfl rfl rfl rfl rfl rfl rfl rfl ?_ | refine va_passGA 16 rfl rfl rfl rfl rfl rfl rfl rfl ?_ | (refine va_caseG 16 rfl rfl rfl rfl rfl ?_ ?_ <;> (intro hb; (try simp only [decide_eq_true_eq, decide_eq_false_iff_not, Bool.not_eq_true', Bool.not_eq_false', ne_eq, Decidable.not_not, Option.isNone_iff_eq_none, not_true_eq_false, not_false_eq_true] at hb); try (exfalso; omega)) <;> first | refine va_takeGA 16 rfl rfl rfl rfl rfl rfl rfl rfl ?_ | refine va_passGA 16 rfl rfl rfl rfl rfl rfl rfl rfl ?_)) <;> (first | refine va_takeGA 17 rfl rfl rfl rfl rfl rfl rfl rfl ?_ | refine va_passGA 17 rfl rfl rfl rfl rfl rfl rfl rfl ?_ | (refine va_caseG 17 rfl rfl rfl rfl rfl ?_ ?_ <;> (intro hb; (try simp only [decide_eq_true_eq, decide_eq_false_iff_not, Bool.not_eq_true', Bool.not_eq_false', ne_eq, Decidable.not_not, Option.isNone_iff_eq_none, not_true_eq_false, not_false_eq_true] at hb); try (exfalso; omega)) <;> first | refine va_takeGA 17 rfl rfl rfl rfl rfl rfl rfl rfl ?_ | refine va_passGA 17 rfl rfl rfl rfl rfl rfl rfl rfl ?_)) <;> (first | refine va_takeGA 18 rfl rfl rfl rfl rfl rfl rfl rfl ?_ | refine va_passGA 18 rfl rfl rfl rfl rfl rfl rfl rfl ?_ | (refine va_caseG 18 rfl rfl rfl rfl rfl ?_ ?_ <;> (intro hb; (try simp only [decide_eq_true_eq, decide_eq_false_iff_not, Bool.not_eq_true', Bool.not_eq_false', ne_eq, Decidable.not_not, Option.isNone_iff_eq_none, not_true_eq_false, not_false_eq_true] at hb); try (exfalso; omega)) <;> first | refine va_takeGA 18 rfl rfl rfl rfl rfl rfl rfl rfl ?_ | refine va_passGA 18 rfl rfl rfl rfl rfl rfl rfl rfl ?_)) <;> (first | refine va_takeGA 19 rfl rfl rfl rfl rfl rfl rfl rfl ?_ | refine va_passGA 19 rfl rfl rfl rfl rfl rfl rfl rfl ?_ | (refine va_caseG 19 rfl rfl rfl rfl rfl ?_ ?_ <;> (intro hb; (try simp only [decide_eq_true_eq, decide_eq_false_iff_not, Bool.not_eq_true', Bool.not_eq_false', ne_eq, Decidable.not_not, Option.isNone_iff_eq_none, not_true_eq_false, not_false_eq_true] at hb); try (exfalso; omega)) <;> first | refine va_takeGA 19 rfl rfl rfl rfl rfl rfl rfl rfl ?_ | refine va_passGA 19 rfl rfl rfl rfl rfl rfl rfl rfl ?_)) <;> (first | refine va_takeGA 20 rfl rfl rfl rfl rfl rfl rfl rfl ?_ | refine va_passGA 20 rfl rfl rfl rfl rfl rfl rfl rfl ?_ | (refine va_caseG 20 rfl rfl rfl rfl rfl ?_ ?_ <;> (intro hb; (try simp only [decide_eq_true_eq, decide_eq_false_iff_not, Bool.not_eq_true', Bool.not_eq_false', ne_eq, Decidable.not_not, Option.isNone_iff_eq_none, not_true_eq_false, not_false_eq_true] at hb); try (exfalso; omega)) <;> first | refine va_takeGA 20 rfl rfl rfl rfl rfl rfl rfl rfl ?_ | refine va_passGA 20 rfl rfl rfl rfl rfl rfl rfl rfl ?_)) <;> (first | refine va_takeGA 21 rfl rfl rfl rfl rfl rfl rfl rfl ?_ | refine va_passGA 21 rfl rfl rfl rfl rfl rfl rfl rfl ?_ | (refine va_caseG 21 rfl rfl rfl rfl rfl ?_ ?_ <;> (intro hb; (try simp only [decide_eq_true_eq, decide_eq_false_iff_not, Bool.not_eq_true', Bool.not_eq_false', ne_eq, Decidable.not_not, Option.isNone_iff_eq_none, not_true_eq_false, not_false_eq_true] at hb); try (exfalso; omega)) <;> first | refine va_takeGA 21 rfl rfl rfl rfl rfl rfl rfl rfl ?_ | refine va_passGA 21 rfl rfl rfl rfl rfl rfl rfl rfl ?_)))
      all_goals first | (exact absurd hkk hb) | (exact absurd hb hkk) | skip
      refine va_oneG 22 (by kernel_rfl) rfl rfl rfl rfl rfl rfl (vo_call rfl rfl ?_)
      refine vc_mono (same_vc w0 _ ps[i].a ps[i].c ps[i].v qs[i].a qs[i].c qs[i].v rfl rfl) ?_
      rintro v L' ⟨rfl, rfl⟩
      refine ⟨.inr (SE.ent (by repeat' (first | exact SE.refl _ | refine SE.cons _ ?_ | refine SE.trans (se_drop _ _) ?_)) _), ?_⟩
      by_cases hs : ps[i].v = qs[i].v
      · rw [decide_eq_true hs]
        ((first | refine va_takeGA 23 rfl rfl rfl rfl rfl rfl rfl rfl ?_ | refine va_passGA 23 rfl rfl rfl rfl rfl rfl rfl rfl ?_ | (refine va_caseG 23 rfl rfl rfl rfl rfl ?_ ?_ <;> (intro hb; (try simp only [decide_eq_true_eq, decide_eq_false_iff_not, Bool.not_eq_true', Bool.not_eq_false', ne_eq, Decidable.not_not, Option.isNone_iff_eq_none, not_true_eq_false, not_false_eq_true] at hb); try (exfalso; omega)) <;> first | refine va_takeGA 23 rfl rfl rfl rfl rfl rfl rfl rfl ?_ | refine va_passGA 23 rfl rfl rfl rfl rfl rfl rfl rfl ?_)) <;> (refine va_takeA 24 rfl rfl rfl rfl ?_) <;> (refine va_done (by kernel_rfl) ?_))
        repeat' (first | (refine go1 ?_; intros) | (refine vl_caseG rfl rfl rfl rfl ?_ ?_ <;> (intro hb; (try simp only [decide_eq_true_eq, decide_eq_false_iff_not, Bool.not_eq_true', Bool.not_eq_false', ne_eq, Decidable.not_not, Option.isNone_iff_eq_none, not_true_eq_false, not_false_eq_true] at hb); try (exfalso; omega))) | (refine v_cond rfl ?_ ?_ <;> (intro hb; (try simp only [decide_eq_true_eq, decide_eq_false_iff_not, Bool.not_eq_true', Bool.not_eq_false', ne_eq, Decidable.not_not, Option.isNone_iff_eq_none, not_true_eq_false, not_false_eq_true] at hb); try (exfalso; omega))) | fail)
        exact ⟨rfl, i + 1, ⟨by omega, kvs_step hlt hlt2 he hkk hs⟩, by omega, by (repeat' (first | exact Sub.nil _ | refine Sub.cons rfl rfl ?_ | refine Sub.cons rfl ?_ ?_)), Ent.refl _ _⟩
      · rw [decide_eq_false hs]
        ((first | refine va_takeGA 23 rfl rfl rfl rfl rfl rfl rfl rfl ?_ | refine va_passGA 23 rfl rfl rfl rfl rfl rfl rfl rfl ?_ | (refine va_caseG 23 rfl rfl rfl rfl rfl ?_ ?_ <;> (intro hb; (try simp only [decide_eq_true_eq, decide_eq_false_iff_not, Bool.not_eq_true', Bool.not_eq_false', ne_eq, Decidable.not_not, Option.isNone_iff_eq_none, not_true_eq_false, not_false_eq_true] at hb); try (exfalso; omega)) <;> first | refine va_takeGA 23 rfl rfl rfl rfl rfl rfl rfl rfl ?_ | refine va_passGA 23 rfl rfl rfl rfl rfl rfl rfl rfl ?_)) <;> (refine va_takeA 24 rfl rfl rfl rfl ?_) <;> (refine va_done (by kernel_rfl) ?_))
        repeat' (first | (refine go1 ?_; intros) | (refine vl_caseG rfl rfl rfl rfl ?_ ?_ <;> (intro hb; (try simp only [decide_eq_true_eq, decide_eq_false_iff_not, Bool.not_eq_true', Bool.not_eq_false', ne_eq, Decidable.not_not, Option.isNone_iff_eq_none, not_true_eq_false, not_false_eq_true] at hb); try (exfalso; omega))) | (refine v_cond rfl ?_ ?_ <;> (intro hb; (try simp only [decide_eq_true_eq, decide_eq_false_iff_not, Bool.not_eq_true', Bool.not_eq_false', ne_eq, Decidable.not_not, Option.isNone_iff_eq_none, not_true_eq_false, not_false_eq_true] at hb); try (exfalso; omega))) | fail)
        exact ⟨by rw [decide_eq_false (kvs_ne2 hlt hlt2 hs)], rfl⟩
    · repeat' (first | (refine go1 ?_; intros) | (refine vl_caseG rfl rfl rfl rfl ?_ ?_ <;> (intro hb; (try simp only [decide_eq_true_eq, decide_eq_false_iff_not, Bool.not_eq_true', Bool.not_eq_false', ne_eq, Decidable.not_not, Option.isNone_iff_eq_none, not_true_eq_false, not_false_eq_true] at hb); try (exfalso; omega))) | (refine v_cond rfl ?_ ?_ <;> (intro hb; (try simp only [decide_eq_true_eq, decide_eq_false_iff_not, Bool.not_eq_true', Bool.not_eq_false', ne_eq, Decidable.not_not, Option.isNone_iff_eq_none, not_true_eq_false, not_false_eq_true] at hb); try (exfalso; omega))) | fail)
      (refine v_draw0 [] (by kernel_rfl) ?_ <;> (refine va_takeA 0 rfl rfl rfl rfl ?_) <;> (refine va_takeA 1 rfl rfl rfl rfl ?_) <;> (refine va_takeA 2 rfl rfl rfl rfl ?_) <;> (refine va_takeA 3 rfl rfl rfl rfl ?_) <;> (refine va_takeA 4 rfl rfl rfl rfl ?_) <;> (refine va_takeA 5 rfl rfl rfl rfl ?_) <;> (refine va_takeA 6 rfl rfl rfl rfl ?_) <;> (refine va_takeA 7 rfl rfl rfl rfl ?_) <;> (refine va_takeA 8 rfl rfl rfl rfl ?_) <;> (refine va_takeA 9 rfl rfl rfl rfl ?_) <;> (refine va_takeA 10 rfl rfl rfl rfl ?_) <;> (refine va_takeA 11 rfl rfl rfl rfl ?_) <;> (first | refine va_takeGA 12 rfl rfl rfl rfl rfl rfl rfl rfl ?_ | refine va_passGA 12 rfl rfl rfl rfl rfl rfl rfl rfl ?_ | (refine va_caseG 12 rfl rfl rfl rfl rfl ?_ ?_ <;> (intro hb; (try simp only [decide_eq_true_eq, decide_eq_false_iff_not, Bool.not_eq_true', Bool.not_eq_false', ne_eq, Decidable.not_not, Option.isNone_iff_eq_none, not_true_eq_false, not_false_eq_true] at hb); try (exfalso; omega)) <;> first | refine va_takeGA 12 rfl rfl rfl rfl rfl rfl rfl rfl ?_ | refine va_passGA 12 rfl rfl rfl rfl rfl rfl rfl rfl ?_)) <;> (first | refine va_takeGA 13 rfl rfl rfl rfl rfl rfl rfl rfl ?_ | refine va_passGA 13 rfl rfl rfl rfl rfl rfl rfl rfl ?_ | (refine va_caseG 13 rfl rfl rfl rfl rfl ?_ ?_ <;> (intro hb; (try simp only [decide_eq_true_eq, decide_eq_false_iff_not, Bool.not_eq_true', Bool.not_eq_false', ne_eq, Decidable.not_not, Option.isNone_iff_eq_none, not_true_eq_false, not_false_eq_true] at hb); try (exfalso; omega)) <;> first | refine va_takeGA 13 rfl rfl rfl rfl rfl rfl rfl rfl ?_ | refine va_passGA 13 rfl rfl rfl rfl rfl rfl rfl rfl ?_)) <;> (first | refine va_takeGA 14 rfl rfl rfl rfl rfl rfl rfl rfl ?_ | refine va_passGA 14 rfl rfl rfl rfl rfl rfl rfl rfl ?_ | (refine va_caseG 14 rfl rfl rfl rfl rfl ?_ ?_ <;> (intro hb; (try simp only [decide_eq_true_eq, decide_eq_false_iff_not, Bool.not_eq_true', Bool.not_eq_false', ne_eq, Decidable.not_not, Option.isNone_iff_eq_none, not_true_eq_false, not_false_eq_true] at hb); try (exfalso; omega)) <;> first | refine va_takeGA 14 rfl rfl rfl rfl rfl rfl rfl rfl ?_ | refine va_passGA 14 rfl rfl rfl rfl rfl rfl rfl rfl ?_)) <;> (first | refine va_takeGA 15 rfl rfl rfl rfl rfl rfl rfl rfl ?_ | refine va_passGA 15 rfl rfl rfl rfl rfl rfl rfl rfl ?_ | (refine va_caseG 15 rfl rfl rfl rfl rfl ?_ ?_ <;> (intro hb; (try simp only [decide_eq_true_eq, decide_eq_false_iff_not, Bool.not_eq_true', Bool.not_eq_false', ne_eq, Decidable.not_not, Option.isNone_iff_eq_none, not_true_eq_false, not_false_eq_true] at hb); try (exfalso; omega)) <;> first | refine va_takeGA 15 rfl rfl rfl rfl rfl rfl rfl rfl ?_ | refine va_passGA 15 rfl rfl rfl rfl rfl rfl rfl rfl ?_)) <;> (first | refine va_takeGA 16 rfl rfl rfl rfl rfl rfl rfl rfl ?_ | refine va_passGA 16 rfl rfl rfl rfl rfl rfl rfl rfl ?_ | (refine va_caseG 16 rfl rfl rfl rfl rfl ?_ ?_ <;> (intro hb; (try simp only [decide_eq_true_eq, decide_eq_false_iff_not, Bool.not_eq_true', Bool.not_eq_false', ne_eq, Decidable.not_not, Option.isNone_iff_eq_none, not_true_eq_false, not_false_eq_true] at hb); try (exfalso; omega)) <;> first | refine va_takeGA 16 rfl rfl rfl rfl rfl rfl rfl rfl ?_ | refine va_passGA 16 rfl rfl rfl rfl rfl rfl rfl rfl ?_)) <;> (first | refine va_takeGA 17 rfl rfl rfl rfl rfl rfl rfl rfl ?_ | refine va_passGA 17 rfl rfl rfl rfl rfl rfl rfl rfl ?_ | (refine va_caseG 17 rfl rfl rfl rfl rfl ?_ ?_ <;> (intro hb; (try simp only [decide_eq_true_eq, decide_eq_false_iff_not, Bool.not_eq_true', Bool.not_eq_false', ne_eq, Decidable.not_not, Option.isNone_iff_eq_none, not_true_eq_false, not_false_eq_true] at hb); try (exfalso; omega)) <;> first | refine va_takeGA 17 rfl rfl rfl rfl rfl rfl rfl rfl ?_ | refine va_passGA 17 rfl rfl rfl rfl rfl rfl rfl rfl ?_)) <;> (first | refine va_takeGA 18 rfl rfl rfl rfl rfl rfl rfl rfl ?_ | refine va_passGA 18 rfl rfl rfl rfl rfl rfl rfl rfl ?_ | (refine va_caseG 18 rfl rfl rfl rfl rfl ?_ ?_ <;> (intro hb; (try simp only [decide_eq_true_eq, decide_eq_false_iff_not, Bool.not_eq_true', Bool.not_eq_false', ne_eq, Decidable.not_not, Option.isNone_iff_eq_none, not_true_eq_false, not_false_eq_true] at hb); try (exfalso; omega)) <;> first | refine va_takeGA 18 rfl rfl rfl rfl rfl rfl rfl rfl ?_ | refine va_passGA 18 rfl rfl rfl rfl rfl rfl rfl rfl ?_)) <;> (first | refine va_takeGA 19 rfl rfl rfl rfl rfl rfl rfl rfl ?_ | refine va_passGA 19 rfl rfl rfl rfl rfl rfl rfl rfl ?_ | (refine va_caseG 19 rfl rfl rfl rfl rfl ?_ ?_ <;> (intro hb; (try simp only [decide_eq_true_eq, decide_eq_false_iff_not, Bool.not_eq_true', Bool.not_eq_false', ne_eq, Decidable.not_not, Option.isNone_iff_eq_none, not_true_eq_false, not_false_eq_true] at hb); try (exfalso; omega)) <;> first | refine va_takeGA 19 rfl rfl rfl rfl rfl rfl rfl rfl ?_ | refine va_passGA 19 rfl rfl rfl rfl rfl rfl rfl rfl ?_)) <;> (first | refine va_takeGA 20 rfl rfl rfl rfl rfl rfl rfl rfl ?_ | refine va_passGA 20 rfl rfl rfl rfl rfl rfl rfl rfl ?_ | (refine va_caseG 20 rfl rfl rfl rfl rfl ?_ ?_ <;> (intro hb; (try simp only [decide_eq_true_eq, decide_eq_false_iff_not, Bool.not_eq_true', Bool.not_eq_false', ne_eq, Decidable.not_not, Option.isNone_iff_eq_none, not_true_eq_false, not_false_eq_true] at hb); try (exfalso; omega)) <;> first | refine va_takeGA 20 rfl rfl rfl rfl rfl rfl rfl rfl ?_ | refine va_passGA 20 rfl rfl rfl rfl rfl rfl rfl rfl ?_)) <;> (first | refine va_takeGA 21 rfl rfl rfl rfl rfl rfl rfl rfl ?_ | refine va_passGA 21 rfl rfl rfl rfl rfl rfl rfl rfl ?_ | (refine va_caseG 21 rfl rfl rfl rfl rfl ?_ ?_ <;> (intro hb; (try simp only [decide_eq_true_eq, decide_eq_false_iff_not, Bool.not_eq_true', Bool.not_eq_false', ne_eq, Decidable.not_not, Option.isNone_iff_eq_none, not_true_eq_false, not_false_eq_true] at hb); try (exfalso; omega)) <;> first | refine va_takeGA 21 rfl rfl rfl rfl rfl rfl rfl rfl ?_ | refine va_passGA 21 rfl rfl rfl rfl rfl rfl rfl rfl ?_)))
      all_goals first | (exact absurd hkk hb) | (exact absurd hb hkk) | skip
      refine va_passGA 22 rfl rfl rfl rfl rfl rfl rfl rfl ?_
      ((first | refine va_takeGA 23 rfl rfl rfl rfl rfl rfl rfl rfl ?_ | refine va_passGA 23 rfl rfl rfl rfl rfl rfl rfl rfl ?_ | (refine va_caseG 23 rfl rfl rfl rfl rfl ?_ ?_ <;> (intro hb; (try simp only [decide_eq_true_eq, decide_eq_false_iff_not, Bool.not_eq_true', Bool.not_eq_false', ne_eq, Decidable.not_not, Option.isNone_iff_eq_none, not_true_eq_false, not_false_eq_true] at hb); try (exfalso; omega)) <;> first | refine va_takeGA 23 rfl rfl rfl rfl rfl rfl rfl rfl ?_ | refine va_passGA 23 rfl rfl rfl rfl rfl rfl rfl rfl ?_)) <;> (refine va_takeA 24 rfl rfl rfl rfl ?_) <;> (refine va_done (by kernel_rfl) ?_))
      repeat' (first | (refine go1 ?_; intros) | (refine vl_caseG rfl rfl rfl rfl ?_ ?_ <;> (intro hb; (try simp only [decide_eq_true_eq, decide_eq_false_iff_not, Bool.not_eq_true', Bool.not_eq_false', ne_eq, Decidable.not_not, Option.isNone_iff_eq_none, not_true_eq_false, not_false_eq_true] at hb); try (exfalso; omega))) | (refine v_cond rfl ?_ ?_ <;> (intro hb; (try simp only [decide_eq_true_eq, decide_eq_false_iff_not, Bool.not_eq_true', Bool.not_eq_false', ne_eq, Decidable.not_not, Option.isNone_iff_eq_none, not_true_eq_false, not_false_eq_true] at hb); try (exfalso; omega))) | fail)
      exact ⟨by rw [decide_eq_false (kvs_ne1 hlt hlt2 hkk)], rfl⟩
  · obtain rfl : i = ps.length := by omega
    repeat' (first | (refine go1 ?_; intros) | (refine vl_caseG rfl rfl rfl rfl ?_ ?_ <;> (intro hb; (try simp only [decide_eq_true_eq, decide_eq_false_iff_not, Bool.not_eq_true', Bool.not_eq_false', ne_eq, Decidable.not_not, Option.isNone_iff_eq_none, not_true_eq_false, not_false_eq_true] at hb); try (exfalso; omega))) | (refine v_cond rfl ?_ ?_ <;> (intro hb; (try simp only [decide_eq_true_eq, decide_eq_false_iff_not, Bool.not_eq_true', Bool.not_eq_false', ne_eq, Decidable.not_not, Option.isNone_iff_eq_none, not_true_eq_false, not_false_eq_true] at hb); try (exfalso; omega))) | fail)
    refine ⟨?_, rfl⟩
    rw [List.take_of_length_le (by simp), List.take_of_length_le (by simp; omega)] at he
    rw [decide_eq_true he]
end Go.Proofs.Ytmaimkbppnpbnaa
namespace Go.Proofs.Ytmaimkbppnpbnaa
open Go Go.RowKit
set_option linter.unusedVariables false
set_option linter.unusedSimpArgs false
open Classical

/-- With a value for a key, without a key: the error, and the map. -/
noncomputable def putE (l : List KV) (k v : List UInt8) : Int := if MapOk l ∧ okVal v.length = true then (if (putF l k v).length ≤ 512 then 0 else 9) else 8
noncomputable def putM (l : List KV) (k v : List UInt8) : List KV := if putE l k v = 0 then putF l k v else []
noncomputable def dropE (l : List KV) (k : List UInt8) : Int := if MapOk l then (if has l k = true then 0 else 6) else 8
noncomputable def dropM (l : List KV) (k : List UInt8) : List KV := if dropE l k = 0 then dropF l k else []
theorem RPs.nil (w0 : World) (L : List Asn) (c : Nat) : ∃ L'', Ent w0 L L'' ∧ RPs w0 L [] (.slice none 0 0) L'' := ⟨_, (se_ps_nil L).ent w0, none, 0, [], rfl, rfl, rfl⟩
end Go.Proofs.Ytmaimkbppnpbnaa
