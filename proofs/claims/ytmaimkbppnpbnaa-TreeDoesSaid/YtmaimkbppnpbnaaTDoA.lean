/-
  Pairs of a tree, with a value for a key, without a key: the document's.
-/
import Derived.Test.YtmaimkbppnpbnaaTD
import Derived.Test.YtmaimkbppnpbnaaTPtD
import Derived.Test.YtmaimkbppnpbnaaTSpA
import Derived.Test.YtmaimkbppnpbnaaGM
set_option linter.unusedVariables false
set_option linter.unusedSimpArgs false
namespace Go.Proofs.Ytmaimkbppnpbnaa
open Go Go.RowKit
set_option linter.unusedVariables false
set_option linter.unusedSimpArgs false
open Classical

theorem all6_vc (w0 : World) (L : List Asn) (a : Option Addr) (c : Nat) (ns : List Nd) (r : Int) {n : Nat} (hn : n = ns.length) (hok : NsOk ns) (hm : MayP ns r) [hr : RdC w0 L a (ndc ns)] [hv : RdNs w0 L ns] :
    VC Try.prog w0 22 [.agg #[.slice a n c, .int .i64 r]] L (RPs w0 L (forP ns r.toNat)) := by
  subst hn
  obtain ⟨rn, rfl⟩ : ∃ rn : Nat, r = rn := ⟨r.toNat, by have := hm.lo; omega⟩
  have hhi := hm.hi
  rw [Int.toNat_natCast]
  refine vc_ent ?_
  refine vc_in rfl rfl ?_
  repeat' (first | (refine go1 ?_; intros) | (refine vl_caseG rfl rfl rfl rfl ?_ ?_ <;> (intro hb; (try simp only [decide_eq_true_eq, decide_eq_false_iff_not, Bool.not_eq_true', Bool.not_eq_false', ne_eq, Decidable.not_not, Option.isNone_iff_eq_none, not_true_eq_false, not_false_eq_true] at hb); try (exfalso; omega))) | (refine v_cond rfl ?_ ?_ <;> (intro hb; (try simp only [decide_eq_true_eq, decide_eq_false_iff_not, Bool.not_eq_true', Bool.not_eq_false', ne_eq, Decidable.not_not, Option.isNone_iff_eq_none, not_true_eq_false, not_false_eq_true] at hb); try (exfalso; omega))) | fail)
  refine vl_o rfl (vo_call rfl rfl ?_)
  refine vc_mono (for6_vc w0 a c ns rn hok hm.ones rn _ 0 zb (by omega) (fun _ _ => rfl) hm.right) ?_
  rintro v L' ⟨a1, c1, ps, rfl, hps, rfl⟩
  repeat' (first | (refine go1 ?_; intros) | (refine vl_caseG rfl rfl rfl rfl ?_ ?_ <;> (intro hb; (try simp only [decide_eq_true_eq, decide_eq_false_iff_not, Bool.not_eq_true', Bool.not_eq_false', ne_eq, Decidable.not_not, Option.isNone_iff_eq_none, not_true_eq_false, not_false_eq_true] at hb); try (exfalso; omega))) | (refine v_cond rfl ?_ ?_ <;> (intro hb; (try simp only [decide_eq_true_eq, decide_eq_false_iff_not, Bool.not_eq_true', Bool.not_eq_false', ne_eq, Decidable.not_not, Option.isNone_iff_eq_none, not_true_eq_false, not_false_eq_true] at hb); try (exfalso; omega))) | fail)
  exact ⟨_, sei _ _ (ownPs a1 c1 ps :: vsA ps :: L), a1, c1, ps, rfl, hps, rfl⟩
theorem all_ok {ns : List Nd} {r : Int} (hok : NsOk ns) (hm : MayP ns r) {ps : List PR} (h : kvs ps = forP ns r.toNat) : PsOk ps := for_ok hok (fun _ _ => rfl) hm.right h
theorem all_len {ns : List Nd} {r : Int} (hm : MayP ns r) {ps : List PR} (h : kvs ps = forP ns r.toNat) : 2 * ps.length ≤ ns.length + 1 := by
  have h1 := hm.half
  have h2 := congrArg List.length h
  simp only [List.length_map] at h2
  omega
set_option maxRecDepth 100000 in
set_option maxHeartbeats 1000000 in
theorem rput6_vc (w0 : World) (L : List Asn) (a : Option Addr) (c : Nat) (ns : List Nd) (r : Int) (k : List UInt8) (va : Option Addr) (vc : Nat) (v : List UInt8) {n m : Nat} (hn : n = ns.length) (hmv : m = v.length) (hok : NsOk ns) (hlk : k.length = 32) (hvl : v.length ≤ 1000000) [hr : RdC w0 L a (ndc ns)] [hv : RdNs w0 L ns] [hrv : RdC w0 L va (bvs v)] :
    VC Try.prog w0 7 [.agg #[.slice a n c, .int .i64 r], .agg (bvs k).toArray, .slice va m vc] L fun u L' => ∃ x, u = .tuple #[x, .int .i64 (tputE ns r v)] ∧ RPs w0 L (if tputE ns r v = 0 then putF (forP ns r.toNat) k v else []) x L' := by
  subst hn
  subst hmv
  have hlen := hok.len
  refine vc_ent ?_
  refine vc_in rfl rfl ?_
  have hbad : ∀ (e : Int) (M : List Asn), e ≠ 0 → tputE ns r v = e → SE M L → ∃ L'', Ent w0 M L'' ∧ ∃ x, (Value.tuple #[.slice none 0 0, .int .i64 e] = .tuple #[x, .int .i64 (tputE ns r v)]) ∧ RPs w0 L (if tputE ns r v = 0 then putF (forP ns r.toNat) k v else []) x L'' := fun e M h1 h2 h3 => ⟨_, (h3.trans (se_ps_nil L)).ent w0, _, by rw [h2]; rfl, none, 0, [], rfl, by rw [h2, if_neg h1]; rfl, rfl⟩
  repeat' (first | (refine go1 ?_; intros) | (refine vl_caseG rfl rfl rfl rfl ?_ ?_ <;> (intro hb; (try simp only [decide_eq_true_eq, decide_eq_false_iff_not, Bool.not_eq_true', Bool.not_eq_false', ne_eq, Decidable.not_not, Option.isNone_iff_eq_none, not_true_eq_false, not_false_eq_true] at hb); try (exfalso; omega))) | (refine v_cond rfl ?_ ?_ <;> (intro hb; (try simp only [decide_eq_true_eq, decide_eq_false_iff_not, Bool.not_eq_true', Bool.not_eq_false', ne_eq, Decidable.not_not, Option.isNone_iff_eq_none, not_true_eq_false, not_false_eq_true] at hb); try (exfalso; omega))) | fail)
  refine vl_o rfl (vo_call rfl rfl ?_)
  refine vc_mono (may6_vc w0 _ a c ns r rfl hok) ?_
  rintro v' L' ⟨rfl, rfl⟩
  by_cases hm : MayP ns r
  · rw [decide_eq_true hm]
    repeat' (first | (refine go1 ?_; intros) | (refine vl_caseG rfl rfl rfl rfl ?_ ?_ <;> (intro hb; (try simp only [decide_eq_true_eq, decide_eq_false_iff_not, Bool.not_eq_true', Bool.not_eq_false', ne_eq, Decidable.not_not, Option.isNone_iff_eq_none, not_true_eq_false, not_false_eq_true] at hb); try (exfalso; omega))) | (refine v_cond rfl ?_ ?_ <;> (intro hb; (try simp only [decide_eq_true_eq, decide_eq_false_iff_not, Bool.not_eq_true', Bool.not_eq_false', ne_eq, Decidable.not_not, Option.isNone_iff_eq_none, not_true_eq_false, not_false_eq_true] at hb); try (exfalso; omega))) | fail)
    refine vl_o rfl (vo_call rfl rfl ?_)
    refine vc_mono (val5_vc w0 _ va v.length vc (by omega)) ?_
    rintro v' L' ⟨rfl, rfl⟩
    cases hv1 : okVal v.length
    · repeat' (first | (refine go1 ?_; intros) | (refine vl_caseG rfl rfl rfl rfl ?_ ?_ <;> (intro hb; (try simp only [decide_eq_true_eq, decide_eq_false_iff_not, Bool.not_eq_true', Bool.not_eq_false', ne_eq, Decidable.not_not, Option.isNone_iff_eq_none, not_true_eq_false, not_false_eq_true] at hb); try (exfalso; omega))) | (refine v_cond rfl ?_ ?_ <;> (intro hb; (try simp only [decide_eq_true_eq, decide_eq_false_iff_not, Bool.not_eq_true', Bool.not_eq_false', ne_eq, Decidable.not_not, Option.isNone_iff_eq_none, not_true_eq_false, not_false_eq_true] at hb); try (exfalso; omega))) | fail)
      exact hbad 8 _ (by decide) (by unfold tputE; rw [if_neg (fun e => by rw [hv1] at e; exact absurd e.2 (by decide))]) SEI.out
    · repeat' (first | (refine go1 ?_; intros) | (refine vl_caseG rfl rfl rfl rfl ?_ ?_ <;> (intro hb; (try simp only [decide_eq_true_eq, decide_eq_false_iff_not, Bool.not_eq_true', Bool.not_eq_false', ne_eq, Decidable.not_not, Option.isNone_iff_eq_none, not_true_eq_false, not_false_eq_true] at hb); try (exfalso; omega))) | (refine v_cond rfl ?_ ?_ <;> (intro hb; (try simp only [decide_eq_true_eq, decide_eq_false_iff_not, Bool.not_eq_true', Bool.not_eq_false', ne_eq, Decidable.not_not, Option.isNone_iff_eq_none, not_true_eq_false, not_false_eq_true] at hb); try (exfalso; omega))) | fail)
      · exact hbad 9 _ (by decide) (by unfold tputE; rw [if_pos ⟨hm, hv1⟩, if_pos (by omega)]) SEI.out
      have hE : tputE ns r v = 0 := by unfold tputE; rw [if_pos ⟨hm, hv1⟩, if_neg (by omega)]
      have hS := hm.for.srt
      (refine v_draw0 [4] (by kernel_rfl) ?_ <;> (refine va_takeA 0 rfl rfl rfl rfl ?_) <;> (refine va_takeA 2 rfl rfl rfl rfl ?_) <;> (refine va_takeA 3 rfl rfl rfl rfl ?_))
      refine va_one 1 (by kernel_rfl) rfl rfl (vo_call rfl rfl ?_)
      refine vc_mono (all6_vc w0 _ a c ns r rfl hok hm) ?_
      rintro v' L' ⟨a1, c1, ps, rfl, hps, rfl⟩
      have okp := all_ok hok hm hps
      have lnp := all_len hm hps
      rw [← hps] at hS
      refine ⟨.inr (SE.ent (by repeat' (first | exact SE.refl _ | refine SE.cons _ ?_ | refine SE.trans (se_drop _ _) ?_)) _), ?_⟩
      skip
      refine va_one 4 (by kernel_rfl) rfl rfl (vo_call rfl rfl ?_)
      refine vc_mono (rwith_vc w0 _ a1 c1 ps k va vc v rfl rfl okp hlk hvl hS (by omega)) ?_
      rintro v' L' ⟨a2, c2, qs, rfl, hqs, rfl⟩
      refine ⟨.inr (SE.ent (by repeat' (first | exact SE.refl _ | refine SE.cons _ ?_ | refine SE.trans (se_drop _ _) ?_)) _), ?_⟩
      ((refine va_takePA 5 rfl rfl rfl rfl ?_) <;> (refine va_takePA 6 rfl rfl rfl rfl ?_) <;> (refine va_done (by kernel_rfl) ?_))
      repeat' (first | (refine go1 ?_; intros) | (refine vl_caseG rfl rfl rfl rfl ?_ ?_ <;> (intro hb; (try simp only [decide_eq_true_eq, decide_eq_false_iff_not, Bool.not_eq_true', Bool.not_eq_false', ne_eq, Decidable.not_not, Option.isNone_iff_eq_none, not_true_eq_false, not_false_eq_true] at hb); try (exfalso; omega))) | (refine v_cond rfl ?_ ?_ <;> (intro hb; (try simp only [decide_eq_true_eq, decide_eq_false_iff_not, Bool.not_eq_true', Bool.not_eq_false', ne_eq, Decidable.not_not, Option.isNone_iff_eq_none, not_true_eq_false, not_false_eq_true] at hb); try (exfalso; omega))) | fail)
      exact ⟨_, sei _ _ (ownPs a2 c2 qs :: vsA qs :: L), _, by rw [hE], a2, c2, qs, rfl, by rw [hE, if_pos rfl, hqs, hps], rfl⟩
  · rw [decide_eq_false hm]
    repeat' (first | (refine go1 ?_; intros) | (refine vl_caseG rfl rfl rfl rfl ?_ ?_ <;> (intro hb; (try simp only [decide_eq_true_eq, decide_eq_false_iff_not, Bool.not_eq_true', Bool.not_eq_false', ne_eq, Decidable.not_not, Option.isNone_iff_eq_none, not_true_eq_false, not_false_eq_true] at hb); try (exfalso; omega))) | (refine v_cond rfl ?_ ?_ <;> (intro hb; (try simp only [decide_eq_true_eq, decide_eq_false_iff_not, Bool.not_eq_true', Bool.not_eq_false', ne_eq, Decidable.not_not, Option.isNone_iff_eq_none, not_true_eq_false, not_false_eq_true] at hb); try (exfalso; omega))) | fail)
    exact hbad 8 _ (by decide) (by unfold tputE; rw [if_neg (fun e => hm e.1)]) SEI.out
theorem find_lt {l : List KV} {k : List UInt8} : findI l k < 0 ↔ has l k = false := by
  unfold findI
  cases h : has l k <;> simp
set_option maxRecDepth 100000 in
set_option maxHeartbeats 1000000 in
theorem rdrop6_vc (w0 : World) (L : List Asn) (a : Option Addr) (c : Nat) (ns : List Nd) (r : Int) (k : List UInt8) {n : Nat} (hn : n = ns.length) (hok : NsOk ns) (hlk : k.length = 32) [hr : RdC w0 L a (ndc ns)] [hv : RdNs w0 L ns] :
    VC Try.prog w0 9 [.agg #[.slice a n c, .int .i64 r], .agg (bvs k).toArray] L fun u L' => ∃ x, u = .tuple #[x, .int .i64 (tdropE ns r k)] ∧ RPs w0 L (if tdropE ns r k = 0 then dropF (forP ns r.toNat) k else []) x L' := by
  subst hn
  have hlen := hok.len
  refine vc_ent ?_
  refine vc_in rfl rfl ?_
  have hbad : ∀ (e : Int) (M : List Asn), e ≠ 0 → tdropE ns r k = e → SE M L → ∃ L'', Ent w0 M L'' ∧ ∃ x, (Value.tuple #[.slice none 0 0, .int .i64 e] = .tuple #[x, .int .i64 (tdropE ns r k)]) ∧ RPs w0 L (if tdropE ns r k = 0 then dropF (forP ns r.toNat) k else []) x L'' := fun e M h1 h2 h3 => ⟨_, (h3.trans (se_ps_nil L)).ent w0, _, by rw [h2]; rfl, none, 0, [], rfl, by rw [h2, if_neg h1]; rfl, rfl⟩
  repeat' (first | (refine go1 ?_; intros) | (refine vl_caseG rfl rfl rfl rfl ?_ ?_ <;> (intro hb; (try simp only [decide_eq_true_eq, decide_eq_false_iff_not, Bool.not_eq_true', Bool.not_eq_false', ne_eq, Decidable.not_not, Option.isNone_iff_eq_none, not_true_eq_false, not_false_eq_true] at hb); try (exfalso; omega))) | (refine v_cond rfl ?_ ?_ <;> (intro hb; (try simp only [decide_eq_true_eq, decide_eq_false_iff_not, Bool.not_eq_true', Bool.not_eq_false', ne_eq, Decidable.not_not, Option.isNone_iff_eq_none, not_true_eq_false, not_false_eq_true] at hb); try (exfalso; omega))) | fail)
  refine vl_o rfl (vo_call rfl rfl ?_)
  refine vc_mono (may6_vc w0 _ a c ns r rfl hok) ?_
  rintro v' L' ⟨rfl, rfl⟩
  by_cases hm : MayP ns r
  · rw [decide_eq_true hm]
    have hS := hm.for.srt
    repeat' (first | (refine go1 ?_; intros) | (refine vl_caseG rfl rfl rfl rfl ?_ ?_ <;> (intro hb; (try simp only [decide_eq_true_eq, decide_eq_false_iff_not, Bool.not_eq_true', Bool.not_eq_false', ne_eq, Decidable.not_not, Option.isNone_iff_eq_none, not_true_eq_false, not_false_eq_true] at hb); try (exfalso; omega))) | (refine v_cond rfl ?_ ?_ <;> (intro hb; (try simp only [decide_eq_true_eq, decide_eq_false_iff_not, Bool.not_eq_true', Bool.not_eq_false', ne_eq, Decidable.not_not, Option.isNone_iff_eq_none, not_true_eq_false, not_false_eq_true] at hb); try (exfalso; omega))) | fail)
    (refine v_draw0 [3] (by kernel_rfl) ?_ <;> (refine va_takeA 0 rfl rfl rfl rfl ?_) <;> (refine va_takeA 2 rfl rfl rfl rfl ?_))
    refine va_one 1 (by kernel_rfl) rfl rfl (vo_call rfl rfl ?_)
    refine vc_mono (all6_vc w0 _ a c ns r rfl hok hm) ?_
    rintro v' L' ⟨a1, c1, ps, rfl, hps, rfl⟩
    have okp := all_ok hok hm hps
    have lnp := all_len hm hps
    rw [← hps] at hS
    refine ⟨.inr (SE.ent (by repeat' (first | exact SE.refl _ | refine SE.cons _ ?_ | refine SE.trans (se_drop _ _) ?_)) _), ?_⟩
    skip
    refine va_one 3 (by kernel_rfl) rfl rfl (vo_call rfl rfl ?_)
    refine vc_mono (rfind_vc w0 _ a1 c1 ps k rfl okp hlk hS) ?_
    rintro v' L' ⟨rfl, rfl⟩
    have hF := find_lt (l := kvs ps) (k := k)
    refine ⟨.inr (SE.ent (by repeat' (first | exact SE.refl _ | refine SE.cons _ ?_ | refine SE.trans (se_drop _ _) ?_)) _), ?_⟩
    generalize findI (kvs ps) k = F at *
    ((refine va_takePA 4 rfl rfl rfl rfl ?_) <;> (refine va_done (by kernel_rfl) ?_))
    repeat' (first | (refine go1 ?_; intros) | (refine vl_caseG rfl rfl rfl rfl ?_ ?_ <;> (intro hb; (try simp only [decide_eq_true_eq, decide_eq_false_iff_not, Bool.not_eq_true', Bool.not_eq_false', ne_eq, Decidable.not_not, Option.isNone_iff_eq_none, not_true_eq_false, not_false_eq_true] at hb); try (exfalso; omega))) | (refine v_cond rfl ?_ ?_ <;> (intro hb; (try simp only [decide_eq_true_eq, decide_eq_false_iff_not, Bool.not_eq_true', Bool.not_eq_false', ne_eq, Decidable.not_not, Option.isNone_iff_eq_none, not_true_eq_false, not_false_eq_true] at hb); try (exfalso; omega))) | fail)
    · exact hbad 6 _ (by decide) (by unfold tdropE; rw [if_pos hm, if_neg (by rw [← hps, hF.1 hb]; decide)]) SEI.out
    · have hh : has (forP ns r.toNat) k = true := by
        rw [← hps]
        cases h : has (kvs ps) k
        · exact absurd (hF.2 h) (by assumption)
        · rfl
      exact hbad 9 _ (by decide) (by unfold tdropE; rw [if_pos hm, if_pos hh, if_pos (by omega)]) SEI.out
    · have hh : has (forP ns r.toNat) k = true := by
        rw [← hps]
        cases h : has (kvs ps) k
        · exact absurd (hF.2 h) (by assumption)
        · rfl
      have hE : tdropE ns r k = 0 := by unfold tdropE; rw [if_pos hm, if_pos hh, if_neg (by omega)]
      (refine v_draw0 [3] (by kernel_rfl) ?_ <;> (refine va_takeA 0 rfl rfl rfl rfl ?_) <;> (refine va_takeA 2 rfl rfl rfl rfl ?_))
      refine va_one 1 (by kernel_rfl) rfl rfl (vo_call rfl rfl ?_)
      refine vc_mono (all6_vc w0 _ a c ns r rfl hok hm) ?_
      rintro v' L' ⟨a3, c3, ts, rfl, hts, rfl⟩
      have okt := all_ok hok hm hts
      refine ⟨.inr (SE.ent (by repeat' (first | exact SE.refl _ | refine SE.cons _ ?_ | refine SE.trans (se_drop _ _) ?_)) _), ?_⟩
      skip
      refine va_one 3 (by kernel_rfl) rfl rfl (vo_call rfl rfl ?_)
      refine vc_mono (rwithout_vc w0 _ a3 c3 ts k rfl okt hlk) ?_
      rintro v' L' ⟨a2, c2, qs, rfl, hqs, rfl⟩
      refine ⟨.inr (SE.ent (by repeat' (first | exact SE.refl _ | refine SE.cons _ ?_ | refine SE.trans (se_drop _ _) ?_)) _), ?_⟩
      ((refine va_takePA 4 rfl rfl rfl rfl ?_) <;> (refine va_takePA 5 rfl rfl rfl rfl ?_) <;> (refine va_done (by kernel_rfl) ?_))
      repeat' (first | (refine go1 ?_; intros) | (refine vl_caseG rfl rfl rfl rfl ?_ ?_ <;> (intro hb; (try simp only [decide_eq_true_eq, decide_eq_false_iff_not, Bool.not_eq_true', Bool.not_eq_false', ne_eq, Decidable.not_not, Option.isNone_iff_eq_none, not_true_eq_false, not_false_eq_true] at hb); try (exfalso; omega))) | (refine v_cond rfl ?_ ?_ <;> (intro hb; (try simp only [decide_eq_true_eq, decide_eq_false_iff_not, Bool.not_eq_true', Bool.not_eq_false', ne_eq, Decidable.not_not, Option.isNone_iff_eq_none, not_true_eq_false, not_false_eq_true] at hb); try (exfalso; omega))) | fail)
      exact ⟨_, sei _ _ (ownPs a2 c2 qs :: vsA qs :: L), _, by rw [hE], a2, c2, qs, rfl, by rw [hE, if_pos rfl, hqs, hts], rfl⟩
  · rw [decide_eq_false hm]
    repeat' (first | (refine go1 ?_; intros) | (refine vl_caseG rfl rfl rfl rfl ?_ ?_ <;> (intro hb; (try simp only [decide_eq_true_eq, decide_eq_false_iff_not, Bool.not_eq_true', Bool.not_eq_false', ne_eq, Decidable.not_not, Option.isNone_iff_eq_none, not_true_eq_false, not_false_eq_true] at hb); try (exfalso; omega))) | (refine v_cond rfl ?_ ?_ <;> (intro hb; (try simp only [decide_eq_true_eq, decide_eq_false_iff_not, Bool.not_eq_true', Bool.not_eq_false', ne_eq, Decidable.not_not, Option.isNone_iff_eq_none, not_true_eq_false, not_false_eq_true] at hb); try (exfalso; omega))) | fail)
    exact hbad 8 _ (by decide) (by unfold tdropE; rw [if_neg hm]) SEI.out
end Go.Proofs.Ytmaimkbppnpbnaa
