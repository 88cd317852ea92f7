/-
  What a tree tells: the statement's law.
-/
import Derived.Test.YtmaimkbppnpbnaaDoorTTlA
import Derived.Test.YtmaimkbppnpbnaaDoorTC
import Derived.Test.YtmaimkbppnpbnaaDoorTSpA
import Derived.Test.YtmaimkbppnpbnaaDoorTGtA
set_option linter.unusedVariables false
set_option linter.unusedSimpArgs false
namespace Go.Proofs.YtmaimkbppnpbnaaDoor
open Go Go.RowKit
set_option linter.unusedVariables false
set_option linter.unusedSimpArgs false
open Classical

theorem getT_eq {ms ns : List Nd} (e : pls ms = pls ns) (r : Int) (k : List UInt8) : getT ms r k = getT ns r k := by
  unfold getT
  simp only [mayP_eq e r, forP_eq e]
theorem hasT_eq {ms ns : List Nd} (e : pls ms = pls ns) (r : Int) (k : List UInt8) : hasT ms r k = hasT ns r k := by
  unfold hasT
  simp only [mayP_eq e r, forP_eq e]
theorem tatE_eq {ms ns : List Nd} (e : pls ms = pls ns) (r q : Int) : tatE ms r q = tatE ns r q := by
  unfold tatE
  simp only [mayP_eq e r, mayP_eq e q]
theorem sumT_eq {ms ns : List Nd} (e : pls ms = pls ns) (r : Int) : sumT ms r = sumT ns r := by
  by_cases h : MayP ns r
  · rw [sum_for h, sum_for ((mayP_eq e r).2 h), forP_eq e]
  · unfold sumT
    rw [if_neg h, if_neg (fun h2 => h ((mayP_eq e r).1 h2))]
set_option maxRecDepth 100000 in
set_option maxHeartbeats 8000000 in
theorem treeTells_vc (w0 : World) [hK : RdA w0 (some ⟨0, 0, none⟩) (wds K64)] (a : Option Addr) (c : Nat) (ns : List Nd) (r : Int) (b : Option Addr) (d : Nat) (os : List Nd) (s : Int) (k : List UInt8) (q : Int) (hkey : ∀ p ∈ ns, p.key.length = 32) (hl : ns.length ≤ 9223372036854775807) (hkey2 : ∀ p ∈ os, p.key.length = 32) (hl2 : os.length ≤ 9223372036854775807) (hlk : k.length = 32) [hr : RdA w0 a (ndc ns)] [hv : RdNs w0 [] ns] [hr2 : RdA w0 b (ndc os)] [hv2 : RdNs w0 [] os] :
    VC Tryd.prog w0 4 [.agg #[.slice a ns.length c, .int .i64 r], .agg #[.slice b os.length d, .int .i64 s], .agg (bvs k).toArray, .int .i64 q] [] fun u L' => u = .bool true := by
  refine vc_in rfl rfl ?_
  repeat' (first | (refine go1 ?_; intros) | (refine vl_caseG rfl rfl rfl rfl ?_ ?_ <;> (intro hb; (try simp only [decide_eq_true_eq, decide_eq_false_iff_not, Bool.not_eq_true', Bool.not_eq_false', ne_eq, Decidable.not_not, Option.isNone_iff_eq_none, not_true_eq_false, not_false_eq_true] at hb); try (exfalso; omega))) | (refine v_cond rfl ?_ ?_ <;> (intro hb; (try simp only [decide_eq_true_eq, decide_eq_false_iff_not, Bool.not_eq_true', Bool.not_eq_false', ne_eq, Decidable.not_not, Option.isNone_iff_eq_none, not_true_eq_false, not_false_eq_true] at hb); try (exfalso; omega))) | fail)
  refine vl_o rfl (vo_call rfl rfl ?_)
  refine vc_mono (great6_vc w0 _ a c ns r 600 rfl (by decide) hkey hl) ?_
  rintro u L' ⟨b1, rfl, hg, rfl⟩
  cases b1 with
  | true =>
    repeat' (first | (refine go1 ?_; intros) | (refine vl_caseG rfl rfl rfl rfl ?_ ?_ <;> (intro hb; (try simp only [decide_eq_true_eq, decide_eq_false_iff_not, Bool.not_eq_true', Bool.not_eq_false', ne_eq, Decidable.not_not, Option.isNone_iff_eq_none, not_true_eq_false, not_false_eq_true] at hb); try (exfalso; omega))) | (refine v_cond rfl ?_ ?_ <;> (intro hb; (try simp only [decide_eq_true_eq, decide_eq_false_iff_not, Bool.not_eq_true', Bool.not_eq_false', ne_eq, Decidable.not_not, Option.isNone_iff_eq_none, not_true_eq_false, not_false_eq_true] at hb); try (exfalso; omega))) | fail)
    exact rfl
  | false =>
  obtain ⟨hg1, hg2⟩ := hg rfl
  have hok : NsOk ns := ⟨hkey, fun p hp => by have := hg2 p hp; omega, by omega⟩
  repeat' (first | (refine go1 ?_; intros) | (refine vl_caseG rfl rfl rfl rfl ?_ ?_ <;> (intro hb; (try simp only [decide_eq_true_eq, decide_eq_false_iff_not, Bool.not_eq_true', Bool.not_eq_false', ne_eq, Decidable.not_not, Option.isNone_iff_eq_none, not_true_eq_false, not_false_eq_true] at hb); try (exfalso; omega))) | (refine v_cond rfl ?_ ?_ <;> (intro hb; (try simp only [decide_eq_true_eq, decide_eq_false_iff_not, Bool.not_eq_true', Bool.not_eq_false', ne_eq, Decidable.not_not, Option.isNone_iff_eq_none, not_true_eq_false, not_false_eq_true] at hb); try (exfalso; omega))) | fail)
  refine vl_o rfl (vo_call rfl rfl ?_)
  refine vc_mono (great6_vc w0 _ b d os s 600 rfl (by decide) hkey2 hl2) ?_
  rintro u L' ⟨b1, rfl, hg, rfl⟩
  cases b1 with
  | true =>
    repeat' (first | (refine go1 ?_; intros) | (refine vl_caseG rfl rfl rfl rfl ?_ ?_ <;> (intro hb; (try simp only [decide_eq_true_eq, decide_eq_false_iff_not, Bool.not_eq_true', Bool.not_eq_false', ne_eq, Decidable.not_not, Option.isNone_iff_eq_none, not_true_eq_false, not_false_eq_true] at hb); try (exfalso; omega))) | (refine v_cond rfl ?_ ?_ <;> (intro hb; (try simp only [decide_eq_true_eq, decide_eq_false_iff_not, Bool.not_eq_true', Bool.not_eq_false', ne_eq, Decidable.not_not, Option.isNone_iff_eq_none, not_true_eq_false, not_false_eq_true] at hb); try (exfalso; omega))) | fail)
    exact rfl
  | false =>
  obtain ⟨ho1, ho2⟩ := hg rfl
  have hoo : NsOk os := ⟨hkey2, fun p hp => by have := ho2 p hp; omega, by omega⟩
  repeat' (first | (refine go1 ?_; intros) | (refine vl_caseG rfl rfl rfl rfl ?_ ?_ <;> (intro hb; (try simp only [decide_eq_true_eq, decide_eq_false_iff_not, Bool.not_eq_true', Bool.not_eq_false', ne_eq, Decidable.not_not, Option.isNone_iff_eq_none, not_true_eq_false, not_false_eq_true] at hb); try (exfalso; omega))) | (refine v_cond rfl ?_ ?_ <;> (intro hb; (try simp only [decide_eq_true_eq, decide_eq_false_iff_not, Bool.not_eq_true', Bool.not_eq_false', ne_eq, Decidable.not_not, Option.isNone_iff_eq_none, not_true_eq_false, not_false_eq_true] at hb); try (exfalso; omega))) | fail)
  refine vl_o rfl (vo_call rfl rfl ?_)
  refine vc_mono (twin6_vc w0 _ a c ns r rfl hok) ?_
  rintro u L' ⟨a1, c1, ms, rfl, hms, rfl⟩
  have hom := hok.of_pls hms
  repeat' (first | (refine go1 ?_; intros) | (refine vl_caseG rfl rfl rfl rfl ?_ ?_ <;> (intro hb; (try simp only [decide_eq_true_eq, decide_eq_false_iff_not, Bool.not_eq_true', Bool.not_eq_false', ne_eq, Decidable.not_not, Option.isNone_iff_eq_none, not_true_eq_false, not_false_eq_true] at hb); try (exfalso; omega))) | (refine v_cond rfl ?_ ?_ <;> (intro hb; (try simp only [decide_eq_true_eq, decide_eq_false_iff_not, Bool.not_eq_true', Bool.not_eq_false', ne_eq, Decidable.not_not, Option.isNone_iff_eq_none, not_true_eq_false, not_false_eq_true] at hb); try (exfalso; omega))) | fail)
  refine vl_o rfl (vo_call rfl rfl ?_)
  refine vc_mono (tget_vc w0 _ a1 c1 ms r k rfl hom hlk) ?_
  rintro u L' ⟨a2, c2, rfl, rfl⟩
  rw [getT_eq hms, hasT_eq hms]
  repeat' (first | (refine go1 ?_; intros) | (refine vl_caseG rfl rfl rfl rfl ?_ ?_ <;> (intro hb; (try simp only [decide_eq_true_eq, decide_eq_false_iff_not, Bool.not_eq_true', Bool.not_eq_false', ne_eq, Decidable.not_not, Option.isNone_iff_eq_none, not_true_eq_false, not_false_eq_true] at hb); try (exfalso; omega))) | (refine v_cond rfl ?_ ?_ <;> (intro hb; (try simp only [decide_eq_true_eq, decide_eq_false_iff_not, Bool.not_eq_true', Bool.not_eq_false', ne_eq, Decidable.not_not, Option.isNone_iff_eq_none, not_true_eq_false, not_false_eq_true] at hb); try (exfalso; omega))) | fail)
  refine vl_o rfl (vo_call rfl rfl ?_)
  refine vc_mono (rget6_vc w0 _ a c ns r k rfl hok hlk) ?_
  rintro u L' ⟨a3, c3, rfl, rfl⟩
  generalize getT ns r k = G at *
  generalize hasT ns r k = H at *
  repeat' (first | (refine go1 ?_; intros) | (refine vl_caseG rfl rfl rfl rfl ?_ ?_ <;> (intro hb; (try simp only [decide_eq_true_eq, decide_eq_false_iff_not, Bool.not_eq_true', Bool.not_eq_false', ne_eq, Decidable.not_not, Option.isNone_iff_eq_none, not_true_eq_false, not_false_eq_true] at hb); try (exfalso; omega))) | (refine v_cond rfl ?_ ?_ <;> (intro hb; (try simp only [decide_eq_true_eq, decide_eq_false_iff_not, Bool.not_eq_true', Bool.not_eq_false', ne_eq, Decidable.not_not, Option.isNone_iff_eq_none, not_true_eq_false, not_false_eq_true] at hb); try (exfalso; omega))) | fail)
  refine vl_o rfl (vo_call rfl rfl ?_)
  refine vc_mono (tat_vc w0 _ a1 c1 ms r q rfl hom) ?_
  rintro u L' ⟨a4, c4, cs, s4, rfl, hcs, rfl⟩
  rw [tatE_eq hms] at hcs ⊢
  repeat' (first | (refine go1 ?_; intros) | (refine vl_caseG rfl rfl rfl rfl ?_ ?_ <;> (intro hb; (try simp only [decide_eq_true_eq, decide_eq_false_iff_not, Bool.not_eq_true', Bool.not_eq_false', ne_eq, Decidable.not_not, Option.isNone_iff_eq_none, not_true_eq_false, not_false_eq_true] at hb); try (exfalso; omega))) | (refine v_cond rfl ?_ ?_ <;> (intro hb; (try simp only [decide_eq_true_eq, decide_eq_false_iff_not, Bool.not_eq_true', Bool.not_eq_false', ne_eq, Decidable.not_not, Option.isNone_iff_eq_none, not_true_eq_false, not_false_eq_true] at hb); try (exfalso; omega))) | fail)
  refine vl_o rfl (vo_call rfl rfl ?_)
  refine vc_mono (rat6_vc w0 _ a c ns r q rfl hok) ?_
  rintro u L' ⟨a5, c5, ds, s5, rfl, hds, rfl⟩
  have hcd : s4 = s5 ∧ pls cs = pls ds := by
    by_cases hE : tatE ns r q = 0
    · rw [if_pos hE] at hcs hds
      exact ⟨hcs.2.trans hds.2.symm, (hcs.1.trans hms).trans hds.1.symm⟩
    · rw [if_neg hE] at hcs hds
      rw [hcs.1, hds.1]
      exact ⟨hcs.2.trans hds.2.symm, rfl⟩
  have hcok : NsOk cs := by
    by_cases hE : tatE ns r q = 0
    · rw [if_pos hE] at hcs; exact hom.of_pls hcs.1
    · rw [if_neg hE] at hcs; rw [hcs.1]; exact nsOk_nil
  have hdok : NsOk ds := hcok.of_pls hcd.2.symm
  generalize tatE ns r q = E at *
  repeat' (first | (refine go1 ?_; intros) | (refine vl_caseG rfl rfl rfl rfl ?_ ?_ <;> (intro hb; (try simp only [decide_eq_true_eq, decide_eq_false_iff_not, Bool.not_eq_true', Bool.not_eq_false', ne_eq, Decidable.not_not, Option.isNone_iff_eq_none, not_true_eq_false, not_false_eq_true] at hb); try (exfalso; omega))) | (refine v_cond rfl ?_ ?_ <;> (intro hb; (try simp only [decide_eq_true_eq, decide_eq_false_iff_not, Bool.not_eq_true', Bool.not_eq_false', ne_eq, Decidable.not_not, Option.isNone_iff_eq_none, not_true_eq_false, not_false_eq_true] at hb); try (exfalso; omega))) | fail)
  refine vl_o rfl (vo_call rfl rfl ?_)
  refine vc_mono (tpairs_vc w0 _ a1 c1 ms r rfl hom) ?_
  rintro u L' ⟨x, rfl, a6, c6, ps, rfl, hps, rfl⟩
  rw [forP_eq hms] at hps
  simp only [mayP_eq hms r] at hps ⊢
  repeat' (first | (refine go1 ?_; intros) | (refine vl_caseG rfl rfl rfl rfl ?_ ?_ <;> (intro hb; (try simp only [decide_eq_true_eq, decide_eq_false_iff_not, Bool.not_eq_true', Bool.not_eq_false', ne_eq, Decidable.not_not, Option.isNone_iff_eq_none, not_true_eq_false, not_false_eq_true] at hb); try (exfalso; omega))) | (refine v_cond rfl ?_ ?_ <;> (intro hb; (try simp only [decide_eq_true_eq, decide_eq_false_iff_not, Bool.not_eq_true', Bool.not_eq_false', ne_eq, Decidable.not_not, Option.isNone_iff_eq_none, not_true_eq_false, not_false_eq_true] at hb); try (exfalso; omega))) | fail)
  refine vl_o rfl (vo_call rfl rfl ?_)
  refine vc_mono (rpairs6_vc w0 _ a c ns r rfl hok) ?_
  rintro u L' ⟨x, rfl, a7, c7, qs, rfl, hqs, rfl⟩
  have hpq : kvs ps = kvs qs := hps.trans hqs.symm
  have okp : PsOk ps := by
    by_cases hm : MayP ns r
    · rw [if_pos hm] at hps; exact for_ok hok (fun _ _ => rfl) hm.right hps
    · rw [if_neg hm] at hps
      rw [List.map_eq_nil_iff.1 hps]; exact psOk_nil
  have okq : PsOk qs := by
    by_cases hm : MayP ns r
    · rw [if_pos hm] at hqs; exact for_ok hok (fun _ _ => rfl) hm.right hqs
    · rw [if_neg hm] at hqs
      rw [List.map_eq_nil_iff.1 hqs]; exact psOk_nil
  have hpos : ∀ p ∈ ps, 0 < p.v.length := fun p hp => by
    have hmem : p.kv ∈ kvs ps := List.mem_map.2 ⟨p, hp, rfl⟩
    by_cases hm : MayP ns r
    · rw [hps, if_pos hm] at hmem
      have := for_val hm.ones _ _ hmem
      exact Nat.pos_of_ne_zero (fun h0 => by rw [show p.kv.2 = p.v from rfl, h0] at this; exact absurd this (by decide))
    · rw [hps, if_neg hm] at hmem
      cases hmem
  have eM : mayE ns r = if MayP ns r then 0 else 8 := rfl
  repeat' (first | (refine go1 ?_; intros) | (refine vl_caseG rfl rfl rfl rfl ?_ ?_ <;> (intro hb; (try simp only [decide_eq_true_eq, decide_eq_false_iff_not, Bool.not_eq_true', Bool.not_eq_false', ne_eq, Decidable.not_not, Option.isNone_iff_eq_none, not_true_eq_false, not_false_eq_true] at hb); try (exfalso; omega))) | (refine v_cond rfl ?_ ?_ <;> (intro hb; (try simp only [decide_eq_true_eq, decide_eq_false_iff_not, Bool.not_eq_true', Bool.not_eq_false', ne_eq, Decidable.not_not, Option.isNone_iff_eq_none, not_true_eq_false, not_false_eq_true] at hb); try (exfalso; omega))) | fail)
  refine vl_o rfl (vo_call rfl rfl ?_)
  refine vc_mono (tSum_vc w0 _ a1 c1 ms r rfl hom) ?_
  rintro u L' ⟨rfl, rfl⟩
  rw [sumT_eq hms, mayE_eq hms, eM]
  have hsl := sumT_len ns r
  repeat' (first | (refine go1 ?_; intros) | (refine vl_caseG rfl rfl rfl rfl ?_ ?_ <;> (intro hb; (try simp only [decide_eq_true_eq, decide_eq_false_iff_not, Bool.not_eq_true', Bool.not_eq_false', ne_eq, Decidable.not_not, Option.isNone_iff_eq_none, not_true_eq_false, not_false_eq_true] at hb); try (exfalso; omega))) | (refine v_cond rfl ?_ ?_ <;> (intro hb; (try simp only [decide_eq_true_eq, decide_eq_false_iff_not, Bool.not_eq_true', Bool.not_eq_false', ne_eq, Decidable.not_not, Option.isNone_iff_eq_none, not_true_eq_false, not_false_eq_true] at hb); try (exfalso; omega))) | fail)
  refine vl_o rfl (vo_call rfl rfl ?_)
  refine vc_mono (rsum6_vc w0 _ a c ns r rfl hok) ?_
  rintro u L' ⟨rfl, rfl⟩
  generalize sumT ns r = Z at *
  generalize hF : (if MayP ns r then (0 : Int) else 8) = F at *
  repeat' (first | (refine goE ?_; intros) | (refine vl_caseG rfl rfl rfl rfl ?_ ?_ <;> (intro hb; (try simp only [decide_eq_true_eq, decide_eq_false_iff_not, Bool.not_eq_true', Bool.not_eq_false', ne_eq, Decidable.not_not, Option.isNone_iff_eq_none, not_true_eq_false, not_false_eq_true] at hb); try (exfalso; omega))) | (refine v_cond rfl ?_ ?_ <;> (intro hb; (try simp only [decide_eq_true_eq, decide_eq_false_iff_not, Bool.not_eq_true', Bool.not_eq_false', ne_eq, Decidable.not_not, Option.isNone_iff_eq_none, not_true_eq_false, not_false_eq_true] at hb); try (exfalso; omega))) | fail)
  refine vl_o rfl (vo_call rfl rfl ?_)
  refine vc_mono (same_vc w0 _ a2 c2 G a3 c3 G rfl rfl) ?_
  rintro u L' ⟨rfl, rfl⟩
  rw [decide_eq_true rfl]
  repeat' (first | (refine goE ?_; intros) | (refine vl_caseG rfl rfl rfl rfl ?_ ?_ <;> (intro hb; (try simp only [decide_eq_true_eq, decide_eq_false_iff_not, Bool.not_eq_true', Bool.not_eq_false', ne_eq, Decidable.not_not, Option.isNone_iff_eq_none, not_true_eq_false, not_false_eq_true] at hb); try (exfalso; omega))) | (refine v_cond rfl ?_ ?_ <;> (intro hb; (try simp only [decide_eq_true_eq, decide_eq_false_iff_not, Bool.not_eq_true', Bool.not_eq_false', ne_eq, Decidable.not_not, Option.isNone_iff_eq_none, not_true_eq_false, not_false_eq_true] at hb); try (exfalso; omega))) | fail)
  refine vl_o rfl (vo_call rfl rfl ?_)
  refine vc_mono (same6_vc w0 _ a4 c4 cs s4 a5 c5 ds s5 rfl rfl hcok hdok) ?_
  rintro u L' ⟨rfl, rfl⟩
  rw [decide_eq_true hcd]
  repeat' (first | (refine goE ?_; intros) | (refine vl_caseG rfl rfl rfl rfl ?_ ?_ <;> (intro hb; (try simp only [decide_eq_true_eq, decide_eq_false_iff_not, Bool.not_eq_true', Bool.not_eq_false', ne_eq, Decidable.not_not, Option.isNone_iff_eq_none, not_true_eq_false, not_false_eq_true] at hb); try (exfalso; omega))) | (refine v_cond rfl ?_ ?_ <;> (intro hb; (try simp only [decide_eq_true_eq, decide_eq_false_iff_not, Bool.not_eq_true', Bool.not_eq_false', ne_eq, Decidable.not_not, Option.isNone_iff_eq_none, not_true_eq_false, not_false_eq_true] at hb); try (exfalso; omega))) | fail)
  refine vl_o rfl (vo_call rfl rfl ?_)
  refine vc_mono (rsame_vc w0 _ a6 c6 ps a7 c7 qs rfl rfl okp okq) ?_
  rintro u L' ⟨rfl, rfl⟩
  rw [decide_eq_true hpq]
  repeat' (first | (refine goE ?_; intros) | (refine vl_caseG rfl rfl rfl rfl ?_ ?_ <;> (intro hb; (try simp only [decide_eq_true_eq, decide_eq_false_iff_not, Bool.not_eq_true', Bool.not_eq_false', ne_eq, Decidable.not_not, Option.isNone_iff_eq_none, not_true_eq_false, not_false_eq_true] at hb); try (exfalso; omega))) | (refine v_cond rfl ?_ ?_ <;> (intro hb; (try simp only [decide_eq_true_eq, decide_eq_false_iff_not, Bool.not_eq_true', Bool.not_eq_false', ne_eq, Decidable.not_not, Option.isNone_iff_eq_none, not_true_eq_false, not_false_eq_true] at hb); try (exfalso; omega))) | fail)
  (refine v_draw0 [] (by kernel_rfl) ?_ <;> (refine va_takeA 0 rfl rfl rfl rfl ?_) <;> (refine va_takeA 2 rfl rfl rfl rfl ?_))
  refine va_one 1 (by kernel_rfl) rfl rfl (vo_call rfl rfl ?_)
  refine vc_mono (tcheck_vc w0 _ a1 c1 ms r rfl hom) ?_
  rintro u L' ⟨rfl, rfl⟩
  refine ⟨.inr (SE.ent (by repeat' (first | exact SE.refl _ | refine SE.cons _ ?_ | refine SE.trans (se_drop _ _) ?_)) _), ?_⟩
  skip
  refine va_one 3 (by kernel_rfl) rfl rfl (vo_call rfl rfl ?_)
  refine vc_mono (check6_vc w0 _ a c ns r rfl hok) ?_
  rintro u L' ⟨rfl, rfl⟩
  simp only [mayP_eq hms r]
  refine ⟨.inr (SE.ent (by repeat' (first | exact SE.refl _ | refine SE.cons _ ?_ | refine SE.trans (se_drop _ _) ?_)) _), ?_⟩
  ((refine va_takeA 4 rfl rfl rfl rfl ?_) <;> (refine va_takeA 5 rfl rfl rfl rfl ?_) <;> (first | refine va_takeGA 6 rfl rfl rfl rfl rfl rfl rfl rfl ?_ | refine va_passGA 6 rfl rfl rfl rfl rfl rfl rfl rfl ?_ | (refine va_caseG 6 rfl rfl rfl rfl rfl ?_ ?_ <;> (intro hb; (try simp only [decide_eq_true_eq, decide_eq_false_iff_not, Bool.not_eq_true', Bool.not_eq_false', ne_eq, Decidable.not_not, Option.isNone_iff_eq_none, not_true_eq_false, not_false_eq_true] at hb); try (exfalso; omega)) <;> first | refine va_takeGA 6 rfl rfl rfl rfl rfl rfl rfl rfl ?_ | refine va_passGA 6 rfl rfl rfl rfl rfl rfl rfl rfl ?_)) <;> (first | refine va_takeGA 7 rfl rfl rfl rfl rfl rfl rfl rfl ?_ | refine va_passGA 7 rfl rfl rfl rfl rfl rfl rfl rfl ?_ | (refine va_caseG 7 rfl rfl rfl rfl rfl ?_ ?_ <;> (intro hb; (try simp only [decide_eq_true_eq, decide_eq_false_iff_not, Bool.not_eq_true', Bool.not_eq_false', ne_eq, Decidable.not_not, Option.isNone_iff_eq_none, not_true_eq_false, not_false_eq_true] at hb); try (exfalso; omega)) <;> first | refine va_takeGA 7 rfl rfl rfl rfl rfl rfl rfl rfl ?_ | refine va_passGA 7 rfl rfl rfl rfl rfl rfl rfl rfl ?_)) <;> (first | refine va_takeGA 9 rfl rfl rfl rfl rfl rfl rfl rfl ?_ | refine va_passGA 9 rfl rfl rfl rfl rfl rfl rfl rfl ?_ | (refine va_caseG 9 rfl rfl rfl rfl rfl ?_ ?_ <;> (intro hb; (try simp only [decide_eq_true_eq, decide_eq_false_iff_not, Bool.not_eq_true', Bool.not_eq_false', ne_eq, Decidable.not_not, Option.isNone_iff_eq_none, not_true_eq_false, not_false_eq_true] at hb); try (exfalso; omega)) <;> first | refine va_takeGA 9 rfl rfl rfl rfl rfl rfl rfl rfl ?_ | refine va_passGA 9 rfl rfl rfl rfl rfl rfl rfl rfl ?_)) <;> (first | refine va_takeGA 10 rfl rfl rfl rfl rfl rfl rfl rfl ?_ | refine va_passGA 10 rfl rfl rfl rfl rfl rfl rfl rfl ?_ | (refine va_caseG 10 rfl rfl rfl rfl rfl ?_ ?_ <;> (intro hb; (try simp only [decide_eq_true_eq, decide_eq_false_iff_not, Bool.not_eq_true', Bool.not_eq_false', ne_eq, Decidable.not_not, Option.isNone_iff_eq_none, not_true_eq_false, not_false_eq_true] at hb); try (exfalso; omega)) <;> first | refine va_takeGA 10 rfl rfl rfl rfl rfl rfl rfl rfl ?_ | refine va_passGA 10 rfl rfl rfl rfl rfl rfl rfl rfl ?_)))
  refine va_oneG 8 (by kernel_rfl) rfl rfl rfl rfl rfl rfl (vo_call rfl rfl ?_)
  refine vc_mono (tsame_vc w0 _ a1 c1 ms r b d os s rfl rfl hom hoo) ?_
  rintro u L' ⟨rfl, rfl⟩
  rw [hms]
  refine ⟨.inr (SE.ent (by repeat' (first | exact SE.refl _ | refine SE.cons _ ?_ | refine SE.trans (se_drop _ _) ?_)) _), ?_⟩
  skip
  refine va_oneG 11 (by kernel_rfl) rfl rfl rfl rfl rfl rfl (vo_call rfl rfl ?_)
  refine vc_mono (same6_vc w0 _ a c ns r b d os s rfl rfl hok hoo) ?_
  rintro u L' ⟨rfl, rfl⟩
  generalize decide (r = s ∧ pls ns = pls os) = SM at *
  refine ⟨.inr (SE.ent (by repeat' (first | exact SE.refl _ | refine SE.cons _ ?_ | refine SE.trans (se_drop _ _) ?_)) _), ?_⟩
  ((first | refine va_takeGA 12 rfl rfl rfl rfl rfl rfl rfl rfl ?_ | refine va_passGA 12 rfl rfl rfl rfl rfl rfl rfl rfl ?_ | (refine va_caseG 12 rfl rfl rfl rfl rfl ?_ ?_ <;> (intro hb; (try simp only [decide_eq_true_eq, decide_eq_false_iff_not, Bool.not_eq_true', Bool.not_eq_false', ne_eq, Decidable.not_not, Option.isNone_iff_eq_none, not_true_eq_false, not_false_eq_true] at hb); try (exfalso; omega)) <;> first | refine va_takeGA 12 rfl rfl rfl rfl rfl rfl rfl rfl ?_ | refine va_passGA 12 rfl rfl rfl rfl rfl rfl rfl rfl ?_)) <;> (refine va_takeA 13 rfl rfl rfl rfl ?_) <;> (refine va_takeA 14 rfl rfl rfl rfl ?_) <;> (first | refine va_takeGA 15 rfl rfl rfl rfl rfl rfl rfl rfl ?_ | refine va_passGA 15 rfl rfl rfl rfl rfl rfl rfl rfl ?_ | (refine va_caseG 15 rfl rfl rfl rfl rfl ?_ ?_ <;> (intro hb; (try simp only [decide_eq_true_eq, decide_eq_false_iff_not, Bool.not_eq_true', Bool.not_eq_false', ne_eq, Decidable.not_not, Option.isNone_iff_eq_none, not_true_eq_false, not_false_eq_true] at hb); try (exfalso; omega)) <;> first | refine va_takeGA 15 rfl rfl rfl rfl rfl rfl rfl rfl ?_ | refine va_passGA 15 rfl rfl rfl rfl rfl rfl rfl rfl ?_)) <;> (first | refine va_takeGA 16 rfl rfl rfl rfl rfl rfl rfl rfl ?_ | refine va_passGA 16 rfl rfl rfl rfl rfl rfl rfl rfl ?_ | (refine va_caseG 16 rfl rfl rfl rfl rfl ?_ ?_ <;> (intro hb; (try simp only [decide_eq_true_eq, decide_eq_false_iff_not, Bool.not_eq_true', Bool.not_eq_false', ne_eq, Decidable.not_not, Option.isNone_iff_eq_none, not_true_eq_false, not_false_eq_true] at hb); try (exfalso; omega)) <;> first | refine va_takeGA 16 rfl rfl rfl rfl rfl rfl rfl rfl ?_ | refine va_passGA 16 rfl rfl rfl rfl rfl rfl rfl rfl ?_)))
  all_goals first | (exfalso; simp at hb; done) | skip
  refine va_oneG 17 (by kernel_rfl) rfl rfl rfl rfl rfl rfl (vo_call rfl rfl ?_)
  refine vc_mono (tsame_vc w0 _ a1 c1 ms r a c ns r rfl rfl hom hok) ?_
  rintro u L' ⟨rfl, rfl⟩
  rw [decide_eq_true (show r = r ∧ pls ms = pls ns from ⟨rfl, hms⟩)]
  refine ⟨.inr (SE.ent (by repeat' (first | exact SE.refl _ | refine SE.cons _ ?_ | refine SE.trans (se_drop _ _) ?_)) _), ?_⟩
  ((refine va_takeA 18 rfl rfl rfl rfl ?_) <;> (refine va_takeA 19 rfl rfl rfl rfl ?_) <;> (refine va_done (by kernel_rfl) ?_))
  repeat' (first | (refine go1 ?_; intros) | (refine vl_caseG rfl rfl rfl rfl ?_ ?_ <;> (intro hb; (try simp only [decide_eq_true_eq, decide_eq_false_iff_not, Bool.not_eq_true', Bool.not_eq_false', ne_eq, Decidable.not_not, Option.isNone_iff_eq_none, not_true_eq_false, not_false_eq_true] at hb); try (exfalso; omega))) | (refine v_cond rfl ?_ ?_ <;> (intro hb; (try simp only [decide_eq_true_eq, decide_eq_false_iff_not, Bool.not_eq_true', Bool.not_eq_false', ne_eq, Decidable.not_not, Option.isNone_iff_eq_none, not_true_eq_false, not_false_eq_true] at hb); try (exfalso; omega))) | fail)
  refine vl_o rfl (vo_call rfl rfl ?_)
  refine vc_mono (ttwin_vc w0 _ a1 c1 ms r rfl hom) ?_
  rintro u L' ⟨a8, c8, zs, rfl, hzs, rfl⟩
  have hzo := hom.of_pls hzs
  repeat' (first | (refine go1 ?_; intros) | (refine vl_caseG rfl rfl rfl rfl ?_ ?_ <;> (intro hb; (try simp only [decide_eq_true_eq, decide_eq_false_iff_not, Bool.not_eq_true', Bool.not_eq_false', ne_eq, Decidable.not_not, Option.isNone_iff_eq_none, not_true_eq_false, not_false_eq_true] at hb); try (exfalso; omega))) | (refine v_cond rfl ?_ ?_ <;> (intro hb; (try simp only [decide_eq_true_eq, decide_eq_false_iff_not, Bool.not_eq_true', Bool.not_eq_false', ne_eq, Decidable.not_not, Option.isNone_iff_eq_none, not_true_eq_false, not_false_eq_true] at hb); try (exfalso; omega))) | fail)
  refine vl_o rfl (vo_call rfl rfl ?_)
  refine vc_mono (same6_vc w0 _ a8 c8 zs r a c ns r rfl rfl hzo hok) ?_
  rintro u L' ⟨rfl, rfl⟩
  rw [decide_eq_true (show r = r ∧ pls zs = pls ns from ⟨rfl, hzs.trans hms⟩)]
  repeat' (first | (refine go1 ?_; intros) | (refine vl_caseG rfl rfl rfl rfl ?_ ?_ <;> (intro hb; (try simp only [decide_eq_true_eq, decide_eq_false_iff_not, Bool.not_eq_true', Bool.not_eq_false', ne_eq, Decidable.not_not, Option.isNone_iff_eq_none, not_true_eq_false, not_false_eq_true] at hb); try (exfalso; omega))) | (refine v_cond rfl ?_ ?_ <;> (intro hb; (try simp only [decide_eq_true_eq, decide_eq_false_iff_not, Bool.not_eq_true', Bool.not_eq_false', ne_eq, Decidable.not_not, Option.isNone_iff_eq_none, not_true_eq_false, not_false_eq_true] at hb); try (exfalso; omega))) | fail)
  refine vl_o rfl (vo_call rfl rfl ?_)
  refine vc_pre (((se_swap _ _ _).trans (SE.cons _ (se_swap _ _ _))).ent w0) ?_
  refine vc_mono (spoil6_vc w0 _ a8 c8 zs r rfl hzo) ?_
  rintro u L' rfl
  repeat' (first | (refine go1 ?_; intros) | (refine vl_caseG rfl rfl rfl rfl ?_ ?_ <;> (intro hb; (try simp only [decide_eq_true_eq, decide_eq_false_iff_not, Bool.not_eq_true', Bool.not_eq_false', ne_eq, Decidable.not_not, Option.isNone_iff_eq_none, not_true_eq_false, not_false_eq_true] at hb); try (exfalso; omega))) | (refine v_cond rfl ?_ ?_ <;> (intro hb; (try simp only [decide_eq_true_eq, decide_eq_false_iff_not, Bool.not_eq_true', Bool.not_eq_false', ne_eq, Decidable.not_not, Option.isNone_iff_eq_none, not_true_eq_false, not_false_eq_true] at hb); try (exfalso; omega))) | fail)
  refine vl_o rfl (vo_call rfl rfl ?_)
  refine vc_pre (((se_front 12 rfl).trans (se_front 12 rfl)).ent w0) ?_
  dsimp only [List.eraseIdx]
  refine vc_mono (spoil6_vc w0 _ a4 c4 cs s4 rfl hcok) ?_
  rintro u L' rfl
  repeat' (first | (refine go1 ?_; intros) | (refine vl_caseG rfl rfl rfl rfl ?_ ?_ <;> (intro hb; (try simp only [decide_eq_true_eq, decide_eq_false_iff_not, Bool.not_eq_true', Bool.not_eq_false', ne_eq, Decidable.not_not, Option.isNone_iff_eq_none, not_true_eq_false, not_false_eq_true] at hb); try (exfalso; omega))) | (refine v_cond rfl ?_ ?_ <;> (intro hb; (try simp only [decide_eq_true_eq, decide_eq_false_iff_not, Bool.not_eq_true', Bool.not_eq_false', ne_eq, Decidable.not_not, Option.isNone_iff_eq_none, not_true_eq_false, not_false_eq_true] at hb); try (exfalso; omega))) | fail)
  refine v_loopF (Nat × List PB) [4, 9, 18] rfl (fun x => [(29, .int .i64 x.1)]) (fun L x => L.set 6 (psA x.2)) (fun x => x.1 ≤ ps.length ∧ x.2.length = ps.length ∧ ∀ i (h1 : i < x.2.length) (h2 : i < ps.length), (x.2[i]).a = ps[i].a ∧ (x.2[i]).cap = ps[i].c ∧ (x.2[i]).l.length = ps[i].v.length) (fun x => ps.length - x.1) (0, ps.map PR.pb) ⟨Nat.zero_le _, by simp, fun i h1 h2 => by simp [PR.pb]⟩ (by (repeat' (first | exact Sub.nil _ | refine Sub.cons rfl rfl ?_ | refine Sub.cons rfl ?_ ?_))) (Ent.refl _ _) ?_
  rintro ⟨i, bs⟩ ⟨hi, hbl, hbs⟩
  dsimp only [List.set] at hi hbl hbs ⊢
  by_cases hlt : i < ps.length
  rotate_left
  · repeat' (first | (refine go1 ?_; intros) | (refine vl_caseG rfl rfl rfl rfl ?_ ?_ <;> (intro hb; (try simp only [decide_eq_true_eq, decide_eq_false_iff_not, Bool.not_eq_true', Bool.not_eq_false', ne_eq, Decidable.not_not, Option.isNone_iff_eq_none, not_true_eq_false, not_false_eq_true] at hb); try (exfalso; omega))) | (refine v_cond rfl ?_ ?_ <;> (intro hb; (try simp only [decide_eq_true_eq, decide_eq_false_iff_not, Bool.not_eq_true', Bool.not_eq_false', ne_eq, Decidable.not_not, Option.isNone_iff_eq_none, not_true_eq_false, not_false_eq_true] at hb); try (exfalso; omega))) | fail)
    refine vl_o rfl (vo_call rfl rfl ?_)
    refine vc_mono (same6_vc w0 _ a1 c1 ms r a c ns r rfl rfl hom hok) ?_
    rintro u L' ⟨rfl, rfl⟩
    rw [decide_eq_true (show r = r ∧ pls ms = pls ns from ⟨rfl, hms⟩)]
    repeat' (first | (refine go1 ?_; intros) | (refine vl_caseG rfl rfl rfl rfl ?_ ?_ <;> (intro hb; (try simp only [decide_eq_true_eq, decide_eq_false_iff_not, Bool.not_eq_true', Bool.not_eq_false', ne_eq, Decidable.not_not, Option.isNone_iff_eq_none, not_true_eq_false, not_false_eq_true] at hb); try (exfalso; omega))) | (refine v_cond rfl ?_ ?_ <;> (intro hb; (try simp only [decide_eq_true_eq, decide_eq_false_iff_not, Bool.not_eq_true', Bool.not_eq_false', ne_eq, Decidable.not_not, Option.isNone_iff_eq_none, not_true_eq_false, not_false_eq_true] at hb); try (exfalso; omega))) | fail)
    exact rfl
  have e1 := okp.e1 i hlt
  have hpp := okp.pos i hlt
  have hv0 := hpos _ (List.getElem_mem hlt)
  have hvl := okp.vlat i hlt
  have hpl := okp.len
  obtain ⟨q1, q2, q3⟩ := hbs i (by omega) hlt
  have hpull := fun L => se_psA_pull bs L i (by omega)
  have hset := fun L p => psA_set bs L i (by omega) p
  obtain ⟨vv, hvv⟩ : ∃ vv, vv = (bs[i]'(by omega)).l := ⟨_, rfl⟩
  rw [← hvv] at q3
  rw [q1, q2, ← hvv] at hpull
  have hg := bvs_at vv 0 (by omega)
  have hvp : 0 < (bvs vv).length := by rw [bvs_length]; omega
  have hu := up8w (vv[0]'(by omega))
  refine v_ent (((se_front 6 rfl).trans (hpull _)).ent w0) ?_
  dsimp only [List.eraseIdx]
  repeat' (first | (refine go1 ?_; intros) | (refine vl_caseG rfl rfl rfl rfl ?_ ?_ <;> (intro hb; (try simp only [decide_eq_true_eq, decide_eq_false_iff_not, Bool.not_eq_true', Bool.not_eq_false', ne_eq, Decidable.not_not, Option.isNone_iff_eq_none, not_true_eq_false, not_false_eq_true] at hb); try (exfalso; omega))) | (refine v_cond rfl ?_ ?_ <;> (intro hb; (try simp only [decide_eq_true_eq, decide_eq_false_iff_not, Bool.not_eq_true', Bool.not_eq_false', ne_eq, Decidable.not_not, Option.isNone_iff_eq_none, not_true_eq_false, not_false_eq_true] at hb); try (exfalso; omega))) | fail)
  (refine v_draw0 [14] (by kernel_rfl) ?_ <;> (refine va_takeA 0 rfl rfl rfl rfl ?_) <;> (refine va_takeA 1 rfl rfl rfl rfl ?_) <;> (refine va_takeA 2 rfl rfl rfl rfl ?_) <;> (refine va_takeA 3 rfl rfl rfl rfl ?_) <;> (refine va_takeA 4 rfl rfl rfl rfl ?_) <;> (refine va_takeA 5 rfl rfl rfl rfl ?_) <;> (refine va_takeA 6 rfl rfl rfl rfl ?_) <;> (refine va_takeA 7 rfl rfl rfl rfl ?_) <;> (refine va_takeA 8 rfl rfl rfl rfl ?_) <;> (refine va_takeA 9 rfl rfl rfl rfl ?_) <;> (refine va_takeA 10 rfl rfl rfl rfl ?_) <;> (refine va_takeA 11 rfl rfl rfl rfl ?_) <;> (refine va_takeA 12 rfl rfl rfl rfl ?_) <;> (refine va_takeA 13 rfl rfl rfl rfl ?_) <;> (refine va_one 14 (by kernel_rfl) rfl rfl ?_; (first | (refine vo_box rfl rfl rfl ?_; intro _) | (refine vo_alloc rfl ?_; intro _) | (refine vo_isStore ?_; first | (refine vo_isPt0 rfl ?_; refine vo_stWA rfl rfl ?_) | (refine vo_isPt rfl ?_; refine vo_stBA rfl rfl ?_) | (refine vo_stO rfl rfl (by rfl) (by first | rfl | assumption) (by first | assumption | (simp; done) | (simp; omega) | omega) rfl ?_; skip)) | (refine vo_isCall ?_; first | (refine vo_isApp ?_; first | (refine vo_append0A rfl rfl rfl ?_; intro _ _ _ _) | (refine vo_appendA rfl rfl rfl ?_; intro _ _ _ _)) | (refine vo_isCopy ?_; refine vo_copyB rfl rfl rfl (by assumption) (by assumption) (by assumption) (by assumption) ?_) | refine vo_yield rfl rfl rfl rfl rfl ?_ | refine vo_callV rfl rfl rfl (vc_in rfl rfl ?_)) | refine vo_convRow rfl rfl ?_ | (refine vo_isBs ?_; refine vo_buildSlice rfl rfl rfl (by decide) (by repeat' (first | exact trivial | rfl | assumption | refine ⟨?_, ?_⟩ | (simp; done) | (simp; omega))) (by decide) rfl ?_; intro _) | (refine vo_buildSlice0 rfl ?_; intro _) | fail); refine ⟨.inl (by kernel_rfl), ?_⟩) <;> (refine va_done (by kernel_rfl) ?_))
  repeat' (first | (refine go1 ?_; intros) | (refine vl_caseG rfl rfl rfl rfl ?_ ?_ <;> (intro hb; (try simp only [decide_eq_true_eq, decide_eq_false_iff_not, Bool.not_eq_true', Bool.not_eq_false', ne_eq, Decidable.not_not, Option.isNone_iff_eq_none, not_true_eq_false, not_false_eq_true] at hb); try (exfalso; omega))) | (refine v_cond rfl ?_ ?_ <;> (intro hb; (try simp only [decide_eq_true_eq, decide_eq_false_iff_not, Bool.not_eq_true', Bool.not_eq_false', ne_eq, Decidable.not_not, Option.isNone_iff_eq_none, not_true_eq_false, not_false_eq_true] at hb); try (exfalso; omega))) | fail)
  obtain ⟨X, hX⟩ : ∃ X, X = vv.set 0 (up8 (vv[0]'(by omega))) := ⟨_, rfl⟩
  have hXl : X.length = vv.length := by rw [hX, List.length_set]
  refine ⟨rfl, (i + 1, bs.set i ⟨ps[i].a, ps[i].c, X⟩), ⟨by dsimp only; omega, by simpa using hbl, ?_⟩, by dsimp only; omega, ?_, ?_⟩
  · intro j h1 h2
    dsimp only at h1 ⊢
    by_cases e : i = j
    · subst e
      rw [List.getElem_set_self]
      exact ⟨rfl, rfl, by dsimp only; omega⟩
    · rw [List.getElem_set_ne e]
      exact hbs j (by simpa using h1) h2
  · (repeat' (first | exact Sub.nil _ | refine Sub.cons rfl rfl ?_ | refine Sub.cons rfl ?_ ?_))
  · dsimp only
    rw [hu, splice_b vv 0 (by omega), ← hX, ← hXl]
    exact ((hset _ ⟨ps[i].a, ps[i].c, X⟩).trans (se_put _ 6 _)).ent w0
end Go.Proofs.YtmaimkbppnpbnaaDoor
