/-
  What a tree stands for is a map: the statement's law.
-/
import Derived.Test.YtmaimkbppnpbnaaDoorTStA
import Derived.Test.YtmaimkbppnpbnaaDoorGL
import Derived.Test.YtmaimkbppnpbnaaDoorGJ
import Derived.Test.YtmaimkbppnpbnaaDoorGI
set_option linter.unusedVariables false
set_option linter.unusedSimpArgs false
namespace Go.Proofs.YtmaimkbppnpbnaaDoor
open Go Go.RowKit
set_option linter.unusedVariables false
set_option linter.unusedSimpArgs false
open Classical

theorem for_map {ns : List Nd} {r : Int} (hm : MayP ns r) (hl : ns.length ≤ 600) : MapOk (forP ns r.toNat) := by
  have := hm.half
  exact ⟨by omega, for_val hm.ones _, hm.for.srt⟩
set_option maxRecDepth 100000 in
set_option maxHeartbeats 8000000 in
theorem treeMaps_vc (w0 : World) [hK : RdA w0 (some ⟨0, 0, none⟩) (wds K64)] (a : Option Addr) (c : Nat) (ns : List Nd) (r : Int) (ka : List UInt8) (va : Option Addr) (vc : Nat) (v : List UInt8) {vn : Nat} (hvn : vn = v.length) (hkey : ∀ p ∈ ns, p.key.length = 32) (hl : ns.length ≤ 9223372036854775807) (hla : ka.length = 32) [hr : RdA w0 a (ndc ns)] [hv : RdNs w0 [] ns] [hrv : RdA w0 va (bvs v)] :
    VC Tryd.prog w0 7 [.agg #[.slice a ns.length c, .int .i64 r], .agg (bvs ka).toArray, .slice va vn vc] [] fun u L' => u = .bool true := by
  subst hvn
  refine vc_in rfl rfl ?_
  repeat' (first | (refine go1 ?_; intros) | (refine vl_caseG rfl rfl rfl rfl ?_ ?_ <;> (intro hb; (try simp only [decide_eq_true_eq, decide_eq_false_iff_not, Bool.not_eq_true', Bool.not_eq_false', ne_eq, Decidable.not_not, Option.isNone_iff_eq_none, not_true_eq_false, not_false_eq_true] at hb); try (exfalso; omega))) | (refine v_cond rfl ?_ ?_ <;> (intro hb; (try simp only [decide_eq_true_eq, decide_eq_false_iff_not, Bool.not_eq_true', Bool.not_eq_false', ne_eq, Decidable.not_not, Option.isNone_iff_eq_none, not_true_eq_false, not_false_eq_true] at hb); try (exfalso; omega))) | fail)
  refine vl_o rfl (vo_call rfl rfl ?_)
  refine vc_mono (alive6_vc w0 _) ?_
  rintro u L' ⟨rfl, rfl⟩
  repeat' (first | (refine go1 ?_; intros) | (refine vl_caseG rfl rfl rfl rfl ?_ ?_ <;> (intro hb; (try simp only [decide_eq_true_eq, decide_eq_false_iff_not, Bool.not_eq_true', Bool.not_eq_false', ne_eq, Decidable.not_not, Option.isNone_iff_eq_none, not_true_eq_false, not_false_eq_true] at hb); try (exfalso; omega))) | (refine v_cond rfl ?_ ?_ <;> (intro hb; (try simp only [decide_eq_true_eq, decide_eq_false_iff_not, Bool.not_eq_true', Bool.not_eq_false', ne_eq, Decidable.not_not, Option.isNone_iff_eq_none, not_true_eq_false, not_false_eq_true] at hb); try (exfalso; omega))) | fail)
  refine vl_o rfl (vo_call rfl rfl ?_)
  refine vc_mono (great6_vc w0 _ a c ns r 600 rfl (by decide) hkey hl) ?_
  rintro u L' ⟨b, rfl, hg, rfl⟩
  cases b with
  | true =>
    repeat' (first | (refine goU ?_; intros) | (refine vl_caseG rfl rfl rfl rfl ?_ ?_ <;> (intro hb; (try simp only [decide_eq_true_eq, decide_eq_false_iff_not, Bool.not_eq_true', Bool.not_eq_false', ne_eq, Decidable.not_not, Option.isNone_iff_eq_none, not_true_eq_false, not_false_eq_true] at hb); try (exfalso; omega))) | (refine v_cond rfl ?_ ?_ <;> (intro hb; (try simp only [decide_eq_true_eq, decide_eq_false_iff_not, Bool.not_eq_true', Bool.not_eq_false', ne_eq, Decidable.not_not, Option.isNone_iff_eq_none, not_true_eq_false, not_false_eq_true] at hb); try (exfalso; omega))) | fail)
    exact rfl
  | false =>
  obtain ⟨hg1, hg2⟩ := hg rfl
  have hok : NsOk ns := ⟨hkey, fun p hp => by have := hg2 p hp; omega, by omega⟩
  by_cases hv1 : 100 < v.length
  · repeat' (first | (refine goU ?_; intros) | (refine vl_caseG rfl rfl rfl rfl ?_ ?_ <;> (intro hb; (try simp only [decide_eq_true_eq, decide_eq_false_iff_not, Bool.not_eq_true', Bool.not_eq_false', ne_eq, Decidable.not_not, Option.isNone_iff_eq_none, not_true_eq_false, not_false_eq_true] at hb); try (exfalso; omega))) | (refine v_cond rfl ?_ ?_ <;> (intro hb; (try simp only [decide_eq_true_eq, decide_eq_false_iff_not, Bool.not_eq_true', Bool.not_eq_false', ne_eq, Decidable.not_not, Option.isNone_iff_eq_none, not_true_eq_false, not_false_eq_true] at hb); try (exfalso; omega))) | fail)
    all_goals first | exact rfl | (exfalso; omega)
  repeat' (first | (refine go1 ?_; intros) | (refine vl_caseG rfl rfl rfl rfl ?_ ?_ <;> (intro hb; (try simp only [decide_eq_true_eq, decide_eq_false_iff_not, Bool.not_eq_true', Bool.not_eq_false', ne_eq, Decidable.not_not, Option.isNone_iff_eq_none, not_true_eq_false, not_false_eq_true] at hb); try (exfalso; omega))) | (refine v_cond rfl ?_ ?_ <;> (intro hb; (try simp only [decide_eq_true_eq, decide_eq_false_iff_not, Bool.not_eq_true', Bool.not_eq_false', ne_eq, Decidable.not_not, Option.isNone_iff_eq_none, not_true_eq_false, not_false_eq_true] at hb); try (exfalso; omega))) | fail)
  all_goals first | (exfalso; omega) | skip
  refine vl_o rfl (vo_call rfl rfl ?_)
  refine vc_mono (tpairs_vc w0 _ a c ns r rfl hok) ?_
  rintro u L' ⟨x, rfl, a1, c1, ps, rfl, hps, rfl⟩
  by_cases hm : MayP ns r
  rotate_left
  · rw [if_neg hm] at hps ⊢
    obtain rfl : ps = [] := List.map_eq_nil_iff.1 hps
    rw [show ([] : List PR).length = 0 from rfl]
    repeat' (first | (refine go1 ?_; intros) | (refine vl_caseG rfl rfl rfl rfl ?_ ?_ <;> (intro hb; (try simp only [decide_eq_true_eq, decide_eq_false_iff_not, Bool.not_eq_true', Bool.not_eq_false', ne_eq, Decidable.not_not, Option.isNone_iff_eq_none, not_true_eq_false, not_false_eq_true] at hb); try (exfalso; omega))) | (refine v_cond rfl ?_ ?_ <;> (intro hb; (try simp only [decide_eq_true_eq, decide_eq_false_iff_not, Bool.not_eq_true', Bool.not_eq_false', ne_eq, Decidable.not_not, Option.isNone_iff_eq_none, not_true_eq_false, not_false_eq_true] at hb); try (exfalso; omega))) | fail)
    refine vl_o rfl (vo_call rfl rfl ?_)
    refine vc_mono (tcheck_vc w0 _ a c ns r rfl hok) ?_
    rintro u L' ⟨rfl, rfl⟩
    rw [if_neg hm]
    repeat' (first | (refine go1 ?_; intros) | (refine vl_caseG rfl rfl rfl rfl ?_ ?_ <;> (intro hb; (try simp only [decide_eq_true_eq, decide_eq_false_iff_not, Bool.not_eq_true', Bool.not_eq_false', ne_eq, Decidable.not_not, Option.isNone_iff_eq_none, not_true_eq_false, not_false_eq_true] at hb); try (exfalso; omega))) | (refine v_cond rfl ?_ ?_ <;> (intro hb; (try simp only [decide_eq_true_eq, decide_eq_false_iff_not, Bool.not_eq_true', Bool.not_eq_false', ne_eq, Decidable.not_not, Option.isNone_iff_eq_none, not_true_eq_false, not_false_eq_true] at hb); try (exfalso; omega))) | fail)
    exact rfl
  rw [if_pos hm] at hps ⊢
  have okp : PsOk ps := for_ok hok (fun _ _ => rfl) hm.right hps
  have hM := for_map hm hg1
  have hK := for_k32 hok r.toNat
  have hhalf := hm.half
  refine vl_know (φ := ps.length ≤ c1) (fun w hs => (hs.ownLen 0 rfl).2.1) (fun hc1 => ?_)
  repeat' (first | (refine go1 ?_; intros) | (refine vl_caseG rfl rfl rfl rfl ?_ ?_ <;> (intro hb; (try simp only [decide_eq_true_eq, decide_eq_false_iff_not, Bool.not_eq_true', Bool.not_eq_false', ne_eq, Decidable.not_not, Option.isNone_iff_eq_none, not_true_eq_false, not_false_eq_true] at hb); try (exfalso; omega))) | (refine v_cond rfl ?_ ?_ <;> (intro hb; (try simp only [decide_eq_true_eq, decide_eq_false_iff_not, Bool.not_eq_true', Bool.not_eq_false', ne_eq, Decidable.not_not, Option.isNone_iff_eq_none, not_true_eq_false, not_false_eq_true] at hb); try (exfalso; omega))) | fail)
  refine vl_o rfl (vo_call rfl rfl ?_)
  refine vc_mono (tSum_vc w0 _ a c ns r rfl hok) ?_
  rintro u L' ⟨rfl, rfl⟩
  have hsl := sumT_len ns r
  have hsm : sumT ns r = rootM (kvs ps) := by rw [sum_for hm, hps, rootM, if_pos hM]
  obtain ⟨Z, hZ⟩ : ∃ Z, Z = sumT ns r := ⟨_, rfl⟩
  rw [← hZ] at hsl hsm ⊢
  rw [show mayE ns r = 0 by unfold mayE; rw [if_pos hm]]
  repeat' (first | (refine go1 ?_; intros) | (refine vl_caseG rfl rfl rfl rfl ?_ ?_ <;> (intro hb; (try simp only [decide_eq_true_eq, decide_eq_false_iff_not, Bool.not_eq_true', Bool.not_eq_false', ne_eq, Decidable.not_not, Option.isNone_iff_eq_none, not_true_eq_false, not_false_eq_true] at hb); try (exfalso; omega))) | (refine v_cond rfl ?_ ?_ <;> (intro hb; (try simp only [decide_eq_true_eq, decide_eq_false_iff_not, Bool.not_eq_true', Bool.not_eq_false', ne_eq, Decidable.not_not, Option.isNone_iff_eq_none, not_true_eq_false, not_false_eq_true] at hb); try (exfalso; omega))) | fail)
  refine vl_o rfl (vo_call rfl rfl ?_)
  refine vc_mono (pRoot_vc w0 _ a1 c1 ps rfl hc1 okp) ?_
  rintro u L' ⟨rfl, rfl⟩
  rw [← hsm, hps, if_pos hM]
  repeat' (first | (refine go1 ?_; intros) | (refine vl_caseG rfl rfl rfl rfl ?_ ?_ <;> (intro hb; (try simp only [decide_eq_true_eq, decide_eq_false_iff_not, Bool.not_eq_true', Bool.not_eq_false', ne_eq, Decidable.not_not, Option.isNone_iff_eq_none, not_true_eq_false, not_false_eq_true] at hb); try (exfalso; omega))) | (refine v_cond rfl ?_ ?_ <;> (intro hb; (try simp only [decide_eq_true_eq, decide_eq_false_iff_not, Bool.not_eq_true', Bool.not_eq_false', ne_eq, Decidable.not_not, Option.isNone_iff_eq_none, not_true_eq_false, not_false_eq_true] at hb); try (exfalso; omega))) | fail)
  refine vl_o rfl (vo_call rfl rfl ?_)
  refine vc_mono (tget_vc w0 _ a c ns r ka rfl hok hla) ?_
  rintro u L' ⟨a2, c2, rfl, rfl⟩
  rw [show getT ns r ka = getF (forP ns r.toNat) ka by unfold getT; rw [if_pos hm], show hasT ns r ka = has (forP ns r.toNat) ka by unfold hasT; rw [if_pos hm]]
  repeat' (first | (refine go1 ?_; intros) | (refine vl_caseG rfl rfl rfl rfl ?_ ?_ <;> (intro hb; (try simp only [decide_eq_true_eq, decide_eq_false_iff_not, Bool.not_eq_true', Bool.not_eq_false', ne_eq, Decidable.not_not, Option.isNone_iff_eq_none, not_true_eq_false, not_false_eq_true] at hb); try (exfalso; omega))) | (refine v_cond rfl ?_ ?_ <;> (intro hb; (try simp only [decide_eq_true_eq, decide_eq_false_iff_not, Bool.not_eq_true', Bool.not_eq_false', ne_eq, Decidable.not_not, Option.isNone_iff_eq_none, not_true_eq_false, not_false_eq_true] at hb); try (exfalso; omega))) | fail)
  refine vl_o rfl (vo_call rfl rfl ?_)
  refine vc_mono (pget_vc w0 _ a1 c1 ps ka rfl okp hla) ?_
  rintro u L' ⟨a3, c3, b3, u3, rfl, e3, rfl⟩
  rw [hps, if_pos hM] at e3
  obtain ⟨rfl, rfl⟩ := Prod.mk.inj e3
  repeat' (first | (refine go1 ?_; intros) | (refine vl_caseG rfl rfl rfl rfl ?_ ?_ <;> (intro hb; (try simp only [decide_eq_true_eq, decide_eq_false_iff_not, Bool.not_eq_true', Bool.not_eq_false', ne_eq, Decidable.not_not, Option.isNone_iff_eq_none, not_true_eq_false, not_false_eq_true] at hb); try (exfalso; omega))) | (refine v_cond rfl ?_ ?_ <;> (intro hb; (try simp only [decide_eq_true_eq, decide_eq_false_iff_not, Bool.not_eq_true', Bool.not_eq_false', ne_eq, Decidable.not_not, Option.isNone_iff_eq_none, not_true_eq_false, not_false_eq_true] at hb); try (exfalso; omega))) | fail)
  refine vl_o rfl (vo_call rfl rfl ?_)
  refine vc_mono (tput_vc w0 _ a c ns r ka va vc v rfl rfl hok hla (by omega)) ?_
  rintro u L' ⟨a4, c4, xs, s, rfl, hxs, rfl⟩
  repeat' (first | (refine go1 ?_; intros) | (refine vl_caseG rfl rfl rfl rfl ?_ ?_ <;> (intro hb; (try simp only [decide_eq_true_eq, decide_eq_false_iff_not, Bool.not_eq_true', Bool.not_eq_false', ne_eq, Decidable.not_not, Option.isNone_iff_eq_none, not_true_eq_false, not_false_eq_true] at hb); try (exfalso; omega))) | (refine v_cond rfl ?_ ?_ <;> (intro hb; (try simp only [decide_eq_true_eq, decide_eq_false_iff_not, Bool.not_eq_true', Bool.not_eq_false', ne_eq, Decidable.not_not, Option.isNone_iff_eq_none, not_true_eq_false, not_false_eq_true] at hb); try (exfalso; omega))) | fail)
  refine vl_o rfl (vo_call rfl rfl ?_)
  refine vc_mono (pput_vc w0 _ a1 c1 ps ka va vc v rfl rfl okp hla (by omega)) ?_
  rintro u L' ⟨x, rfl, a5, c5, qs, rfl, hqs, rfl⟩
  repeat' (first | (refine go1 ?_; intros) | (refine vl_caseG rfl rfl rfl rfl ?_ ?_ <;> (intro hb; (try simp only [decide_eq_true_eq, decide_eq_false_iff_not, Bool.not_eq_true', Bool.not_eq_false', ne_eq, Decidable.not_not, Option.isNone_iff_eq_none, not_true_eq_false, not_false_eq_true] at hb); try (exfalso; omega))) | (refine v_cond rfl ?_ ?_ <;> (intro hb; (try simp only [decide_eq_true_eq, decide_eq_false_iff_not, Bool.not_eq_true', Bool.not_eq_false', ne_eq, Decidable.not_not, Option.isNone_iff_eq_none, not_true_eq_false, not_false_eq_true] at hb); try (exfalso; omega))) | fail)
  refine vl_o rfl (vo_call rfl rfl ?_)
  refine vc_mono (tdrop_vc w0 _ a c ns r ka rfl hok hla (by omega)) ?_
  rintro u L' ⟨a6, c6, zs, q, rfl, hzs, rfl⟩
  repeat' (first | (refine go1 ?_; intros) | (refine vl_caseG rfl rfl rfl rfl ?_ ?_ <;> (intro hb; (try simp only [decide_eq_true_eq, decide_eq_false_iff_not, Bool.not_eq_true', Bool.not_eq_false', ne_eq, Decidable.not_not, Option.isNone_iff_eq_none, not_true_eq_false, not_false_eq_true] at hb); try (exfalso; omega))) | (refine v_cond rfl ?_ ?_ <;> (intro hb; (try simp only [decide_eq_true_eq, decide_eq_false_iff_not, Bool.not_eq_true', Bool.not_eq_false', ne_eq, Decidable.not_not, Option.isNone_iff_eq_none, not_true_eq_false, not_false_eq_true] at hb); try (exfalso; omega))) | fail)
  refine vl_o rfl (vo_call rfl rfl ?_)
  refine vc_mono (pdrop_vc w0 _ a1 c1 ps ka rfl okp hla) ?_
  rintro u L' ⟨x, rfl, a7, c7, ws, rfl, hws, rfl⟩
  repeat' (first | (refine go1 ?_; intros) | (refine vl_caseG rfl rfl rfl rfl ?_ ?_ <;> (intro hb; (try simp only [decide_eq_true_eq, decide_eq_false_iff_not, Bool.not_eq_true', Bool.not_eq_false', ne_eq, Decidable.not_not, Option.isNone_iff_eq_none, not_true_eq_false, not_false_eq_true] at hb); try (exfalso; omega))) | (refine v_cond rfl ?_ ?_ <;> (intro hb; (try simp only [decide_eq_true_eq, decide_eq_false_iff_not, Bool.not_eq_true', Bool.not_eq_false', ne_eq, Decidable.not_not, Option.isNone_iff_eq_none, not_true_eq_false, not_false_eq_true] at hb); try (exfalso; omega))) | fail)
  refine vl_o rfl (vo_call rfl rfl ?_)
  refine vc_mono (pcheck_vc w0 _ a1 c1 ps rfl okp) ?_
  rintro u L' ⟨rfl, rfl⟩
  have e4 : putE (kvs ps) ka v = tputE ns r v := by
    have h1 := put_len (v := v) hM.2.2 hK hla
    have h2 : (putF (forP ns r.toNat) ka v).length ≤ 512 := by rw [h1]; split <;> omega
    unfold putE tputE
    rw [hps, if_pos h2, if_neg (show ¬ 261844 < ns.length by omega)]
    simp only [hM, hm]
  have e5 : dropE (kvs ps) ka = tdropE ns r ka := by
    unfold dropE tdropE
    rw [hps, if_pos hM, if_pos hm, if_neg (show ¬ 261844 < ns.length by omega)]
  rw [e4, e5, hps, if_pos hM]
  have hqs2 : tputE ns r v = 0 → kvs qs = putF (forP ns r.toNat) ka v := fun hE => by rw [hqs, hps, putM, ← hps, e4, if_pos hE, hps]
  have hws2 : tdropE ns r ka = 0 → kvs ws = dropF (forP ns r.toNat) ka := fun hE => by rw [hws, hps, dropM, ← hps, e5, if_pos hE, hps]
  have hxo : NsOk xs := by
    by_cases hE : tputE ns r v = 0
    · rw [if_pos hE] at hxs; exact hxs.ok
    · rw [if_neg hE] at hxs; rw [hxs.1]; exact nsOk_nil
  have hzo : NsOk zs := by
    by_cases hE : tdropE ns r ka = 0
    · rw [if_pos hE] at hzs; exact hzs.ok
    · rw [if_neg hE] at hzs; rw [hzs.1]; exact nsOk_nil
  repeat' (first | (refine goE ?_; intros) | (refine vl_caseG rfl rfl rfl rfl ?_ ?_ <;> (intro hb; (try simp only [decide_eq_true_eq, decide_eq_false_iff_not, Bool.not_eq_true', Bool.not_eq_false', ne_eq, Decidable.not_not, Option.isNone_iff_eq_none, not_true_eq_false, not_false_eq_true] at hb); try (exfalso; omega))) | (refine v_cond rfl ?_ ?_ <;> (intro hb; (try simp only [decide_eq_true_eq, decide_eq_false_iff_not, Bool.not_eq_true', Bool.not_eq_false', ne_eq, Decidable.not_not, Option.isNone_iff_eq_none, not_true_eq_false, not_false_eq_true] at hb); try (exfalso; omega))) | fail)
  refine vl_o rfl (vo_call rfl rfl ?_)
  refine vc_mono (same_vc w0 _ a2 c2 _ a3 c3 _ rfl rfl) ?_
  rintro u L' ⟨rfl, rfl⟩
  rw [decide_eq_true rfl]
  repeat' (first | (refine goE ?_; intros) | (refine vl_caseG rfl rfl rfl rfl ?_ ?_ <;> (intro hb; (try simp only [decide_eq_true_eq, decide_eq_false_iff_not, Bool.not_eq_true', Bool.not_eq_false', ne_eq, Decidable.not_not, Option.isNone_iff_eq_none, not_true_eq_false, not_false_eq_true] at hb); try (exfalso; omega))) | (refine v_cond rfl ?_ ?_ <;> (intro hb; (try simp only [decide_eq_true_eq, decide_eq_false_iff_not, Bool.not_eq_true', Bool.not_eq_false', ne_eq, Decidable.not_not, Option.isNone_iff_eq_none, not_true_eq_false, not_false_eq_true] at hb); try (exfalso; omega))) | fail)
  refine vl_o rfl (vo_call rfl rfl ?_)
  refine vc_mono (tpairs_vc w0 _ a4 c4 xs s rfl hxo) ?_
  rintro u L' ⟨x, rfl, a8, c8, es, rfl, hes, rfl⟩
  repeat' (first | (refine goE ?_; intros) | (refine vl_caseG rfl rfl rfl rfl ?_ ?_ <;> (intro hb; (try simp only [decide_eq_true_eq, decide_eq_false_iff_not, Bool.not_eq_true', Bool.not_eq_false', ne_eq, Decidable.not_not, Option.isNone_iff_eq_none, not_true_eq_false, not_false_eq_true] at hb); try (exfalso; omega))) | (refine v_cond rfl ?_ ?_ <;> (intro hb; (try simp only [decide_eq_true_eq, decide_eq_false_iff_not, Bool.not_eq_true', Bool.not_eq_false', ne_eq, Decidable.not_not, Option.isNone_iff_eq_none, not_true_eq_false, not_false_eq_true] at hb); try (exfalso; omega))) | fail)
  refine vl_o rfl (vo_call rfl rfl ?_)
  refine vc_mono (tpairs_vc w0 _ a6 c6 zs q rfl hzo) ?_
  rintro u L' ⟨x, rfl, a9, c9, fs, rfl, hfs, rfl⟩
  have hX : tputE ns r v = 0 → MayP xs s ∧ kvs es = kvs qs ∧ PsOk es ∧ PsOk qs := fun hE => by
    rw [if_pos hE] at hxs
    rw [if_pos hxs.may] at hes
    have h1 : kvs es = kvs qs := by rw [hes, hxs.for', hqs2 hE]
    exact ⟨hxs.may, h1, for_ok hxs.ok (fun _ _ => rfl) hxs.may.right hes, for_ok hxs.ok (fun _ _ => rfl) hxs.may.right (h1.symm.trans hes)⟩
  have hY : tdropE ns r ka = 0 → MayP zs q ∧ kvs fs = kvs ws ∧ PsOk fs ∧ PsOk ws := fun hE => by
    rw [if_pos hE] at hzs
    rw [if_pos hzs.may] at hfs
    have h1 : kvs fs = kvs ws := by rw [hfs, hzs.for', hws2 hE]
    exact ⟨hzs.may, h1, for_ok hzs.ok (fun _ _ => rfl) hzs.may.right hfs, for_ok hzs.ok (fun _ _ => rfl) hzs.may.right (h1.symm.trans hfs)⟩
  by_cases hE1 : tputE ns r v = 0
  · obtain ⟨m1, k1, o1, o2⟩ := hX hE1
    rw [hE1, if_pos m1]
    repeat' (first | (refine goE ?_; intros) | (refine vl_caseG rfl rfl rfl rfl ?_ ?_ <;> (intro hb; (try simp only [decide_eq_true_eq, decide_eq_false_iff_not, Bool.not_eq_true', Bool.not_eq_false', ne_eq, Decidable.not_not, Option.isNone_iff_eq_none, not_true_eq_false, not_false_eq_true] at hb); try (exfalso; omega))) | (refine v_cond rfl ?_ ?_ <;> (intro hb; (try simp only [decide_eq_true_eq, decide_eq_false_iff_not, Bool.not_eq_true', Bool.not_eq_false', ne_eq, Decidable.not_not, Option.isNone_iff_eq_none, not_true_eq_false, not_false_eq_true] at hb); try (exfalso; omega))) | fail)
    refine vl_o rfl (vo_call rfl rfl ?_)
    refine vc_mono (rsame_vc w0 _ a8 c8 es a5 c5 qs rfl rfl o1 o2) ?_
    rintro u L' ⟨rfl, rfl⟩
    rw [decide_eq_true k1]
    by_cases hE2 : tdropE ns r ka = 0
    · obtain ⟨m2, k2, o3, o4⟩ := hY hE2
      rw [hE2, if_pos m2]
      repeat' (first | (refine goEU ?_; intros) | (refine vl_caseG rfl rfl rfl rfl ?_ ?_ <;> (intro hb; (try simp only [decide_eq_true_eq, decide_eq_false_iff_not, Bool.not_eq_true', Bool.not_eq_false', ne_eq, Decidable.not_not, Option.isNone_iff_eq_none, not_true_eq_false, not_false_eq_true] at hb); try (exfalso; omega))) | (refine v_cond rfl ?_ ?_ <;> (intro hb; (try simp only [decide_eq_true_eq, decide_eq_false_iff_not, Bool.not_eq_true', Bool.not_eq_false', ne_eq, Decidable.not_not, Option.isNone_iff_eq_none, not_true_eq_false, not_false_eq_true] at hb); try (exfalso; omega))) | fail)
      all_goals first | (exfalso; omega) | skip
      refine vl_o rfl (vo_call rfl rfl ?_)
      refine vc_mono (rsame_vc w0 _ a9 c9 fs a7 c7 ws rfl rfl o3 o4) ?_
      rintro u L' ⟨rfl, rfl⟩
      rw [decide_eq_true k2]
      repeat' (first | (refine goEU ?_; intros) | (refine vl_caseG rfl rfl rfl rfl ?_ ?_ <;> (intro hb; (try simp only [decide_eq_true_eq, decide_eq_false_iff_not, Bool.not_eq_true', Bool.not_eq_false', ne_eq, Decidable.not_not, Option.isNone_iff_eq_none, not_true_eq_false, not_false_eq_true] at hb); try (exfalso; omega))) | (refine v_cond rfl ?_ ?_ <;> (intro hb; (try simp only [decide_eq_true_eq, decide_eq_false_iff_not, Bool.not_eq_true', Bool.not_eq_false', ne_eq, Decidable.not_not, Option.isNone_iff_eq_none, not_true_eq_false, not_false_eq_true] at hb); try (exfalso; omega))) | fail)
      exact rfl
    · repeat' (first | (refine goEU ?_; intros) | (refine vl_caseG rfl rfl rfl rfl ?_ ?_ <;> (intro hb; (try simp only [decide_eq_true_eq, decide_eq_false_iff_not, Bool.not_eq_true', Bool.not_eq_false', ne_eq, Decidable.not_not, Option.isNone_iff_eq_none, not_true_eq_false, not_false_eq_true] at hb); try (exfalso; omega))) | (refine v_cond rfl ?_ ?_ <;> (intro hb; (try simp only [decide_eq_true_eq, decide_eq_false_iff_not, Bool.not_eq_true', Bool.not_eq_false', ne_eq, Decidable.not_not, Option.isNone_iff_eq_none, not_true_eq_false, not_false_eq_true] at hb); try (exfalso; omega))) | fail)
      all_goals first | exact rfl | (exfalso; omega)
  · skip
    by_cases hE2 : tdropE ns r ka = 0
    · obtain ⟨m2, k2, o3, o4⟩ := hY hE2
      rw [hE2, if_pos m2]
      repeat' (first | (refine goEU ?_; intros) | (refine vl_caseG rfl rfl rfl rfl ?_ ?_ <;> (intro hb; (try simp only [decide_eq_true_eq, decide_eq_false_iff_not, Bool.not_eq_true', Bool.not_eq_false', ne_eq, Decidable.not_not, Option.isNone_iff_eq_none, not_true_eq_false, not_false_eq_true] at hb); try (exfalso; omega))) | (refine v_cond rfl ?_ ?_ <;> (intro hb; (try simp only [decide_eq_true_eq, decide_eq_false_iff_not, Bool.not_eq_true', Bool.not_eq_false', ne_eq, Decidable.not_not, Option.isNone_iff_eq_none, not_true_eq_false, not_false_eq_true] at hb); try (exfalso; omega))) | fail)
      all_goals first | (exfalso; omega) | skip
      refine vl_o rfl (vo_call rfl rfl ?_)
      refine vc_mono (rsame_vc w0 _ a9 c9 fs a7 c7 ws rfl rfl o3 o4) ?_
      rintro u L' ⟨rfl, rfl⟩
      rw [decide_eq_true k2]
      repeat' (first | (refine goEU ?_; intros) | (refine vl_caseG rfl rfl rfl rfl ?_ ?_ <;> (intro hb; (try simp only [decide_eq_true_eq, decide_eq_false_iff_not, Bool.not_eq_true', Bool.not_eq_false', ne_eq, Decidable.not_not, Option.isNone_iff_eq_none, not_true_eq_false, not_false_eq_true] at hb); try (exfalso; omega))) | (refine v_cond rfl ?_ ?_ <;> (intro hb; (try simp only [decide_eq_true_eq, decide_eq_false_iff_not, Bool.not_eq_true', Bool.not_eq_false', ne_eq, Decidable.not_not, Option.isNone_iff_eq_none, not_true_eq_false, not_false_eq_true] at hb); try (exfalso; omega))) | fail)
      exact rfl
    · repeat' (first | (refine goEU ?_; intros) | (refine vl_caseG rfl rfl rfl rfl ?_ ?_ <;> (intro hb; (try simp only [decide_eq_true_eq, decide_eq_false_iff_not, Bool.not_eq_true', Bool.not_eq_false', ne_eq, Decidable.not_not, Option.isNone_iff_eq_none, not_true_eq_false, not_false_eq_true] at hb); try (exfalso; omega))) | (refine v_cond rfl ?_ ?_ <;> (intro hb; (try simp only [decide_eq_true_eq, decide_eq_false_iff_not, Bool.not_eq_true', Bool.not_eq_false', ne_eq, Decidable.not_not, Option.isNone_iff_eq_none, not_true_eq_false, not_false_eq_true] at hb); try (exfalso; omega))) | fail)
      all_goals first | exact rfl | (exfalso; omega)
end Go.Proofs.YtmaimkbppnpbnaaDoor
