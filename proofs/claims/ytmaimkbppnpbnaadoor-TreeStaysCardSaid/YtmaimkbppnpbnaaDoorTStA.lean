/-
  A version stays: the statement's law.
-/
import Derived.Test.YtmaimkbppnpbnaaDoorTNaA
import Derived.Test.YtmaimkbppnpbnaaDoorTPtD
import Derived.Test.YtmaimkbppnpbnaaDoorTGtA
import Derived.Test.YtmaimkbppnpbnaaDoorGM
set_option linter.unusedVariables false
set_option linter.unusedSimpArgs false
namespace Go.Proofs.YtmaimkbppnpbnaaDoor
open Go Go.RowKit
set_option linter.unusedVariables false
set_option linter.unusedSimpArgs false
open Classical

/-- An older version, in a tree that goes on. -/
theorem GrowR.old {ns ms : List Nd} {s q : Int} {l : List KV} (h : GrowR ns ms s l) (hm : MayP ns q) : MayP ms q ∧ forP ms q.toNat = forP ns q.toNat := by
  have hq : q.toNat ≤ ns.length := by have h1 := hm.hi; have h2 := hm.lo; omega
  have hq2 : q.toNat ≤ (pls ns).length := by simpa using hq
  have e : pls ms = pls ns ++ pls (ms.drop ns.length) := by
    rw [← h.pre]
    unfold pls
    rw [← List.map_append, List.take_append_drop]
  refine ⟨⟨h.may.len, hm.lo, by have h1 := hm.hi; have h2 := h.len; omega, h.may.ones, ?_⟩, ?_⟩
  · have := rightP_app (pls ns) (pls (ms.drop ns.length)) q.toNat 0 zb hq2
    rw [← e, rightP_pl, rightP_pl] at this
    rw [this]
    exact hm.right
  · have := forP_app (pls ns) (pls (ms.drop ns.length)) q.toNat hq2
    rwa [← e, forP_pl, forP_pl] at this
theorem sum_for {ns : List Nd} {q : Int} (hm : MayP ns q) : sumT ns q = rootF 258 (forP ns q.toNat) 0 := by
  unfold sumT
  rw [if_pos hm]
  exact sum_law ns q.toNat 0 257 zb (fun _ _ => rfl) rfl hm.right
set_option maxRecDepth 100000 in
set_option maxHeartbeats 8000000 in
theorem treeStays_vc (w0 : World) [hK : RdA w0 (some ⟨0, 0, none⟩) (wds K64)] (a : Option Addr) (c : Nat) (ns : List Nd) (r : Int) (ka : List UInt8) (va : Option Addr) (vc : Nat) (v : List UInt8) (kb : List UInt8) (wa : Option Addr) (wc : Nat) (w : List UInt8) {vn wn : Nat} (hvn : vn = v.length) (hwn : wn = w.length) (hkey : ∀ p ∈ ns, p.key.length = 32) (hl : ns.length ≤ 9223372036854775807) (hla : ka.length = 32) (hlb : kb.length = 32) [hr : RdA w0 a (ndc ns)] [hv : RdNs w0 [] ns] [hrv : RdA w0 va (bvs v)] [hrw : RdA w0 wa (bvs w)] :
    VC Tryd.prog w0 6 [.agg #[.slice a ns.length c, .int .i64 r], .agg (bvs ka).toArray, .slice va vn vc, .agg (bvs kb).toArray, .slice wa wn wc] [] fun u L' => u = .bool true := by
  subst hvn
  subst hwn
  refine vc_in rfl rfl ?_
  repeat' (first | (refine go1 ?_; intros) | (refine vl_caseG rfl rfl rfl rfl ?_ ?_ <;> (intro hb; (try simp only [decide_eq_true_eq, decide_eq_false_iff_not, Bool.not_eq_true', Bool.not_eq_false', ne_eq, Decidable.not_not, Option.isNone_iff_eq_none, not_true_eq_false, not_false_eq_true] at hb); try (exfalso; omega))) | (refine v_cond rfl ?_ ?_ <;> (intro hb; (try simp only [decide_eq_true_eq, decide_eq_false_iff_not, Bool.not_eq_true', Bool.not_eq_false', ne_eq, Decidable.not_not, Option.isNone_iff_eq_none, not_true_eq_false, not_false_eq_true] at hb); try (exfalso; omega))) | fail)
  refine vl_o rfl (vo_call rfl rfl ?_)
  refine vc_mono (alive6_vc w0 _) ?_
  rintro u L' ⟨rfl, rfl⟩
  repeat' (first | (refine go1 ?_; intros) | (refine vl_caseG rfl rfl rfl rfl ?_ ?_ <;> (intro hb; (try simp only [decide_eq_true_eq, decide_eq_false_iff_not, Bool.not_eq_true', Bool.not_eq_false', ne_eq, Decidable.not_not, Option.isNone_iff_eq_none, not_true_eq_false, not_false_eq_true] at hb); try (exfalso; omega))) | (refine v_cond rfl ?_ ?_ <;> (intro hb; (try simp only [decide_eq_true_eq, decide_eq_false_iff_not, Bool.not_eq_true', Bool.not_eq_false', ne_eq, Decidable.not_not, Option.isNone_iff_eq_none, not_true_eq_false, not_false_eq_true] at hb); try (exfalso; omega))) | fail)
  refine vl_o rfl (vo_call rfl rfl ?_)
  refine vc_mono (great6_vc w0 _ a c ns r 600 rfl (by decide) hkey hl) ?_
  rintro u L' ⟨b, rfl, hg, rfl⟩
  cases b with
  | true =>
    repeat' (first | (refine goU ?_; intros) | (refine vl_caseG rfl rfl rfl rfl ?_ ?_ <;> (intro hb; (try simp only [decide_eq_true_eq, decide_eq_false_iff_not, Bool.not_eq_true', Bool.not_eq_false', ne_eq, Decidable.not_not, Option.isNone_iff_eq_none, not_true_eq_false, not_false_eq_true] at hb); try (exfalso; omega))) | (refine v_cond rfl ?_ ?_ <;> (intro hb; (try simp only [decide_eq_true_eq, decide_eq_false_iff_not, Bool.not_eq_true', Bool.not_eq_false', ne_eq, Decidable.not_not, Option.isNone_iff_eq_none, not_true_eq_false, not_false_eq_true] at hb); try (exfalso; omega))) | fail)
    exact rfl
  | false =>
  obtain ⟨hg1, hg2⟩ := hg rfl
  have hok : NsOk ns := ⟨hkey, fun p hp => by have := hg2 p hp; omega, by omega⟩
  by_cases hv1 : 100 < v.length
  · repeat' (first | (refine goU ?_; intros) | (refine vl_caseG rfl rfl rfl rfl ?_ ?_ <;> (intro hb; (try simp only [decide_eq_true_eq, decide_eq_false_iff_not, Bool.not_eq_true', Bool.not_eq_false', ne_eq, Decidable.not_not, Option.isNone_iff_eq_none, not_true_eq_false, not_false_eq_true] at hb); try (exfalso; omega))) | (refine v_cond rfl ?_ ?_ <;> (intro hb; (try simp only [decide_eq_true_eq, decide_eq_false_iff_not, Bool.not_eq_true', Bool.not_eq_false', ne_eq, Decidable.not_not, Option.isNone_iff_eq_none, not_true_eq_false, not_false_eq_true] at hb); try (exfalso; omega))) | fail)
    all_goals first | exact rfl | (exfalso; omega)
  by_cases hw1 : 100 < w.length
  · repeat' (first | (refine goU ?_; intros) | (refine vl_caseG rfl rfl rfl rfl ?_ ?_ <;> (intro hb; (try simp only [decide_eq_true_eq, decide_eq_false_iff_not, Bool.not_eq_true', Bool.not_eq_false', ne_eq, Decidable.not_not, Option.isNone_iff_eq_none, not_true_eq_false, not_false_eq_true] at hb); try (exfalso; omega))) | (refine v_cond rfl ?_ ?_ <;> (intro hb; (try simp only [decide_eq_true_eq, decide_eq_false_iff_not, Bool.not_eq_true', Bool.not_eq_false', ne_eq, Decidable.not_not, Option.isNone_iff_eq_none, not_true_eq_false, not_false_eq_true] at hb); try (exfalso; omega))) | fail)
    all_goals first | exact rfl | (exfalso; omega)
  repeat' (first | (refine go1 ?_; intros) | (refine vl_caseG rfl rfl rfl rfl ?_ ?_ <;> (intro hb; (try simp only [decide_eq_true_eq, decide_eq_false_iff_not, Bool.not_eq_true', Bool.not_eq_false', ne_eq, Decidable.not_not, Option.isNone_iff_eq_none, not_true_eq_false, not_false_eq_true] at hb); try (exfalso; omega))) | (refine v_cond rfl ?_ ?_ <;> (intro hb; (try simp only [decide_eq_true_eq, decide_eq_false_iff_not, Bool.not_eq_true', Bool.not_eq_false', ne_eq, Decidable.not_not, Option.isNone_iff_eq_none, not_true_eq_false, not_false_eq_true] at hb); try (exfalso; omega))) | fail)
  all_goals first | (exfalso; omega) | skip
  refine vl_o rfl (vo_call rfl rfl ?_)
  refine vc_mono (tpairs_vc w0 _ a c ns r rfl hok) ?_
  rintro u L' ⟨x, rfl, a1, c1, ps, rfl, hps, rfl⟩
  repeat' (first | (refine go1 ?_; intros) | (refine vl_caseG rfl rfl rfl rfl ?_ ?_ <;> (intro hb; (try simp only [decide_eq_true_eq, decide_eq_false_iff_not, Bool.not_eq_true', Bool.not_eq_false', ne_eq, Decidable.not_not, Option.isNone_iff_eq_none, not_true_eq_false, not_false_eq_true] at hb); try (exfalso; omega))) | (refine v_cond rfl ?_ ?_ <;> (intro hb; (try simp only [decide_eq_true_eq, decide_eq_false_iff_not, Bool.not_eq_true', Bool.not_eq_false', ne_eq, Decidable.not_not, Option.isNone_iff_eq_none, not_true_eq_false, not_false_eq_true] at hb); try (exfalso; omega))) | fail)
  refine vl_o rfl (vo_call rfl rfl ?_)
  refine vc_mono (tSum_vc w0 _ a c ns r rfl hok) ?_
  rintro u L' ⟨rfl, rfl⟩
  have hsl := sumT_len ns r
  obtain ⟨Z, hZ⟩ : ∃ Z, Z = sumT ns r := ⟨_, rfl⟩
  rw [← hZ] at hsl ⊢
  repeat' (first | (refine go1 ?_; intros) | (refine vl_caseG rfl rfl rfl rfl ?_ ?_ <;> (intro hb; (try simp only [decide_eq_true_eq, decide_eq_false_iff_not, Bool.not_eq_true', Bool.not_eq_false', ne_eq, Decidable.not_not, Option.isNone_iff_eq_none, not_true_eq_false, not_false_eq_true] at hb); try (exfalso; omega))) | (refine v_cond rfl ?_ ?_ <;> (intro hb; (try simp only [decide_eq_true_eq, decide_eq_false_iff_not, Bool.not_eq_true', Bool.not_eq_false', ne_eq, Decidable.not_not, Option.isNone_iff_eq_none, not_true_eq_false, not_false_eq_true] at hb); try (exfalso; omega))) | fail)
  refine vl_o rfl (vo_call rfl rfl ?_)
  refine vc_mono (tput_vc w0 _ a c ns r ka va vc v rfl rfl hok hla (by omega)) ?_
  rintro u L' ⟨a2, c2, xs, s, rfl, hxs, rfl⟩
  have hxo : NsOk xs := by
    by_cases hE : tputE ns r v = 0
    · rw [if_pos hE] at hxs; exact hxs.ok
    · rw [if_neg hE] at hxs; rw [hxs.1]; exact nsOk_nil
  have hxl : xs.length ≤ 900 := by
    by_cases hE : tputE ns r v = 0
    · rw [if_pos hE] at hxs; have := hxs.len2; omega
    · rw [if_neg hE] at hxs; rw [hxs.1]; simp
  repeat' (first | (refine go1 ?_; intros) | (refine vl_caseG rfl rfl rfl rfl ?_ ?_ <;> (intro hb; (try simp only [decide_eq_true_eq, decide_eq_false_iff_not, Bool.not_eq_true', Bool.not_eq_false', ne_eq, Decidable.not_not, Option.isNone_iff_eq_none, not_true_eq_false, not_false_eq_true] at hb); try (exfalso; omega))) | (refine v_cond rfl ?_ ?_ <;> (intro hb; (try simp only [decide_eq_true_eq, decide_eq_false_iff_not, Bool.not_eq_true', Bool.not_eq_false', ne_eq, Decidable.not_not, Option.isNone_iff_eq_none, not_true_eq_false, not_false_eq_true] at hb); try (exfalso; omega))) | fail)
  refine vl_o rfl (vo_call rfl rfl ?_)
  refine vc_mono (tput_vc w0 _ a2 c2 xs s kb wa wc w rfl rfl hxo hlb (by omega)) ?_
  rintro u L' ⟨a3, c3, ys, t, rfl, hys, rfl⟩
  have hyo : NsOk ys := by
    by_cases hE : tputE xs s w = 0
    · rw [if_pos hE] at hys; exact hys.ok
    · rw [if_neg hE] at hys; rw [hys.1]; exact nsOk_nil
  have hyl : ys.length ≤ 1200 := by
    by_cases hE : tputE xs s w = 0
    · rw [if_pos hE] at hys; have := hys.len2; omega
    · rw [if_neg hE] at hys; rw [hys.1]; simp
  repeat' (first | (refine go1 ?_; intros) | (refine vl_caseG rfl rfl rfl rfl ?_ ?_ <;> (intro hb; (try simp only [decide_eq_true_eq, decide_eq_false_iff_not, Bool.not_eq_true', Bool.not_eq_false', ne_eq, Decidable.not_not, Option.isNone_iff_eq_none, not_true_eq_false, not_false_eq_true] at hb); try (exfalso; omega))) | (refine v_cond rfl ?_ ?_ <;> (intro hb; (try simp only [decide_eq_true_eq, decide_eq_false_iff_not, Bool.not_eq_true', Bool.not_eq_false', ne_eq, Decidable.not_not, Option.isNone_iff_eq_none, not_true_eq_false, not_false_eq_true] at hb); try (exfalso; omega))) | fail)
  refine vl_o rfl (vo_call rfl rfl ?_)
  refine vc_mono (tdrop_vc w0 _ a3 c3 ys t ka rfl hyo hla (by omega)) ?_
  rintro u L' ⟨a4, c4, zs, q, rfl, hzs, rfl⟩
  by_cases hm : MayP ns r
  rotate_left
  · rw [if_neg hm, show mayE ns r = 8 by unfold mayE; rw [if_neg hm]]
    repeat' (first | (refine go1 ?_; intros) | (refine vl_caseG rfl rfl rfl rfl ?_ ?_ <;> (intro hb; (try simp only [decide_eq_true_eq, decide_eq_false_iff_not, Bool.not_eq_true', Bool.not_eq_false', ne_eq, Decidable.not_not, Option.isNone_iff_eq_none, not_true_eq_false, not_false_eq_true] at hb); try (exfalso; omega))) | (refine v_cond rfl ?_ ?_ <;> (intro hb; (try simp only [decide_eq_true_eq, decide_eq_false_iff_not, Bool.not_eq_true', Bool.not_eq_false', ne_eq, Decidable.not_not, Option.isNone_iff_eq_none, not_true_eq_false, not_false_eq_true] at hb); try (exfalso; omega))) | fail)
    all_goals first | exact rfl | (exfalso; omega)
  rw [if_pos hm, show mayE ns r = 0 by unfold mayE; rw [if_pos hm]]
  rw [if_pos hm] at hps
  by_cases hE1 : tputE ns r v = 0
  rotate_left
  · repeat' (first | (refine go1 ?_; intros) | (refine vl_caseG rfl rfl rfl rfl ?_ ?_ <;> (intro hb; (try simp only [decide_eq_true_eq, decide_eq_false_iff_not, Bool.not_eq_true', Bool.not_eq_false', ne_eq, Decidable.not_not, Option.isNone_iff_eq_none, not_true_eq_false, not_false_eq_true] at hb); try (exfalso; omega))) | (refine v_cond rfl ?_ ?_ <;> (intro hb; (try simp only [decide_eq_true_eq, decide_eq_false_iff_not, Bool.not_eq_true', Bool.not_eq_false', ne_eq, Decidable.not_not, Option.isNone_iff_eq_none, not_true_eq_false, not_false_eq_true] at hb); try (exfalso; omega))) | fail)
    all_goals first | exact rfl | (exfalso; omega)
  rw [hE1, if_pos rfl] at hxs
  rw [hE1]
  by_cases hE2 : tputE xs s w = 0
  rotate_left
  · repeat' (first | (refine go1 ?_; intros) | (refine vl_caseG rfl rfl rfl rfl ?_ ?_ <;> (intro hb; (try simp only [decide_eq_true_eq, decide_eq_false_iff_not, Bool.not_eq_true', Bool.not_eq_false', ne_eq, Decidable.not_not, Option.isNone_iff_eq_none, not_true_eq_false, not_false_eq_true] at hb); try (exfalso; omega))) | (refine v_cond rfl ?_ ?_ <;> (intro hb; (try simp only [decide_eq_true_eq, decide_eq_false_iff_not, Bool.not_eq_true', Bool.not_eq_false', ne_eq, Decidable.not_not, Option.isNone_iff_eq_none, not_true_eq_false, not_false_eq_true] at hb); try (exfalso; omega))) | fail)
    all_goals first | exact rfl | (exfalso; omega)
  rw [hE2, if_pos rfl, hxs.for'] at hys
  rw [hE2]
  have hK := for_k32 hok r.toNat
  have hS := hm.for.srt
  have hx1 := hxs.old hm
  have hy1 := hys.old hx1.1
  have hy2 := hys.old hxs.may
  have hhas : has (forP ys t.toNat) ka = true := by
    rw [hys.for']
    have hKx : K32 (putF (forP ns r.toNat) ka v) := by rw [← hxs.for']; exact for_k32 hxo _
    by_cases e : ka = kb
    · rw [e]
      exact has_put (by rw [e] at hKx; exact hKx) hlb
    · rw [has_put_o hKx hlb e]
      exact has_put hK hla
  have hE3 : tdropE ys t ka = 0 := by
    unfold tdropE
    rw [if_pos hys.may, if_pos hhas, if_neg (by omega)]
  rw [hE3, if_pos rfl] at hzs
  rw [hE3]
  have hz1 := hzs.old hy1.1
  have hz2 := hzs.old hy2.1
  repeat' (first | (refine go1 ?_; intros) | (refine vl_caseG rfl rfl rfl rfl ?_ ?_ <;> (intro hb; (try simp only [decide_eq_true_eq, decide_eq_false_iff_not, Bool.not_eq_true', Bool.not_eq_false', ne_eq, Decidable.not_not, Option.isNone_iff_eq_none, not_true_eq_false, not_false_eq_true] at hb); try (exfalso; omega))) | (refine v_cond rfl ?_ ?_ <;> (intro hb; (try simp only [decide_eq_true_eq, decide_eq_false_iff_not, Bool.not_eq_true', Bool.not_eq_false', ne_eq, Decidable.not_not, Option.isNone_iff_eq_none, not_true_eq_false, not_false_eq_true] at hb); try (exfalso; omega))) | fail)
  refine vl_o rfl (vo_call rfl rfl ?_)
  refine vc_mono (tat_vc w0 _ a4 c4 zs q r rfl hzs.ok) ?_
  rintro u L' ⟨a5, c5, os, r5, rfl, hos, rfl⟩
  have eA : tatE zs q r = 0 := by unfold tatE; rw [if_pos hzs.may, if_pos hz1.1]
  rw [eA, if_pos rfl] at hos
  rw [eA]
  obtain ⟨hoe, rfl⟩ := hos
  have hoo := hzs.ok.of_pls hoe
  have hmo : MayP os r5 := (mayP_eq hoe r5).2 hz1.1
  have hfo : forP os r5.toNat = forP ns r5.toNat := by rw [forP_eq hoe, hz1.2, hy1.2, hx1.2]
  repeat' (first | (refine go1 ?_; intros) | (refine vl_caseG rfl rfl rfl rfl ?_ ?_ <;> (intro hb; (try simp only [decide_eq_true_eq, decide_eq_false_iff_not, Bool.not_eq_true', Bool.not_eq_false', ne_eq, Decidable.not_not, Option.isNone_iff_eq_none, not_true_eq_false, not_false_eq_true] at hb); try (exfalso; omega))) | (refine v_cond rfl ?_ ?_ <;> (intro hb; (try simp only [decide_eq_true_eq, decide_eq_false_iff_not, Bool.not_eq_true', Bool.not_eq_false', ne_eq, Decidable.not_not, Option.isNone_iff_eq_none, not_true_eq_false, not_false_eq_true] at hb); try (exfalso; omega))) | fail)
  refine vl_o rfl (vo_call rfl rfl ?_)
  refine vc_mono (tpairs_vc w0 _ a5 c5 os r5 rfl hoo) ?_
  rintro u L' ⟨x, rfl, a6, c6, qs, rfl, hqs, rfl⟩
  rw [if_pos hmo, hfo] at hqs
  rw [if_pos hmo]
  repeat' (first | (refine go1 ?_; intros) | (refine vl_caseG rfl rfl rfl rfl ?_ ?_ <;> (intro hb; (try simp only [decide_eq_true_eq, decide_eq_false_iff_not, Bool.not_eq_true', Bool.not_eq_false', ne_eq, Decidable.not_not, Option.isNone_iff_eq_none, not_true_eq_false, not_false_eq_true] at hb); try (exfalso; omega))) | (refine v_cond rfl ?_ ?_ <;> (intro hb; (try simp only [decide_eq_true_eq, decide_eq_false_iff_not, Bool.not_eq_true', Bool.not_eq_false', ne_eq, Decidable.not_not, Option.isNone_iff_eq_none, not_true_eq_false, not_false_eq_true] at hb); try (exfalso; omega))) | fail)
  refine vl_o rfl (vo_call rfl rfl ?_)
  refine vc_mono (tSum_vc w0 _ a5 c5 os r5 rfl hoo) ?_
  rintro u L' ⟨rfl, rfl⟩
  rw [show sumT os r5 = Z by rw [hZ, sum_for hmo, sum_for hm, hfo], show mayE os r5 = 0 by unfold mayE; rw [if_pos hmo]]
  repeat' (first | (refine go1 ?_; intros) | (refine vl_caseG rfl rfl rfl rfl ?_ ?_ <;> (intro hb; (try simp only [decide_eq_true_eq, decide_eq_false_iff_not, Bool.not_eq_true', Bool.not_eq_false', ne_eq, Decidable.not_not, Option.isNone_iff_eq_none, not_true_eq_false, not_false_eq_true] at hb); try (exfalso; omega))) | (refine v_cond rfl ?_ ?_ <;> (intro hb; (try simp only [decide_eq_true_eq, decide_eq_false_iff_not, Bool.not_eq_true', Bool.not_eq_false', ne_eq, Decidable.not_not, Option.isNone_iff_eq_none, not_true_eq_false, not_false_eq_true] at hb); try (exfalso; omega))) | fail)
  refine vl_o rfl (vo_call rfl rfl ?_)
  refine vc_mono (tat_vc w0 _ a4 c4 zs q s rfl hzs.ok) ?_
  rintro u L' ⟨a7, c7, fs, s7, rfl, hfs, rfl⟩
  have eB : tatE zs q s = 0 := by unfold tatE; rw [if_pos hzs.may, if_pos hz2.1]
  rw [eB, if_pos rfl] at hfs
  rw [eB]
  obtain ⟨hfe, rfl⟩ := hfs
  have hof := hzs.ok.of_pls hfe
  have hmf : MayP fs s7 := (mayP_eq hfe s7).2 hz2.1
  have hff : forP fs s7.toNat = putF (forP ns r5.toNat) ka v := by rw [forP_eq hfe, hz2.2, hy2.2, hxs.for']
  repeat' (first | (refine go1 ?_; intros) | (refine vl_caseG rfl rfl rfl rfl ?_ ?_ <;> (intro hb; (try simp only [decide_eq_true_eq, decide_eq_false_iff_not, Bool.not_eq_true', Bool.not_eq_false', ne_eq, Decidable.not_not, Option.isNone_iff_eq_none, not_true_eq_false, not_false_eq_true] at hb); try (exfalso; omega))) | (refine v_cond rfl ?_ ?_ <;> (intro hb; (try simp only [decide_eq_true_eq, decide_eq_false_iff_not, Bool.not_eq_true', Bool.not_eq_false', ne_eq, Decidable.not_not, Option.isNone_iff_eq_none, not_true_eq_false, not_false_eq_true] at hb); try (exfalso; omega))) | fail)
  refine vl_o rfl (vo_call rfl rfl ?_)
  refine vc_mono (tget_vc w0 _ a7 c7 fs s7 ka rfl hof hla) ?_
  rintro u L' ⟨a8, c8, rfl, rfl⟩
  rw [show getT fs s7 ka = v by unfold getT; rw [if_pos hmf, hff]; exact get_put hS hK hla, show hasT fs s7 ka = true by unfold hasT; rw [if_pos hmf, hff]; exact has_put hK hla]
  have okp : PsOk ps := for_ok hok (fun _ _ => rfl) hm.right hps
  have okq : PsOk qs := for_ok hok (fun _ _ => rfl) hm.right hqs
  repeat' (first | (refine goE ?_; intros) | (refine vl_caseG rfl rfl rfl rfl ?_ ?_ <;> (intro hb; (try simp only [decide_eq_true_eq, decide_eq_false_iff_not, Bool.not_eq_true', Bool.not_eq_false', ne_eq, Decidable.not_not, Option.isNone_iff_eq_none, not_true_eq_false, not_false_eq_true] at hb); try (exfalso; omega))) | (refine v_cond rfl ?_ ?_ <;> (intro hb; (try simp only [decide_eq_true_eq, decide_eq_false_iff_not, Bool.not_eq_true', Bool.not_eq_false', ne_eq, Decidable.not_not, Option.isNone_iff_eq_none, not_true_eq_false, not_false_eq_true] at hb); try (exfalso; omega))) | fail)
  refine vl_o rfl (vo_call rfl rfl ?_)
  refine vc_mono (rsame_vc w0 _ a6 c6 qs a1 c1 ps rfl rfl okq okp) ?_
  rintro u L' ⟨rfl, rfl⟩
  rw [decide_eq_true (hqs.trans hps.symm)]
  repeat' (first | (refine goE ?_; intros) | (refine vl_caseG rfl rfl rfl rfl ?_ ?_ <;> (intro hb; (try simp only [decide_eq_true_eq, decide_eq_false_iff_not, Bool.not_eq_true', Bool.not_eq_false', ne_eq, Decidable.not_not, Option.isNone_iff_eq_none, not_true_eq_false, not_false_eq_true] at hb); try (exfalso; omega))) | (refine v_cond rfl ?_ ?_ <;> (intro hb; (try simp only [decide_eq_true_eq, decide_eq_false_iff_not, Bool.not_eq_true', Bool.not_eq_false', ne_eq, Decidable.not_not, Option.isNone_iff_eq_none, not_true_eq_false, not_false_eq_true] at hb); try (exfalso; omega))) | fail)
  refine vl_o rfl (vo_call rfl rfl ?_)
  refine vc_mono (same_vc w0 _ a8 c8 v va vc v rfl rfl) ?_
  rintro u L' ⟨rfl, rfl⟩
  rw [decide_eq_true rfl]
  repeat' (first | (refine goE ?_; intros) | (refine vl_caseG rfl rfl rfl rfl ?_ ?_ <;> (intro hb; (try simp only [decide_eq_true_eq, decide_eq_false_iff_not, Bool.not_eq_true', Bool.not_eq_false', ne_eq, Decidable.not_not, Option.isNone_iff_eq_none, not_true_eq_false, not_false_eq_true] at hb); try (exfalso; omega))) | (refine v_cond rfl ?_ ?_ <;> (intro hb; (try simp only [decide_eq_true_eq, decide_eq_false_iff_not, Bool.not_eq_true', Bool.not_eq_false', ne_eq, Decidable.not_not, Option.isNone_iff_eq_none, not_true_eq_false, not_false_eq_true] at hb); try (exfalso; omega))) | fail)
  exact rfl
end Go.Proofs.YtmaimkbppnpbnaaDoor
