/-
  Shards: the chapter's shard, and what holds of it.
-/
import Derived.Test.YtccbcdhpnkbkgaaDoorShdK
set_option linter.unusedVariables false
set_option linter.unusedSimpArgs false
namespace Go.Proofs.YtccbcdhpnkbkgaaDoor
open Go Go.RowKit
set_option linter.unusedVariables false
set_option linter.unusedSimpArgs false
set_option linter.unusedSectionVars false
open Classical

/-- What is told of a shard: its memory is new; its content is known. -/
def RShC (cs : List LC) (L : List Asn) (v : Value) (L' : List Asn) : Prop := ∃ a c ms, v = .agg #[.slice a ms.length c] ∧ lls ms = cs ∧ LsOk ms ∧ L' = ownLs a c ms :: tsA ms :: L
theorem lls_len' {ms : List Ln} {cs : List LC} (h : lls ms = cs) : ms.length = cs.length := by rw [← h, List.length_map]
set_option maxRecDepth 100000 in
set_option maxHeartbeats 2000000 in
theorem ltwo20_vc (w0 : World) (L : List Asn) [hK : RdA w0 (some ⟨0, 0, none⟩) (wds K64)] :
    VC Tryd.prog w0 30 [] L (RShC cs2 L) := by
  have l1 := Tx.len x1_ok
  have l2 := Tx.len x2_ok
  haveI r0 : ∀ M, RdC w0 M none (lnc []) := fun M => rdC_nil _ _ _
  haveI r1 : ∀ M, RdLs w0 M [] := fun M => rdLs_nil _ _
  haveI o1 : OC x1.cells := oc_tx _
  haveI o2 : OC x2.cells := oc_tx _
  refine vc_ent ?_
  refine vc_in rfl rfl ?_
  repeat' (first | (refine go1 ?_; intros) | ((first | refine vl_caseG rfl rfl rfl rfl ?_ ?_ | refine v_cond rfl ?_ ?_) <;> (intro hb; (try simp only [hq1, hq2, hq3, hq4, ne_eq, hq5, hq6, hq7, hq8] at hb); try (exfalso; omega))) | fail)
  refine vl_o rfl (vo_call rfl rfl ?_)
  refine vc_mono (lone20_vc w0 _ 1 0 5 (by decide) (by decide) rfl rfl rfl) ?_
  rintro v L' ⟨rfl, rfl⟩
  rw [show oneF 1 0 5 = x1 from rfl]
  obtain ⟨c1, hc1⟩ : ∃ c1, c1 = x1.cells := ⟨_, rfl⟩
  rw [← hc1] at l1 o1 ⊢
  repeat' (first | (refine go1 ?_; intros) | ((first | refine vl_caseG rfl rfl rfl rfl ?_ ?_ | refine v_cond rfl ?_ ?_) <;> (intro hb; (try simp only [hq1, hq2, hq3, hq4, ne_eq, hq5, hq6, hq7, hq8] at hb); try (exfalso; omega))) | fail)
  refine vl_o rfl (vo_call rfl rfl ?_)
  rw [hc1]
  refine vc_mono (ssubmit_vc w0 _ none 0 [] 2 0 x1 rfl LsOk.nil (by decide) x1_ok (by decide)) ?_
  rw [show lls [] = [] from rfl, submitS_of may_nil, sub_x1 2 (by decide)]
  rintro v L' ⟨a, c, ms, b, d, rfl, hms, hmo, rfl⟩
  have hms : lls ms = cs1 := hms
  dsimp only
  have hml := lls_len' hms
  repeat' (first | (refine go1 ?_; intros) | ((first | refine vl_caseG rfl rfl rfl rfl ?_ ?_ | refine v_cond rfl ?_ ?_) <;> (intro hb; (try simp only [hq1, hq2, hq3, hq4, ne_eq, hq5, hq6, hq7, hq8] at hb); try (exfalso; omega))) | fail)
  refine v_draw0 [2, 7] (by kernel_rfl) ?_
  refine va_takeA 0 rfl rfl rfl rfl ?_
  refine va_one 1 (by kernel_rfl) rfl rfl ?_
  first | refine vo_call rfl rfl ?_ | refine vo_callV rfl rfl rfl ?_
  refine vc_mono (lone20_vc w0 _ 1 1 5 (by decide) (by decide) rfl rfl rfl) ?_
  rintro v L' ⟨rfl, rfl⟩
  rw [show oneF 1 1 5 = x2 from rfl]
  refine ⟨.inr (sei _ _ _), ?_⟩
  refine va_one 2 (by kernel_rfl) rfl rfl ?_
  first | refine vo_call rfl rfl ?_ | refine vo_callV rfl rfl rfl ?_
  refine vc_mono (ssubmit_vc w0 _ a c ms 2 0 x2 rfl hmo (by rw [hml]; decide) x2_ok (by decide)) ?_
  rw [hms, submitS_of cs1_may.1, sub_x2 2 (by decide)]
  rintro v L' ⟨a2, c2, ms2, b2, d2, rfl, hms2, hmo2, rfl⟩
  have hms2 : lls ms2 = cs2 := hms2
  dsimp only
  refine ⟨.inl (by kernel_rfl), ?_⟩
  refine va_takePA 3 rfl rfl rfl rfl ?_
  refine va_takePA 4 rfl rfl rfl rfl ?_
  refine va_takePA 5 rfl rfl rfl rfl ?_
  refine va_takePA 6 rfl rfl rfl rfl ?_
  refine va_one 7 (by kernel_rfl) rfl rfl ?_
  (first | (refine vo_box rfl rfl rfl ?_; intro _) | (refine vo_alloc rfl ?_; intro _) | (refine vo_isStore ?_; first | (refine vo_isPt0 rfl ?_; refine vo_stWA rfl rfl ?_) | (refine vo_isPt rfl ?_; refine vo_stBA rfl rfl ?_) | (refine vo_stO rfl rfl (by rfl) (by first | rfl | assumption) (by first | assumption | (simp; done) | (simp; omega) | omega) rfl ?_; skip)) | (refine vo_isCall ?_; first | (refine vo_isApp ?_; first | (refine vo_append0A rfl rfl rfl ?_; intro _ _ _ _) | (refine vo_appendA rfl rfl rfl ?_; intro _ _ _ _)) | (refine vo_isCopy ?_; refine vo_copyB rfl rfl rfl (by assumption) (by assumption) (by assumption) (by assumption) ?_) | refine vo_yield rfl rfl rfl rfl rfl ?_ | refine vo_callV rfl rfl rfl (vc_in rfl rfl ?_)) | refine vo_convRow rfl rfl ?_ | (refine vo_isBs ?_; refine vo_buildSlice rfl rfl rfl (by decide) (by repeat' (first | exact trivial | rfl | assumption | refine ⟨?_, ?_⟩ | (simp; done) | (simp; omega))) (by decide) rfl ?_; intro _) | (refine vo_buildSlice0 rfl ?_; intro _) | fail)
  refine ⟨.inl (by kernel_rfl), ?_⟩
  refine va_done (by kernel_rfl) ?_
  skip
  repeat' (first | (refine go1 ?_; intros) | ((first | refine vl_caseG rfl rfl rfl rfl ?_ ?_ | refine v_cond rfl ?_ ?_) <;> (intro hb; (try simp only [hq1, hq2, hq3, hq4, ne_eq, hq5, hq6, hq7, hq8] at hb); try (exfalso; omega))) | fail)
  exact ⟨ownLs a2 c2 ms2 :: tsA ms2 :: L, sei _ _ _, a2, c2, ms2, rfl, hms2, hmo2, rfl⟩
theorem oneF2_ok : (oneF 2 0 5).ok := oneF_ok 2 (by decide) (by decide)
theorem y6_ok : y6.ok := oneF_ok 2 (by decide) (by decide)
theorem ts2_ok : TsOk [x2] := ⟨fun x hx => by rw [List.mem_singleton.1 hx]; exact x2_ok, by decide⟩
set_option maxRecDepth 100000 in
set_option maxHeartbeats 2000000 in
theorem lalive20_vc (w0 : World) (L : List Asn) [hK : RdA w0 (some ⟨0, 0, none⟩) (wds K64)] :
    VC Tryd.prog w0 23 [] L fun v L' => v = .bool true ∧ L' = L := by
  have l1 := Tx.len oneF2_ok
  have l2 := Tx.len y6_ok
  have l3 := Tx.len x2_ok
  haveI o1 : OC (oneF 2 0 5).cells := oc_tx _
  haveI o2 : OC y6.cells := oc_tx _
  haveI o3 : OC x2.cells := oc_tx _
  refine vc_ent ?_
  refine vc_in rfl rfl ?_
  repeat' (first | (refine go1 ?_; intros) | ((first | refine vl_caseG rfl rfl rfl rfl ?_ ?_ | refine v_cond rfl ?_ ?_) <;> (intro hb; (try simp only [hq1, hq2, hq3, hq4, ne_eq, hq5, hq6, hq7, hq8] at hb); try (exfalso; omega))) | fail)
  refine vl_o rfl (vo_call rfl rfl ?_)
  refine vc_mono (ltwo20_vc w0 _) ?_
  rintro v L' ⟨a1, c1, m1, rfl, h1, k1, rfl⟩
  repeat' (first | (refine go1 ?_; intros) | ((first | refine vl_caseG rfl rfl rfl rfl ?_ ?_ | refine v_cond rfl ?_ ?_) <;> (intro hb; (try simp only [hq1, hq2, hq3, hq4, ne_eq, hq5, hq6, hq7, hq8] at hb); try (exfalso; omega))) | fail)
  refine vl_o rfl (vo_call rfl rfl ?_)
  refine vc_mono (lone20_vc w0 _ 2 0 5 (by decide) (by decide) rfl rfl rfl) ?_
  rintro v L' ⟨rfl, rfl⟩
  obtain ⟨xc, hxc⟩ : ∃ xc, xc = (oneF 2 0 5).cells := ⟨_, rfl⟩
  rw [← hxc] at l1 o1 ⊢
  repeat' (first | (refine go1 ?_; intros) | ((first | refine vl_caseG rfl rfl rfl rfl ?_ ?_ | refine v_cond rfl ?_ ?_) <;> (intro hb; (try simp only [hq1, hq2, hq3, hq4, ne_eq, hq5, hq6, hq7, hq8] at hb); try (exfalso; omega))) | fail)
  refine vl_o rfl (vo_call rfl rfl ?_)
  rw [hxc]
  refine vc_mono (ssubmit_vc w0 _ a1 c1 m1 2 0 (oneF 2 0 5) rfl k1 (by rw [lls_len' h1]; decide) oneF2_ok (by decide)) ?_
  rw [h1, submitS_of cs2_may.1, sub_y5]
  rintro v L' ⟨a2, c2, m2, b2, d2, rfl, h2, k2, rfl⟩
  dsimp only
  repeat' (first | (refine go1 ?_; intros) | ((first | refine vl_caseG rfl rfl rfl rfl ?_ ?_ | refine v_cond rfl ?_ ?_) <;> (intro hb; (try simp only [hq1, hq2, hq3, hq4, ne_eq, hq5, hq6, hq7, hq8] at hb); try (exfalso; omega))) | fail)
  refine vl_o rfl (vo_call rfl rfl ?_)
  refine vc_mono (ltwo20_vc w0 _) ?_
  rintro v L' ⟨a3, c3, m3, rfl, h3, k3, rfl⟩
  repeat' (first | (refine go1 ?_; intros) | ((first | refine vl_caseG rfl rfl rfl rfl ?_ ?_ | refine v_cond rfl ?_ ?_) <;> (intro hb; (try simp only [hq1, hq2, hq3, hq4, ne_eq, hq5, hq6, hq7, hq8] at hb); try (exfalso; omega))) | fail)
  refine vl_o rfl (vo_call rfl rfl ?_)
  refine vc_mono (lone20_vc w0 _ 2 0 6 (by decide) (by decide) rfl rfl rfl) ?_
  rintro v L' ⟨rfl, rfl⟩
  rw [show oneF 2 0 6 = y6 from rfl]
  obtain ⟨yc, hyc⟩ : ∃ yc, yc = y6.cells := ⟨_, rfl⟩
  rw [← hyc] at l2 o2 ⊢
  repeat' (first | (refine go1 ?_; intros) | ((first | refine vl_caseG rfl rfl rfl rfl ?_ ?_ | refine v_cond rfl ?_ ?_) <;> (intro hb; (try simp only [hq1, hq2, hq3, hq4, ne_eq, hq5, hq6, hq7, hq8] at hb); try (exfalso; omega))) | fail)
  refine vl_o rfl (vo_call rfl rfl ?_)
  rw [hyc]
  refine vc_mono (ssubmit_vc w0 _ a3 c3 m3 2 0 y6 rfl k3 (by rw [lls_len' h3]; decide) y6_ok (by decide)) ?_
  rw [h3, submitS_of cs2_may.1, sub_y6]
  rintro v L' ⟨a4, c4, m4, b4, d4, rfl, h4, k4, rfl⟩
  dsimp only
  have h4 : lls m4 = cs3 := h4
  have q4 : cntL m4 = 2 := by rw [cntL_lls, h4, cs3_cnt]
  repeat' (first | (refine go1 ?_; intros) | ((first | refine vl_caseG rfl rfl rfl rfl ?_ ?_ | refine v_cond rfl ?_ ?_) <;> (intro hb; (try simp only [hq1, hq2, hq3, hq4, ne_eq, hq5, hq6, hq7, hq8] at hb); try (exfalso; omega))) | fail)
  refine vl_o rfl (vo_call rfl rfl ?_)
  refine vc_mono (ltwo20_vc w0 _) ?_
  rintro v L' ⟨a5, c5, m5, rfl, h5, k5, rfl⟩
  have q5 : cntL m5 = 2 := by rw [cntL_lls, h5]; rfl
  repeat' (first | (refine go1 ?_; intros) | ((first | refine vl_caseG rfl rfl rfl rfl ?_ ?_ | refine v_cond rfl ?_ ?_) <;> (intro hb; (try simp only [hq1, hq2, hq3, hq4, ne_eq, hq5, hq6, hq7, hq8] at hb); try (exfalso; omega))) | fail)
  refine vl_o rfl (vo_call rfl rfl ?_)
  refine vc_mono (scount_vc w0 _ a5 c5 m5 rfl k5) ?_
  rintro v L' ⟨rfl, rfl⟩
  rw [q5]
  repeat' (first | (refine go1 ?_; intros) | ((first | refine vl_caseG rfl rfl rfl rfl ?_ ?_ | refine v_cond rfl ?_ ?_) <;> (intro hb; (try simp only [hq1, hq2, hq3, hq4, ne_eq, hq5, hq6, hq7, hq8] at hb); try (exfalso; omega))) | fail)
  refine vl_o rfl (vo_call rfl rfl ?_)
  refine vc_mono (scount_vc w0 _ a4 c4 m4 rfl k4) ?_
  rintro v L' ⟨rfl, rfl⟩
  rw [q4]
  repeat' (first | (refine go1 ?_; intros) | ((first | refine vl_caseG rfl rfl rfl rfl ?_ ?_ | refine v_cond rfl ?_ ?_) <;> (intro hb; (try simp only [hq1, hq2, hq3, hq4, ne_eq, hq5, hq6, hq7, hq8] at hb); try (exfalso; omega))) | fail)
  refine vl_o rfl (vo_call rfl rfl ?_)
  refine vc_mono (lone20_vc w0 _ 1 1 5 (by decide) (by decide) rfl rfl rfl) ?_
  rintro v L' ⟨rfl, rfl⟩
  rw [show oneF 1 1 5 = x2 from rfl]
  obtain ⟨zc, hzc⟩ : ∃ zc, zc = x2.cells := ⟨_, rfl⟩
  rw [← hzc] at l3 o3 ⊢
  repeat' (first | (refine go1 ?_; intros) | ((first | refine vl_caseG rfl rfl rfl rfl ?_ ?_ | refine v_cond rfl ?_ ?_) <;> (intro hb; (try simp only [hq1, hq2, hq3, hq4, ne_eq, hq5, hq6, hq7, hq8] at hb); try (exfalso; omega))) | fail)
  refine vl_o rfl (vo_call rfl rfl ?_)
  rw [show zc ++ [] = txc [x2] by rw [List.append_nil, hzc]; exact (flat_one x2).symm]
  refine vc_mono (rsameTs_vc w0 _ b4 d4 [x2] _ 1 [x2] rfl rfl ts2_ok ts2_ok) ?_
  rintro v L' ⟨rfl, rfl⟩
  rw [decide_eq_true rfl]
  repeat' (first | (refine go1 ?_; intros) | ((first | refine vl_caseG rfl rfl rfl rfl ?_ ?_ | refine v_cond rfl ?_ ?_) <;> (intro hb; (try simp only [hq1, hq2, hq3, hq4, ne_eq, hq5, hq6, hq7, hq8] at hb); try (exfalso; omega))) | fail)
  exact ⟨L, sei _ _ _, rfl, rfl⟩
end Go.Proofs.YtccbcdhpnkbkgaaDoor
