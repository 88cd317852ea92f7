/-
  Shards: the chapter's examples.
-/
import Derived.Test.YtccbcdhpnkbkgaaDoorShdT
import Derived.Test.YtccbcdhpnkbkgaaDoorShdL
set_option linter.unusedVariables false
set_option linter.unusedSimpArgs false
namespace Go.Proofs.YtccbcdhpnkbkgaaDoor
open Go Go.RowKit
set_option linter.unusedVariables false
set_option linter.unusedSimpArgs false
set_option linter.unusedSectionVars false
open Classical

theorem tsA_capH (w0 : World) (L : List Asn) (ls : List Ln) [h : HasTs L ls] (w : World) (hs : St w0 w L) : ∀ l ∈ ls, l.xs.length ≤ l.c := fun l hl => by
  obtain ⟨i, hi⟩ := h.out
  refine hs.know i hi (fun F hF => ?_)
  obtain ⟨G, h0, hG⟩ := SLs.mem (P := ownTs l.a l.c l.xs) hF (List.mem_map.2 ⟨l, hl, rfl⟩)
  rcases hG with ⟨_, e1, e2⟩ | ⟨g, off, cs, _, _, _, h1, _⟩
  · omega
  · exact h1
theorem may0 : MayP [] 0 := by
  refine ⟨by simp, by simp, by simp, fun i x h => by simp at h, ?_⟩
  rw [show Int.toNat 0 = 0 from rfl, rightP]
  decide
theorem rdNs0 (w0 : World) (L : List Asn) : RdNs w0 L [] := ⟨fun p hp => absurd hp (by simp)⟩
theorem nsOk0 : NsOk [] := ⟨fun p hp => absurd hp (by simp), fun p hp => absurd hp (by simp), by simp⟩
theorem st0 : StP [] 0 := ⟨may0, fun x hx => by simp [forP] at hx⟩
theorem acc0 (k : List UInt8) : nonceA [] 0 k = 0 := by
  unfold nonceA accG
  rw [if_pos st0]
  simp [getA, inP, forP, has]
theorem acc0f : nonceA [] 0 = fun _ => 0 := funext acc0
theorem draw1 : drawQ cs2 [] 0 1 = ([(kF 1, [x2])], [x1], 0) := by
  unfold drawQ
  rw [if_pos ⟨cs2_may.1, st0⟩, acc0f]
  rfl
theorem draw9 : drawQ cs2 [] 0 9 = ([], [x1, x2], 0) := by
  unfold drawQ
  rw [if_pos ⟨cs2_may.1, st0⟩, acc0f]
  rfl
theorem back_x1 : backS (fun _ => 0) [] x1 = some cs1 := by
  unfold backS
  rw [if_neg (by decide), show lineC [] (fromT x1) = [] from rfl, show atT [] x1.nonce = none from rfl]
  dsimp only
  rw [if_neg (by decide)]
  rfl
theorem back_x2 : backS (fun _ => 0) cs1 x2 = some cs2 := by
  unfold backS
  rw [if_neg (by decide), show fromT x2 = kF 1 from rfl, show lineC cs1 (kF 1) = [x1] from lineC_one _ _, show atT [x1] x2.nonce = none from rfl]
  dsimp only
  rw [if_neg (by decide), show setC cs1 (kF 1) (withT [x1] x2) = ownC (kF 1) (withT [x1] x2) from setC_one _ _ _]
  rfl
set_option maxRecDepth 100000 in
theorem back_two : backQ [] [] 0 [x1, x2] = (cs2, 0) := by
  unfold backQ
  rw [if_pos ⟨may_nil, st0⟩, if_pos (fun x hx => by
    simp only [List.mem_cons, List.not_mem_nil, or_false] at hx
    rcases hx with rfl | rfl
    · exact oneF_sign 1 0 5
    · exact oneF_sign 1 1 5), acc0f]
  have e : backC (fun _ => 0) [] [x1, x2] = some cs2 := by
    show ((some ([] : List LC)).bind fun cs => backS (fun _ => 0) cs x1).bind (fun cs => backS (fun _ => 0) cs x2) = _
    rw [Option.bind_some, back_x1, Option.bind_some, back_x2]
  rw [e]
def xF : Tx := oneF 1 16 9
def xS : Tx := oneF 1 0 9
theorem xF_ok : xF.ok := oneF_ok 1 (by decide) (by decide)
theorem xS_ok : xS.ok := oneF_ok 1 (by decide) (by decide)
theorem sub_far : submitS cs2 9 0 xF = ([], [], 201) := by
  rw [submitS_of cs2_may.1]
  unfold submitC
  rw [if_pos (show xF.sign = sgn xF from oneF_sign 1 16 9), if_neg (by decide), if_pos (by decide)]
theorem sub_stale : submitS cs2 9 1 xS = ([], [], 200) := by
  rw [submitS_of cs2_may.1]
  unfold submitC
  rw [if_pos (show xS.sign = sgn xS from oneF_sign 1 0 9), if_pos (by decide)]
theorem sub_zero : submitS cs2 9 0 zTx = ([], [], 110) := by
  rw [submitS_of cs2_may.1]
  unfold submitC
  rw [if_neg zTx_unsigned]
set_option maxRecDepth 100000 in
theorem zTx_cells : bvs (List.replicate 32 0) ++ (bvs (List.replicate 32 0) ++ (.int .u64 0 :: (.int .u64 0 :: (.int .u64 0 :: bvs (List.replicate 32 0))))) = zTx.cells := rfl
theorem ts1_ok : TsOk [x1] := ⟨fun x hx => by rw [List.mem_singleton.1 hx]; exact x1_ok, by decide⟩
theorem ts12_ok : TsOk [x1, x2] := ⟨fun x hx => by
  simp only [List.mem_cons, List.not_mem_nil, or_false] at hx
  rcases hx with rfl | rfl
  · exact x1_ok
  · exact x2_ok, by decide⟩
theorem cs2_ls {ms : List Ln} (h : lls ms = cs2) : ms.length = 1 ∧ ∀ l ∈ ms, l.xs.length ≤ 20 := by
  refine ⟨lls_len' h, fun l hl => ?_⟩
  have : l.pl ∈ cs2 := by rw [← h]; exact List.mem_map.2 ⟨l, hl, rfl⟩
  rw [show l.xs = [x1, x2] from congrArg Prod.snd (List.mem_singleton.1 this)]
  simp
set_option maxRecDepth 100000 in
set_option maxHeartbeats 8000000 in
theorem shardNames_vc (w0 : World) [hK : RdA w0 (some ⟨0, 0, none⟩) (wds K64)] :
    VC Tryd.prog w0 7 [] [] fun v L' => v = .bool true := by
  have l1 := Tx.len x1_ok
  have l2 := Tx.len xF_ok
  have l3 := Tx.len xS_ok
  haveI rn : ∀ M, RdC w0 M none (ndc []) := fun M => rdC_nil _ _ _
  haveI rn2 : ∀ M, RdNs w0 M [] := fun M => rdNs0 _ _
  refine vc_in rfl rfl ?_
  repeat' (first | (refine go1 ?_; intros) | ((first | refine vl_caseG rfl rfl rfl rfl ?_ ?_ | refine v_cond rfl ?_ ?_) <;> (intro hb; (try simp only [hq1, hq2, hq3, hq4, ne_eq, hq5, hq6, hq7, hq8] at hb); try (exfalso; omega))) | fail)
  refine vl_o rfl (vo_call rfl rfl ?_)
  refine vc_mono (ltwo20_vc w0 _) ?_
  rintro v L' ⟨a1, c1, m1, rfl, h1, k1, rfl⟩
  repeat' (first | (refine go1 ?_; intros) | ((first | refine vl_caseG rfl rfl rfl rfl ?_ ?_ | refine v_cond rfl ?_ ?_) <;> (intro hb; (try simp only [hq1, hq2, hq3, hq4, ne_eq, hq5, hq6, hq7, hq8] at hb); try (exfalso; omega))) | fail)
  refine vl_o rfl (vo_call rfl rfl ?_)
  refine vc_mono (lone20_vc w0 _ 1 16 9 (by decide) (by decide) rfl rfl rfl) ?_
  rintro v L' ⟨rfl, rfl⟩
  rw [show oneF 1 16 9 = xF from rfl]
  haveI o2 : OC xF.cells := oc_tx _
  obtain ⟨fc, hfc⟩ : ∃ fc, fc = xF.cells := ⟨_, rfl⟩
  rw [← hfc] at l2 o2 ⊢
  repeat' (first | (refine go1 ?_; intros) | ((first | refine vl_caseG rfl rfl rfl rfl ?_ ?_ | refine v_cond rfl ?_ ?_) <;> (intro hb; (try simp only [hq1, hq2, hq3, hq4, ne_eq, hq5, hq6, hq7, hq8] at hb); try (exfalso; omega))) | fail)
  refine vl_o rfl (vo_call rfl rfl ?_)
  rw [hfc]
  refine vc_mono (ssubmit_vc w0 _ a1 c1 m1 9 0 xF rfl k1 (by rw [(cs2_ls h1).1]; decide) xF_ok (by decide)) ?_
  rw [h1, sub_far]
  rintro v L' ⟨a2, c2, m2, b2, d2, rfl, h2, k2, rfl⟩
  dsimp only
  repeat' (first | (refine go1 ?_; intros) | ((first | refine vl_caseG rfl rfl rfl rfl ?_ ?_ | refine v_cond rfl ?_ ?_) <;> (intro hb; (try simp only [hq1, hq2, hq3, hq4, ne_eq, hq5, hq6, hq7, hq8] at hb); try (exfalso; omega))) | fail)
  refine vl_o rfl (vo_call rfl rfl ?_)
  refine vc_mono (ltwo20_vc w0 _) ?_
  rintro v L' ⟨a3, c3, m3, rfl, h3, k3, rfl⟩
  repeat' (first | (refine go1 ?_; intros) | ((first | refine vl_caseG rfl rfl rfl rfl ?_ ?_ | refine v_cond rfl ?_ ?_) <;> (intro hb; (try simp only [hq1, hq2, hq3, hq4, ne_eq, hq5, hq6, hq7, hq8] at hb); try (exfalso; omega))) | fail)
  refine vl_o rfl (vo_call rfl rfl ?_)
  refine vc_mono (lone20_vc w0 _ 1 0 9 (by decide) (by decide) rfl rfl rfl) ?_
  rintro v L' ⟨rfl, rfl⟩
  rw [show oneF 1 0 9 = xS from rfl]
  haveI o3 : OC xS.cells := oc_tx _
  obtain ⟨sc, hsc⟩ : ∃ sc, sc = xS.cells := ⟨_, rfl⟩
  rw [← hsc] at l3 o3 ⊢
  repeat' (first | (refine go1 ?_; intros) | ((first | refine vl_caseG rfl rfl rfl rfl ?_ ?_ | refine v_cond rfl ?_ ?_) <;> (intro hb; (try simp only [hq1, hq2, hq3, hq4, ne_eq, hq5, hq6, hq7, hq8] at hb); try (exfalso; omega))) | fail)
  refine vl_o rfl (vo_call rfl rfl ?_)
  rw [hsc]
  refine vc_mono (ssubmit_vc w0 _ a3 c3 m3 9 1 xS rfl k3 (by rw [(cs2_ls h3).1]; decide) xS_ok (by decide)) ?_
  rw [h3, sub_stale]
  rintro v L' ⟨a4, c4, m4, b4, d4, rfl, h4, k4, rfl⟩
  dsimp only
  repeat' (first | (refine go1 ?_; intros) | ((first | refine vl_caseG rfl rfl rfl rfl ?_ ?_ | refine v_cond rfl ?_ ?_) <;> (intro hb; (try simp only [hq1, hq2, hq3, hq4, ne_eq, hq5, hq6, hq7, hq8] at hb); try (exfalso; omega))) | fail)
  refine vl_o rfl (vo_call rfl rfl ?_)
  refine vc_mono (ltwo20_vc w0 _) ?_
  rintro v L' ⟨a5, c5, m5, rfl, h5, k5, rfl⟩
  refine vl_know (φ := ∀ l ∈ m5, l.xs.length ≤ l.c) (fun w hs => tsA_capH w0 _ m5 w hs) (fun hc5 => ?_)
  repeat' (first | (refine go1 ?_; intros) | ((first | refine vl_caseG rfl rfl rfl rfl ?_ ?_ | refine v_cond rfl ?_ ?_) <;> (intro hb; (try simp only [hq1, hq2, hq3, hq4, ne_eq, hq5, hq6, hq7, hq8] at hb); try (exfalso; omega))) | fail)
  refine vl_o rfl (vo_call rfl rfl ?_)
  refine vc_mono (sdraw_vc w0 _ a5 c5 m5 none 0 [] 0 1 rfl rfl k5 (by rw [(cs2_ls h5).1]; decide) (cs2_ls h5).2 hc5 nsOk0 (by decide)) ?_
  rw [h5, draw1]
  rintro v L' ⟨a6, c6, m6, b6, d6, rfl, h6, k6, rfl⟩
  dsimp only
  repeat' (first | (refine go1 ?_; intros) | ((first | refine vl_caseG rfl rfl rfl rfl ?_ ?_ | refine v_cond rfl ?_ ?_) <;> (intro hb; (try simp only [hq1, hq2, hq3, hq4, ne_eq, hq5, hq6, hq7, hq8] at hb); try (exfalso; omega))) | fail)
  refine vl_o rfl (vo_call rfl rfl ?_)
  refine vc_mono (ltwo20_vc w0 _) ?_
  rintro v L' ⟨a7, c7, m7, rfl, h7, k7, rfl⟩
  refine vl_know (φ := ∀ l ∈ m7, l.xs.length ≤ l.c) (fun w hs => tsA_capH w0 _ m7 w hs) (fun hc7 => ?_)
  repeat' (first | (refine go1 ?_; intros) | ((first | refine vl_caseG rfl rfl rfl rfl ?_ ?_ | refine v_cond rfl ?_ ?_) <;> (intro hb; (try simp only [hq1, hq2, hq3, hq4, ne_eq, hq5, hq6, hq7, hq8] at hb); try (exfalso; omega))) | fail)
  refine vl_o rfl (vo_call rfl rfl ?_)
  refine vc_mono (sdraw_vc w0 _ a7 c7 m7 none 0 [] 0 9 rfl rfl k7 (by rw [(cs2_ls h7).1]; decide) (cs2_ls h7).2 hc7 nsOk0 (by decide)) ?_
  rw [h7, draw9]
  rintro v L' ⟨a8, c8, m8, b8, d8, rfl, h8, k8, rfl⟩
  obtain rfl : m8 = [] := List.map_eq_nil_iff.1 h8
  dsimp only
  repeat' (first | (refine go1 ?_; intros) | ((first | refine vl_caseG rfl rfl rfl rfl ?_ ?_ | refine v_cond rfl ?_ ?_) <;> (intro hb; (try simp only [hq1, hq2, hq3, hq4, ne_eq, hq5, hq6, hq7, hq8] at hb); try (exfalso; omega))) | fail)
  refine vl_o rfl (vo_call rfl rfl ?_)
  refine vc_mono (ltwo20_vc w0 _) ?_
  rintro v L' ⟨a9, c9, m9, rfl, h9, k9, rfl⟩
  have lz := Tx.len zTx_ok
  haveI oz : OC zTx.cells := oc_tx _
  repeat' (first | (refine go1 ?_; intros) | ((first | refine vl_caseG rfl rfl rfl rfl ?_ ?_ | refine v_cond rfl ?_ ?_) <;> (intro hb; (try simp only [hq1, hq2, hq3, hq4, ne_eq, hq5, hq6, hq7, hq8] at hb); try (exfalso; omega))) | fail)
  rw [zTx_cells]
  obtain ⟨zc, hzc⟩ : ∃ zc, zc = zTx.cells := ⟨_, rfl⟩
  rw [← hzc] at lz oz ⊢
  refine vl_o rfl (vo_call rfl rfl ?_)
  rw [hzc]
  refine vc_mono (ssubmit_vc w0 _ a9 c9 m9 9 0 zTx rfl k9 (by rw [(cs2_ls h9).1]; decide) zTx_ok (by decide)) ?_
  rw [h9, sub_zero]
  rintro v L' ⟨aA, cA, mA, bA, dA, rfl, hA, kA, rfl⟩
  dsimp only
  repeat' (first | (refine go1 ?_; intros) | ((first | refine vl_caseG rfl rfl rfl rfl ?_ ?_ | refine v_cond rfl ?_ ?_) <;> (intro hb; (try simp only [hq1, hq2, hq3, hq4, ne_eq, hq5, hq6, hq7, hq8] at hb); try (exfalso; omega))) | fail)
  refine vl_o rfl (vo_call rfl rfl ?_)
  haveI r0 : ∀ M, RdLs w0 M [] := fun M => rdLs_nil _ _
  refine vc_mono (sback_vc w0 _ a8 c8 [] none 0 [] 0 b8 d8 [x1, x2] rfl rfl rfl LsOk.nil (by decide) nsOk0 ts12_ok (by decide)) ?_
  rw [show lls [] = [] from rfl, back_two]
  rintro v L' ⟨aB, cB, mB, rfl, hB, kB, rfl⟩
  have hB : lls mB = cs2 := hB
  dsimp only
  repeat' (first | (refine go1 ?_; intros) | ((first | refine vl_caseG rfl rfl rfl rfl ?_ ?_ | refine v_cond rfl ?_ ?_) <;> (intro hb; (try simp only [hq1, hq2, hq3, hq4, ne_eq, hq5, hq6, hq7, hq8] at hb); try (exfalso; omega))) | fail)
  (refine v_draw0 [] (by kernel_rfl) ?_ <;> (refine va_takeA 0 rfl rfl rfl rfl ?_))
  first | refine va_oneG 1 (by kernel_rfl) rfl rfl rfl rfl rfl rfl (vo_call rfl rfl ?_) | refine va_oneG 1 (by kernel_rfl) rfl rfl rfl rfl rfl rfl (vo_callV rfl rfl rfl ?_)
  refine vc_mono (lalive20_vc w0 _) ?_
  rintro u L' ⟨rfl, rfl⟩
  refine ⟨.inr (SE.ent (by repeat' (first | exact SE.refl _ | refine SE.cons _ ?_ | refine SE.trans (se_drop _ _) ?_)) _), ?_⟩
  ((refine va_takeA 2 rfl rfl rfl rfl ?_) <;> (refine va_takeA 3 rfl rfl rfl rfl ?_) <;> (first | refine va_takeGA 4 rfl rfl rfl rfl rfl rfl rfl rfl ?_ | refine va_passGA 4 rfl rfl rfl rfl rfl rfl rfl rfl ?_ | (refine va_caseG 4 rfl rfl rfl rfl rfl ?_ ?_ <;> (intro hb; (try simp only [hq1, hq2, hq3, hq4, ne_eq, hq5, hq6, hq7, hq8] at hb); try (exfalso; omega)) <;> first | refine va_takeGA 4 rfl rfl rfl rfl rfl rfl rfl rfl ?_ | refine va_passGA 4 rfl rfl rfl rfl rfl rfl rfl rfl ?_)) <;> (first | refine va_takeGA 5 rfl rfl rfl rfl rfl rfl rfl rfl ?_ | refine va_passGA 5 rfl rfl rfl rfl rfl rfl rfl rfl ?_ | (refine va_caseG 5 rfl rfl rfl rfl rfl ?_ ?_ <;> (intro hb; (try simp only [hq1, hq2, hq3, hq4, ne_eq, hq5, hq6, hq7, hq8] at hb); try (exfalso; omega)) <;> first | refine va_takeGA 5 rfl rfl rfl rfl rfl rfl rfl rfl ?_ | refine va_passGA 5 rfl rfl rfl rfl rfl rfl rfl rfl ?_)) <;> (refine va_takeA 6 rfl rfl rfl rfl ?_) <;> (refine va_takeA 7 rfl rfl rfl rfl ?_) <;> (first | refine va_takeGA 8 rfl rfl rfl rfl rfl rfl rfl rfl ?_ | refine va_passGA 8 rfl rfl rfl rfl rfl rfl rfl rfl ?_ | (refine va_caseG 8 rfl rfl rfl rfl rfl ?_ ?_ <;> (intro hb; (try simp only [hq1, hq2, hq3, hq4, ne_eq, hq5, hq6, hq7, hq8] at hb); try (exfalso; omega)) <;> first | refine va_takeGA 8 rfl rfl rfl rfl rfl rfl rfl rfl ?_ | refine va_passGA 8 rfl rfl rfl rfl rfl rfl rfl rfl ?_)) <;> (first | refine va_takeGA 9 rfl rfl rfl rfl rfl rfl rfl rfl ?_ | refine va_passGA 9 rfl rfl rfl rfl rfl rfl rfl rfl ?_ | (refine va_caseG 9 rfl rfl rfl rfl rfl ?_ ?_ <;> (intro hb; (try simp only [hq1, hq2, hq3, hq4, ne_eq, hq5, hq6, hq7, hq8] at hb); try (exfalso; omega)) <;> first | refine va_takeGA 9 rfl rfl rfl rfl rfl rfl rfl rfl ?_ | refine va_passGA 9 rfl rfl rfl rfl rfl rfl rfl rfl ?_)) <;> (refine va_takeA 10 rfl rfl rfl rfl ?_) <;> (refine va_takeA 11 rfl rfl rfl rfl ?_) <;> (first | refine va_takeGA 12 rfl rfl rfl rfl rfl rfl rfl rfl ?_ | refine va_passGA 12 rfl rfl rfl rfl rfl rfl rfl rfl ?_ | (refine va_caseG 12 rfl rfl rfl rfl rfl ?_ ?_ <;> (intro hb; (try simp only [hq1, hq2, hq3, hq4, ne_eq, hq5, hq6, hq7, hq8] at hb); try (exfalso; omega)) <;> first | refine va_takeGA 12 rfl rfl rfl rfl rfl rfl rfl rfl ?_ | refine va_passGA 12 rfl rfl rfl rfl rfl rfl rfl rfl ?_)) <;> (first | refine va_takeGA 13 rfl rfl rfl rfl rfl rfl rfl rfl ?_ | refine va_passGA 13 rfl rfl rfl rfl rfl rfl rfl rfl ?_ | (refine va_caseG 13 rfl rfl rfl rfl rfl ?_ ?_ <;> (intro hb; (try simp only [hq1, hq2, hq3, hq4, ne_eq, hq5, hq6, hq7, hq8] at hb); try (exfalso; omega)) <;> first | refine va_takeGA 13 rfl rfl rfl rfl rfl rfl rfl rfl ?_ | refine va_passGA 13 rfl rfl rfl rfl rfl rfl rfl rfl ?_)) <;> (refine va_takeA 14 rfl rfl rfl rfl ?_) <;> (refine va_takeA 15 rfl rfl rfl rfl ?_) <;> (first | refine va_takeGA 16 rfl rfl rfl rfl rfl rfl rfl rfl ?_ | refine va_passGA 16 rfl rfl rfl rfl rfl rfl rfl rfl ?_ | (refine va_caseG 16 rfl rfl rfl rfl rfl ?_ ?_ <;> (intro hb; (try simp only [hq1, hq2, hq3, hq4, ne_eq, hq5, hq6, hq7, hq8] at hb); try (exfalso; omega)) <;> first | refine va_takeGA 16 rfl rfl rfl rfl rfl rfl rfl rfl ?_ | refine va_passGA 16 rfl rfl rfl rfl rfl rfl rfl rfl ?_)))
  first | refine va_oneG 17 (by kernel_rfl) rfl rfl rfl rfl rfl rfl (vo_call rfl rfl ?_) | refine va_oneG 17 (by kernel_rfl) rfl rfl rfl rfl rfl rfl (vo_callV rfl rfl rfl ?_)
  refine vc_mono (lone20_vc w0 _ 1 0 5 (by decide) (by decide) rfl rfl rfl) ?_
  rintro u L' ⟨rfl, rfl⟩
  rw [show oneF 1 0 5 = x1 from rfl]
  have l4 := Tx.len x1_ok
  haveI o4 : OC x1.cells := oc_tx _
  obtain ⟨vc, hvc⟩ : ∃ vc, vc = x1.cells := ⟨_, rfl⟩
  rw [← hvc] at l4 o4 ⊢
  refine ⟨.inr (SE.ent (by repeat' (first | exact SE.refl _ | refine SE.cons _ ?_ | refine SE.trans (se_drop _ _) ?_)) _), ?_⟩
  (((refine va_oneG 18 (by kernel_rfl) rfl rfl rfl rfl rfl rfl ?_); (first | (refine vo_box rfl rfl rfl ?_; intro _) | (refine vo_alloc rfl ?_; intro _) | (refine vo_isStore ?_; first | (refine vo_isPt0 rfl ?_; refine vo_stWA rfl rfl ?_) | (refine vo_isPt rfl ?_; refine vo_stBA rfl rfl ?_) | (refine vo_stO rfl rfl (by rfl) (by first | rfl | assumption) (by first | assumption | (simp; done) | (simp; omega) | omega) rfl ?_; skip)) | (refine vo_isCall ?_; first | (refine vo_isApp ?_; first | (refine vo_append0A rfl rfl rfl ?_; intro _ _ _ _) | (refine vo_appendA rfl rfl rfl ?_; intro _ _ _ _)) | (refine vo_isCopy ?_; refine vo_copyB rfl rfl rfl (by assumption) (by assumption) (by assumption) (by assumption) ?_) | refine vo_yield rfl rfl rfl rfl rfl ?_ | refine vo_callV rfl rfl rfl (vc_in rfl rfl ?_)) | refine vo_convRow rfl rfl ?_ | (refine vo_isBs ?_; refine vo_buildSlice rfl rfl rfl (by decide) (by repeat' (first | exact trivial | rfl | assumption | refine ⟨?_, ?_⟩ | (simp; done) | (simp; omega))) (by decide) rfl ?_; intro _) | (refine vo_buildSlice0 rfl ?_; intro _) | fail); refine ⟨.inr (SE.ent (by repeat' (first | exact SE.refl _ | refine SE.cons _ ?_ | refine SE.trans (se_drop _ _) ?_)) _), ?_⟩))
  first | refine va_oneG 19 (by kernel_rfl) rfl rfl rfl rfl rfl rfl (vo_call rfl rfl ?_) | refine va_oneG 19 (by kernel_rfl) rfl rfl rfl rfl rfl rfl (vo_callV rfl rfl rfl ?_)
  rw [show vc ++ [] = txc [x1] by rw [List.append_nil, hvc]; exact (flat_one x1).symm]
  refine vc_mono (rsameTs_vc w0 _ b6 d6 [x1] _ 1 [x1] rfl rfl ts1_ok ts1_ok) ?_
  rintro u L' ⟨rfl, rfl⟩
  rw [decide_eq_true rfl]
  refine ⟨.inr (SE.ent (by repeat' (first | exact SE.refl _ | refine SE.cons _ ?_ | refine SE.trans (se_drop _ _) ?_)) _), ?_⟩
  ((refine va_takeA 20 rfl rfl rfl rfl ?_) <;> (refine va_takeA 21 rfl rfl rfl rfl ?_) <;> (first | refine va_takeGA 22 rfl rfl rfl rfl rfl rfl rfl rfl ?_ | refine va_passGA 22 rfl rfl rfl rfl rfl rfl rfl rfl ?_ | (refine va_caseG 22 rfl rfl rfl rfl rfl ?_ ?_ <;> (intro hb; (try simp only [hq1, hq2, hq3, hq4, ne_eq, hq5, hq6, hq7, hq8] at hb); try (exfalso; omega)) <;> first | refine va_takeGA 22 rfl rfl rfl rfl rfl rfl rfl rfl ?_ | refine va_passGA 22 rfl rfl rfl rfl rfl rfl rfl rfl ?_)) <;> (first | refine va_takeGA 23 rfl rfl rfl rfl rfl rfl rfl rfl ?_ | refine va_passGA 23 rfl rfl rfl rfl rfl rfl rfl rfl ?_ | (refine va_caseG 23 rfl rfl rfl rfl rfl ?_ ?_ <;> (intro hb; (try simp only [hq1, hq2, hq3, hq4, ne_eq, hq5, hq6, hq7, hq8] at hb); try (exfalso; omega)) <;> first | refine va_takeGA 23 rfl rfl rfl rfl rfl rfl rfl rfl ?_ | refine va_passGA 23 rfl rfl rfl rfl rfl rfl rfl rfl ?_)) <;> (refine va_takeA 24 rfl rfl rfl rfl ?_) <;> (refine va_takeA 25 rfl rfl rfl rfl ?_) <;> (first | refine va_takeGA 26 rfl rfl rfl rfl rfl rfl rfl rfl ?_ | refine va_passGA 26 rfl rfl rfl rfl rfl rfl rfl rfl ?_ | (refine va_caseG 26 rfl rfl rfl rfl rfl ?_ ?_ <;> (intro hb; (try simp only [hq1, hq2, hq3, hq4, ne_eq, hq5, hq6, hq7, hq8] at hb); try (exfalso; omega)) <;> first | refine va_takeGA 26 rfl rfl rfl rfl rfl rfl rfl rfl ?_ | refine va_passGA 26 rfl rfl rfl rfl rfl rfl rfl rfl ?_)) <;> (first | refine va_takeGA 27 rfl rfl rfl rfl rfl rfl rfl rfl ?_ | refine va_passGA 27 rfl rfl rfl rfl rfl rfl rfl rfl ?_ | (refine va_caseG 27 rfl rfl rfl rfl rfl ?_ ?_ <;> (intro hb; (try simp only [hq1, hq2, hq3, hq4, ne_eq, hq5, hq6, hq7, hq8] at hb); try (exfalso; omega)) <;> first | refine va_takeGA 27 rfl rfl rfl rfl rfl rfl rfl rfl ?_ | refine va_passGA 27 rfl rfl rfl rfl rfl rfl rfl rfl ?_)) <;> (first | refine va_takeGA 28 rfl rfl rfl rfl rfl rfl rfl rfl ?_ | refine va_passGA 28 rfl rfl rfl rfl rfl rfl rfl rfl ?_ | (refine va_caseG 28 rfl rfl rfl rfl rfl ?_ ?_ <;> (intro hb; (try simp only [hq1, hq2, hq3, hq4, ne_eq, hq5, hq6, hq7, hq8] at hb); try (exfalso; omega)) <;> first | refine va_takeGA 28 rfl rfl rfl rfl rfl rfl rfl rfl ?_ | refine va_passGA 28 rfl rfl rfl rfl rfl rfl rfl rfl ?_)) <;> (refine va_takeA 29 rfl rfl rfl rfl ?_) <;> (refine va_takeA 30 rfl rfl rfl rfl ?_) <;> (first | refine va_takeGA 31 rfl rfl rfl rfl rfl rfl rfl rfl ?_ | refine va_passGA 31 rfl rfl rfl rfl rfl rfl rfl rfl ?_ | (refine va_caseG 31 rfl rfl rfl rfl rfl ?_ ?_ <;> (intro hb; (try simp only [hq1, hq2, hq3, hq4, ne_eq, hq5, hq6, hq7, hq8] at hb); try (exfalso; omega)) <;> first | refine va_takeGA 31 rfl rfl rfl rfl rfl rfl rfl rfl ?_ | refine va_passGA 31 rfl rfl rfl rfl rfl rfl rfl rfl ?_)) <;> (first | refine va_takeGA 32 rfl rfl rfl rfl rfl rfl rfl rfl ?_ | refine va_passGA 32 rfl rfl rfl rfl rfl rfl rfl rfl ?_ | (refine va_caseG 32 rfl rfl rfl rfl rfl ?_ ?_ <;> (intro hb; (try simp only [hq1, hq2, hq3, hq4, ne_eq, hq5, hq6, hq7, hq8] at hb); try (exfalso; omega)) <;> first | refine va_takeGA 32 rfl rfl rfl rfl rfl rfl rfl rfl ?_ | refine va_passGA 32 rfl rfl rfl rfl rfl rfl rfl rfl ?_)) <;> (first | refine va_takeGA 33 rfl rfl rfl rfl rfl rfl rfl rfl ?_ | refine va_passGA 33 rfl rfl rfl rfl rfl rfl rfl rfl ?_ | (refine va_caseG 33 rfl rfl rfl rfl rfl ?_ ?_ <;> (intro hb; (try simp only [hq1, hq2, hq3, hq4, ne_eq, hq5, hq6, hq7, hq8] at hb); try (exfalso; omega)) <;> first | refine va_takeGA 33 rfl rfl rfl rfl rfl rfl rfl rfl ?_ | refine va_passGA 33 rfl rfl rfl rfl rfl rfl rfl rfl ?_)) <;> (first | refine va_takeGA 34 rfl rfl rfl rfl rfl rfl rfl rfl ?_ | refine va_passGA 34 rfl rfl rfl rfl rfl rfl rfl rfl ?_ | (refine va_caseG 34 rfl rfl rfl rfl rfl ?_ ?_ <;> (intro hb; (try simp only [hq1, hq2, hq3, hq4, ne_eq, hq5, hq6, hq7, hq8] at hb); try (exfalso; omega)) <;> first | refine va_takeGA 34 rfl rfl rfl rfl rfl rfl rfl rfl ?_ | refine va_passGA 34 rfl rfl rfl rfl rfl rfl rfl rfl ?_)) <;> (refine va_takeA 35 rfl rfl rfl rfl ?_) <;> (refine va_takeA 36 rfl rfl rfl rfl ?_) <;> (first | refine va_takeGA 37 rfl rfl rfl rfl rfl rfl rfl rfl ?_ | refine va_passGA 37 rfl rfl rfl rfl rfl rfl rfl rfl ?_ | (refine va_caseG 37 rfl rfl rfl rfl rfl ?_ ?_ <;> (intro hb; (try simp only [hq1, hq2, hq3, hq4, ne_eq, hq5, hq6, hq7, hq8] at hb); try (exfalso; omega)) <;> first | refine va_takeGA 37 rfl rfl rfl rfl rfl rfl rfl rfl ?_ | refine va_passGA 37 rfl rfl rfl rfl rfl rfl rfl rfl ?_)) <;> (first | refine va_takeGA 38 rfl rfl rfl rfl rfl rfl rfl rfl ?_ | refine va_passGA 38 rfl rfl rfl rfl rfl rfl rfl rfl ?_ | (refine va_caseG 38 rfl rfl rfl rfl rfl ?_ ?_ <;> (intro hb; (try simp only [hq1, hq2, hq3, hq4, ne_eq, hq5, hq6, hq7, hq8] at hb); try (exfalso; omega)) <;> first | refine va_takeGA 38 rfl rfl rfl rfl rfl rfl rfl rfl ?_ | refine va_passGA 38 rfl rfl rfl rfl rfl rfl rfl rfl ?_)) <;> (refine va_takeA 39 rfl rfl rfl rfl ?_) <;> (refine va_takeA 40 rfl rfl rfl rfl ?_) <;> (first | refine va_takeGA 41 rfl rfl rfl rfl rfl rfl rfl rfl ?_ | refine va_passGA 41 rfl rfl rfl rfl rfl rfl rfl rfl ?_ | (refine va_caseG 41 rfl rfl rfl rfl rfl ?_ ?_ <;> (intro hb; (try simp only [hq1, hq2, hq3, hq4, ne_eq, hq5, hq6, hq7, hq8] at hb); try (exfalso; omega)) <;> first | refine va_takeGA 41 rfl rfl rfl rfl rfl rfl rfl rfl ?_ | refine va_passGA 41 rfl rfl rfl rfl rfl rfl rfl rfl ?_)) <;> (first | refine va_takeGA 42 rfl rfl rfl rfl rfl rfl rfl rfl ?_ | refine va_passGA 42 rfl rfl rfl rfl rfl rfl rfl rfl ?_ | (refine va_caseG 42 rfl rfl rfl rfl rfl ?_ ?_ <;> (intro hb; (try simp only [hq1, hq2, hq3, hq4, ne_eq, hq5, hq6, hq7, hq8] at hb); try (exfalso; omega)) <;> first | refine va_takeGA 42 rfl rfl rfl rfl rfl rfl rfl rfl ?_ | refine va_passGA 42 rfl rfl rfl rfl rfl rfl rfl rfl ?_)) <;> (refine va_takeA 43 rfl rfl rfl rfl ?_) <;> (refine va_takeA 44 rfl rfl rfl rfl ?_) <;> (first | refine va_takeGA 45 rfl rfl rfl rfl rfl rfl rfl rfl ?_ | refine va_passGA 45 rfl rfl rfl rfl rfl rfl rfl rfl ?_ | (refine va_caseG 45 rfl rfl rfl rfl rfl ?_ ?_ <;> (intro hb; (try simp only [hq1, hq2, hq3, hq4, ne_eq, hq5, hq6, hq7, hq8] at hb); try (exfalso; omega)) <;> first | refine va_takeGA 45 rfl rfl rfl rfl rfl rfl rfl rfl ?_ | refine va_passGA 45 rfl rfl rfl rfl rfl rfl rfl rfl ?_)))
  first | refine va_oneG 46 (by kernel_rfl) rfl rfl rfl rfl rfl rfl (vo_call rfl rfl ?_) | refine va_oneG 46 (by kernel_rfl) rfl rfl rfl rfl rfl rfl (vo_callV rfl rfl rfl ?_)
  refine vc_mono (ltwo20_vc w0 _) ?_
  rintro u L' ⟨aC, cC, mC, rfl, hC, kC, rfl⟩
  refine ⟨.inr (SE.ent (by repeat' (first | exact SE.refl _ | refine SE.cons _ ?_ | refine SE.trans (se_drop _ _) ?_)) _), ?_⟩
  skip
  first | refine va_oneG 47 (by kernel_rfl) rfl rfl rfl rfl rfl rfl (vo_call rfl rfl ?_) | refine va_oneG 47 (by kernel_rfl) rfl rfl rfl rfl rfl rfl (vo_callV rfl rfl rfl ?_)
  refine vc_mono (rsame20_vc w0 _ aB cB mB aC cC mC rfl rfl kB kC) ?_
  rintro u L' ⟨rfl, rfl⟩
  rw [decide_eq_true (hB.trans hC.symm)]
  refine ⟨.inr (SE.ent (by repeat' (first | exact SE.refl _ | refine SE.cons _ ?_ | refine SE.trans (se_drop _ _) ?_)) _), ?_⟩
  ((refine va_takeA 48 rfl rfl rfl rfl ?_) <;> (refine va_takeA 49 rfl rfl rfl rfl ?_) <;> (refine va_done (by kernel_rfl) ?_))
  repeat' (first | (refine go1 ?_; intros) | ((first | refine vl_caseG rfl rfl rfl rfl ?_ ?_ | refine v_cond rfl ?_ ?_) <;> (intro hb; (try simp only [hq1, hq2, hq3, hq4, ne_eq, hq5, hq6, hq7, hq8] at hb); try (exfalso; omega))) | fail)
  exact rfl
end Go.Proofs.YtccbcdhpnkbkgaaDoor
