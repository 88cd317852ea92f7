/-
  The chapter's examples of pairs: the law.
-/
import Derived.Test.YtmfpiodcioakhaaDoorGM
import Derived.Test.YtmfpiodcioakhaaDoorGJ
import Derived.Test.YtmfpiodcioakhaaDoorVStates
set_option linter.unusedVariables false
set_option linter.unusedSimpArgs false
namespace Go.Proofs.YtmfpiodcioakhaaDoor
open Go Go.RowKit
set_option linter.unusedVariables false
set_option linter.unusedSimpArgs false
open Classical

theorem nm_put : putF [(dk 3, [97]), (dk 9, [99])] (dk 3) [120] = [(dk 3, [120]), (dk 9, [99])] := by
  simp [putF, lowF, highF, ahd_dk]
theorem nm_putE : putE [(dk 3, [97]), (dk 9, [99])] (dk 3) [120] = 0 := putE_iff.2 ⟨ex_map, by decide, by rw [nm_put]; decide⟩
theorem nm_putM : putM [(dk 3, [97]), (dk 9, [99])] (dk 3) [120] = [(dk 3, [120]), (dk 9, [99])] := by rw [putM, if_pos nm_putE]; exact nm_put
theorem nm_has : has [(dk 3, [97]), (dk 9, [99])] (dk 4) = false := by
  simp [has, dk_inj]
theorem nm_dropE : dropE [(dk 3, [97]), (dk 9, [99])] (dk 4) = 6 := by
  rw [dropE, if_pos ex_map, nm_has]; rfl
theorem nm_map1 : MapOk [(dk 3, [97])] := ⟨by decide, by simp [okVal], by simp [Srt]⟩
theorem nm_map2 : MapOk [(dk 3, [97]), (dk 200, [98])] := by
  refine ⟨by decide, by simp [okVal], ?_⟩
  unfold Srt
  simp [ahd_dk]
theorem nm_bad1 : ¬ MapOk [(dk 9, [99]), (dk 3, [97])] := fun h => by
  have := h.2.2
  unfold Srt at this
  simp [ahd_dk] at this
theorem nm_bad2 : ¬ MapOk [(dk 9, [])] := fun h => by
  have := h.2.1 (dk 9, []) (by simp)
  simp [okVal] at this
theorem nm_map0 : MapOk [] := ⟨by decide, by simp, by simp [Srt]⟩
theorem nm_root0 : rootM [] = sha [0] := by rw [rootM, if_pos nm_map0]; rfl
theorem nm_root1 : rootM [(dk 3, [97])] = sha (tagB 1 [dk 3, [97]]) := by rw [rootM, if_pos nm_map1]; rfl
theorem nm_bit3 : bitAt (dk 3) 0 = 0 := by decide
theorem nm_bit200 : ¬ bitAt (dk 200) 0 = 0 := by decide
theorem nm_root2 : rootM [(dk 3, [97]), (dk 200, [98])] = sha (tagB 2 [sha (tagB 1 [dk 3, [97]]), sha (tagB 1 [dk 200, [98]])]) := by
  rw [rootM, if_pos nm_map2, rootF_two (by decide)]
  have e0 : bit0 [(dk 3, [97]), (dk 200, [98])] 0 = [(dk 3, [97])] := by simp [bit0, nm_bit3, nm_bit200]
  have e1 : bit1 [(dk 3, [97]), (dk 200, [98])] 0 = [(dk 200, [98])] := by simp [bit1, nm_bit3, nm_bit200]
  rw [e0, e1]
  rfl
set_option maxRecDepth 100000 in
set_option maxHeartbeats 16000000 in
theorem pairsNames_vc (w0 : World) [hK : RdA w0 (some ⟨0, 0, none⟩) (wds K64)] :
    VC Tryd.prog w0 5 [] [] fun v L' => v = .bool true := by
  have k3 := dk_len 3
  have k4 := dk_len 4
  have k9 := dk_len 9
  have k200 := dk_len 200
  refine vc_in rfl rfl ?_
  repeat' (first | (refine go1 ?_; intros) | (refine vl_caseG rfl rfl rfl rfl ?_ ?_ <;> (intro hb; (try simp only [decide_eq_true_eq, decide_eq_false_iff_not, Bool.not_eq_true', Bool.not_eq_false', ne_eq, Decidable.not_not, Option.isNone_iff_eq_none, not_true_eq_false, not_false_eq_true] at hb); try (exfalso; omega))) | (refine v_cond rfl ?_ ?_ <;> (intro hb; (try simp only [decide_eq_true_eq, decide_eq_false_iff_not, Bool.not_eq_true', Bool.not_eq_false', ne_eq, Decidable.not_not, Option.isNone_iff_eq_none, not_true_eq_false, not_false_eq_true] at hb); try (exfalso; omega))) | fail)
  refine vl_o rfl (vo_call rfl rfl ?_)
  refine vc_mono (one5_vc w0 _ 3 [97] rfl) ?_
  rintro v L' ⟨gA, cA, rfl, rfl⟩
  repeat' (first | (refine go1 ?_; intros) | (refine vl_caseG rfl rfl rfl rfl ?_ ?_ <;> (intro hb; (try simp only [decide_eq_true_eq, decide_eq_false_iff_not, Bool.not_eq_true', Bool.not_eq_false', ne_eq, Decidable.not_not, Option.isNone_iff_eq_none, not_true_eq_false, not_false_eq_true] at hb); try (exfalso; omega))) | (refine v_cond rfl ?_ ?_ <;> (intro hb; (try simp only [decide_eq_true_eq, decide_eq_false_iff_not, Bool.not_eq_true', Bool.not_eq_false', ne_eq, Decidable.not_not, Option.isNone_iff_eq_none, not_true_eq_false, not_false_eq_true] at hb); try (exfalso; omega))) | fail)
  refine vl_o rfl (vo_call rfl rfl ?_)
  refine vc_mono (one5_vc w0 _ 9 [99] rfl) ?_
  rintro v L' ⟨gC, cC, rfl, rfl⟩
  have pA := PR.len (p := ⟨dk 3, some ⟨gA, 0, none⟩, cA, [97]⟩) k3
  have pC := PR.len (p := ⟨dk 9, some ⟨gC, 0, none⟩, cC, [99]⟩) k9
  repeat' (first | (refine goB ?_; intros) | (refine vl_caseG rfl rfl rfl rfl ?_ ?_ <;> (intro hb; (try simp only [decide_eq_true_eq, decide_eq_false_iff_not, Bool.not_eq_true', Bool.not_eq_false', ne_eq, Decidable.not_not, Option.isNone_iff_eq_none, not_true_eq_false, not_false_eq_true] at hb); try (exfalso; omega))) | (refine v_cond rfl ?_ ?_ <;> (intro hb; (try simp only [decide_eq_true_eq, decide_eq_false_iff_not, Bool.not_eq_true', Bool.not_eq_false', ne_eq, Decidable.not_not, Option.isNone_iff_eq_none, not_true_eq_false, not_false_eq_true] at hb); try (exfalso; omega))) | fail)
  rename_i gl
  obtain ⟨XA, hXA⟩ : ∃ X : PR, X = ⟨dk 3, some ⟨gA, 0, none⟩, cA, [97]⟩ := ⟨_, rfl⟩
  obtain ⟨XC, hXC⟩ : ∃ X : PR, X = ⟨dk 9, some ⟨gC, 0, none⟩, cC, [99]⟩ := ⟨_, rfl⟩
  have ek : kvs [XA, XC] = [(dk 3, [97]), (dk 9, [99])] := by rw [hXA, hXC]; rfl
  have okL : PsOk [XA, XC] := by rw [hXA, hXC]; exact (psOk_one k3 (by simp)).app (psOk_one k9 (by simp)) (by simp)
  rw [← hXA] at pA
  rw [← hXC] at pC
  rw [← hXA, ← hXC]
  have e1 : PR.cells XA ++ (PR.cells XC ++ []) = prc [XA, XC] := rfl
  rw [e1]
  haveI hvA : ∀ M, RdC w0 M (some ⟨gA, 0, none⟩) (bvs [97]) → RdC w0 M XA.a (bvs XA.v) := fun M h => by rw [hXA]; exact h
  haveI hvC : ∀ M, RdC w0 M (some ⟨gC, 0, none⟩) (bvs [99]) → RdC w0 M XC.a (bvs XC.v) := fun M h => by rw [hXC]; exact h
  refine vl_q rfl rfl rfl rfl (vq_dk (c := 3) rfl) ?_
  repeat' (first | (refine goB ?_; intros) | (refine vl_caseG rfl rfl rfl rfl ?_ ?_ <;> (intro hb; (try simp only [decide_eq_true_eq, decide_eq_false_iff_not, Bool.not_eq_true', Bool.not_eq_false', ne_eq, Decidable.not_not, Option.isNone_iff_eq_none, not_true_eq_false, not_false_eq_true] at hb); try (exfalso; omega))) | (refine v_cond rfl ?_ ?_ <;> (intro hb; (try simp only [decide_eq_true_eq, decide_eq_false_iff_not, Bool.not_eq_true', Bool.not_eq_false', ne_eq, Decidable.not_not, Option.isNone_iff_eq_none, not_true_eq_false, not_false_eq_true] at hb); try (exfalso; omega))) | fail)
  rename_i g5
  haveI hrv : ∀ M, RdC w0 (rd (some ⟨g5, 0, none⟩) [.int .u8 120] :: M) (some ⟨g5, 0, none⟩) (bvs [120]) := fun M => (inferInstance : RdC w0 _ _ [.int .u8 120])
  refine vl_o rfl (vo_call rfl rfl ?_)
  refine vc_mono (pput_vc (hv := by exact rdVs_cons1 (hvA _ inferInstance) (rdVs_cons1 (hvC _ inferInstance) (rdVs_nil _ _))) w0 _ (some ⟨gl, 0, none⟩) 2 [XA, XC] (dk 3) _ _ [120] rfl rfl okL k3 (by decide)) ?_
  rintro v L' ⟨_, rfl, a4, c4, n4, rfl, e4, rfl⟩
  rw [ek, nm_putM] at e4
  rw [ek, nm_putE]
  have ok4 : PsOk n4 := by
    refine ⟨fun p hp => ?_, fun p hp => ?_, ?_⟩
    · have : p.kv ∈ kvs n4 := List.mem_map.2 ⟨p, hp, rfl⟩
      rw [e4] at this
      simp only [List.mem_cons, List.not_mem_nil, or_false, PR.kv, Prod.mk.injEq] at this
      rcases this with ⟨h, _⟩ | ⟨h, _⟩ <;> rw [h] <;> exact dk_len _
    · have : p.kv ∈ kvs n4 := List.mem_map.2 ⟨p, hp, rfl⟩
      rw [e4] at this
      simp only [List.mem_cons, List.not_mem_nil, or_false, PR.kv, Prod.mk.injEq] at this
      rcases this with ⟨_, h⟩ | ⟨_, h⟩ <;> rw [h] <;> decide
    · have := congrArg List.length e4
      simp at this
      omega
  repeat' (first | (refine goB ?_; intros) | (refine vl_caseG rfl rfl rfl rfl ?_ ?_ <;> (intro hb; (try simp only [decide_eq_true_eq, decide_eq_false_iff_not, Bool.not_eq_true', Bool.not_eq_false', ne_eq, Decidable.not_not, Option.isNone_iff_eq_none, not_true_eq_false, not_false_eq_true] at hb); try (exfalso; omega))) | (refine v_cond rfl ?_ ?_ <;> (intro hb; (try simp only [decide_eq_true_eq, decide_eq_false_iff_not, Bool.not_eq_true', Bool.not_eq_false', ne_eq, Decidable.not_not, Option.isNone_iff_eq_none, not_true_eq_false, not_false_eq_true] at hb); try (exfalso; omega))) | fail)
  refine vl_q rfl rfl rfl rfl (vq_dk (c := 4) rfl) ?_
  repeat' (first | (refine goB ?_; intros) | (refine vl_caseG rfl rfl rfl rfl ?_ ?_ <;> (intro hb; (try simp only [decide_eq_true_eq, decide_eq_false_iff_not, Bool.not_eq_true', Bool.not_eq_false', ne_eq, Decidable.not_not, Option.isNone_iff_eq_none, not_true_eq_false, not_false_eq_true] at hb); try (exfalso; omega))) | (refine v_cond rfl ?_ ?_ <;> (intro hb; (try simp only [decide_eq_true_eq, decide_eq_false_iff_not, Bool.not_eq_true', Bool.not_eq_false', ne_eq, Decidable.not_not, Option.isNone_iff_eq_none, not_true_eq_false, not_false_eq_true] at hb); try (exfalso; omega))) | fail)
  refine vl_o rfl (vo_call rfl rfl ?_)
  refine vc_mono (pget_vc (hv := by exact rdVs_cons1 (hvA _ inferInstance) (rdVs_cons1 (hvC _ inferInstance) (rdVs_nil _ _))) w0 _ (some ⟨gl, 0, none⟩) 2 [XA, XC] (dk 4) rfl okL k4) ?_
  rintro v L' ⟨a5, c5, b5, u5, rfl, e5, rfl⟩
  rw [ek, if_pos ex_map, nm_has] at e5
  obtain ⟨-, rfl⟩ := Prod.mk.inj e5
  repeat' (first | (refine goB ?_; intros) | (refine vl_caseG rfl rfl rfl rfl ?_ ?_ <;> (intro hb; (try simp only [decide_eq_true_eq, decide_eq_false_iff_not, Bool.not_eq_true', Bool.not_eq_false', ne_eq, Decidable.not_not, Option.isNone_iff_eq_none, not_true_eq_false, not_false_eq_true] at hb); try (exfalso; omega))) | (refine v_cond rfl ?_ ?_ <;> (intro hb; (try simp only [decide_eq_true_eq, decide_eq_false_iff_not, Bool.not_eq_true', Bool.not_eq_false', ne_eq, Decidable.not_not, Option.isNone_iff_eq_none, not_true_eq_false, not_false_eq_true] at hb); try (exfalso; omega))) | fail)
  refine vl_q rfl rfl rfl rfl (vq_dk (c := 4) rfl) ?_
  repeat' (first | (refine goB ?_; intros) | (refine vl_caseG rfl rfl rfl rfl ?_ ?_ <;> (intro hb; (try simp only [decide_eq_true_eq, decide_eq_false_iff_not, Bool.not_eq_true', Bool.not_eq_false', ne_eq, Decidable.not_not, Option.isNone_iff_eq_none, not_true_eq_false, not_false_eq_true] at hb); try (exfalso; omega))) | (refine v_cond rfl ?_ ?_ <;> (intro hb; (try simp only [decide_eq_true_eq, decide_eq_false_iff_not, Bool.not_eq_true', Bool.not_eq_false', ne_eq, Decidable.not_not, Option.isNone_iff_eq_none, not_true_eq_false, not_false_eq_true] at hb); try (exfalso; omega))) | fail)
  refine vl_o rfl (vo_call rfl rfl ?_)
  refine vc_mono (pdrop_vc (hv := by exact rdVs_cons1 (hvA _ inferInstance) (rdVs_cons1 (hvC _ inferInstance) (rdVs_nil _ _))) w0 _ (some ⟨gl, 0, none⟩) 2 [XA, XC] (dk 4) rfl okL k4) ?_
  rintro v L' ⟨_, rfl, a6, c6, n6, rfl, e6, rfl⟩
  rw [ek, nm_dropE]
  repeat' (first | (refine goB ?_; intros) | (refine vl_caseG rfl rfl rfl rfl ?_ ?_ <;> (intro hb; (try simp only [decide_eq_true_eq, decide_eq_false_iff_not, Bool.not_eq_true', Bool.not_eq_false', ne_eq, Decidable.not_not, Option.isNone_iff_eq_none, not_true_eq_false, not_false_eq_true] at hb); try (exfalso; omega))) | (refine v_cond rfl ?_ ?_ <;> (intro hb; (try simp only [decide_eq_true_eq, decide_eq_false_iff_not, Bool.not_eq_true', Bool.not_eq_false', ne_eq, Decidable.not_not, Option.isNone_iff_eq_none, not_true_eq_false, not_false_eq_true] at hb); try (exfalso; omega))) | fail)
  refine vl_o rfl (vo_call rfl rfl ?_)
  refine vc_mono (pRoot_vc (hr := rdC_nil _ _ _) (hv := rdVs_nil _ _) w0 _ none 0 [] rfl (by simp) psOk_nil) ?_
  rintro v L' ⟨rfl, rfl⟩
  rw [show kvs [] = [] from rfl, nm_root0, if_pos nm_map0]
  obtain ⟨N0, hN0⟩ : ∃ N, N = sha [0] := ⟨_, rfl⟩
  have lN0 : N0.length = 32 := by rw [hN0]; exact sha_length _
  rw [← hN0]
  repeat' (first | (refine goB ?_; intros) | (refine vl_caseG rfl rfl rfl rfl ?_ ?_ <;> (intro hb; (try simp only [decide_eq_true_eq, decide_eq_false_iff_not, Bool.not_eq_true', Bool.not_eq_false', ne_eq, Decidable.not_not, Option.isNone_iff_eq_none, not_true_eq_false, not_false_eq_true] at hb); try (exfalso; omega))) | (refine v_cond rfl ?_ ?_ <;> (intro hb; (try simp only [decide_eq_true_eq, decide_eq_false_iff_not, Bool.not_eq_true', Bool.not_eq_false', ne_eq, Decidable.not_not, Option.isNone_iff_eq_none, not_true_eq_false, not_false_eq_true] at hb); try (exfalso; omega))) | fail)
  rename_i gn
  refine vl_q rfl rfl rfl rfl (vq_dk (c := 3) rfl) ?_
  repeat' (first | (refine goB ?_; intros) | (refine vl_caseG rfl rfl rfl rfl ?_ ?_ <;> (intro hb; (try simp only [decide_eq_true_eq, decide_eq_false_iff_not, Bool.not_eq_true', Bool.not_eq_false', ne_eq, Decidable.not_not, Option.isNone_iff_eq_none, not_true_eq_false, not_false_eq_true] at hb); try (exfalso; omega))) | (refine v_cond rfl ?_ ?_ <;> (intro hb; (try simp only [decide_eq_true_eq, decide_eq_false_iff_not, Bool.not_eq_true', Bool.not_eq_false', ne_eq, Decidable.not_not, Option.isNone_iff_eq_none, not_true_eq_false, not_false_eq_true] at hb); try (exfalso; omega))) | fail)
  refine vl_q rfl rfl rfl rfl (vq_dk (c := 200) rfl) ?_
  obtain ⟨K1, hK1⟩ : ∃ K, K = dk 3 := ⟨_, rfl⟩
  obtain ⟨K2, hK2⟩ : ∃ K, K = dk 200 := ⟨_, rfl⟩
  have hk1 : K1.length = 32 := by rw [hK1]; exact k3
  have hk2 : K2.length = 32 := by rw [hK2]; exact k200
  rw [← hK1, ← hK2]
  repeat' (first | (refine go1 ?_; intros) | (refine vl_caseG rfl rfl rfl rfl ?_ ?_ <;> (intro hb; (try simp only [decide_eq_true_eq, decide_eq_false_iff_not, Bool.not_eq_true', Bool.not_eq_false', ne_eq, Decidable.not_not, Option.isNone_iff_eq_none, not_true_eq_false, not_false_eq_true] at hb); try (exfalso; omega))) | (refine v_cond rfl ?_ ?_ <;> (intro hb; (try simp only [decide_eq_true_eq, decide_eq_false_iff_not, Bool.not_eq_true', Bool.not_eq_false', ne_eq, Decidable.not_not, Option.isNone_iff_eq_none, not_true_eq_false, not_false_eq_true] at hb); try (exfalso; omega))) | fail)
  rename_i g1 g2
  obtain ⟨D1, hD1⟩ : ∃ D, D = sha (tagB 1 [K1, [97]]) := ⟨_, rfl⟩
  obtain ⟨D2, hD2⟩ : ∃ D, D = sha (tagB 1 [K2, [98]]) := ⟨_, rfl⟩
  have lD1 : D1.length = 32 := by rw [hD1]; exact sha_length _
  have lD2 : D2.length = 32 := by rw [hD2]; exact sha_length _
  have hB1 : (tagB 1 [K1, [97]]).length ≤ 1000000000 := by simp [tagB, hk1, digs_length]
  have hB2 : (tagB 1 [K2, [98]]).length ≤ 1000000000 := by simp [tagB, hk2, digs_length]
  have hB3 : (tagB 2 [D1, D2]).length ≤ 1000000000 := by simp [tagB, lD1, lD2, digs_length]
  refine v_ent (L' := blk g2 25 (bvs K2) :: blk g1 25 (bvs K1) :: [blk gn 25 (bvs N0), ownPs a4 c4 n4, vsA n4, own 34 33 (some ⟨gl, 0, none⟩) 2 2 (prc [XA, XC]), rd (some ⟨gC, 0, none⟩) (bvs [99]), rd (some ⟨gA, 0, none⟩) (bvs [97])]) (sei _ _ _) ?_
  obtain ⟨M0, hM0⟩ : ∃ M0 : List Asn, M0 = [blk gn 25 (bvs N0), ownPs a4 c4 n4, vsA n4, own 34 33 (some ⟨gl, 0, none⟩) 2 2 (prc [XA, XC]), rd (some ⟨gC, 0, none⟩) (bvs [99]), rd (some ⟨gA, 0, none⟩) (bvs [97])] := ⟨_, rfl⟩
  rw [← hM0]
  refine v_cut (Nat × Nat) [1, 2, 3, 5, 7, 8, 9] rfl (fun x => [(12, .pointer (some ⟨x.1, 0, none⟩)), (13, .pointer (some ⟨x.2, 0, none⟩))]) (fun x => blk x.1 25 (bvs D1) :: blk x.2 25 (bvs D2) :: M0) ?_ ?_
  · refine v_id ?_
    refine v_draw0 [] (by kernel_rfl) ?_
    refine va_states (fun G hG => ?_)
    have s4411 : ∀ g4 g5 : Nat, G 2 [true, true, true, true, true, true, true, true, true, true, true, true, false, false] [(48, .slice (some ⟨g1, 0, none⟩) 32 32), (53, .slice (some ⟨g2, 0, none⟩) 32 32), (52, .agg (bvs D1).toArray), (57, .agg (bvs D2).toArray), (12, .pointer (some ⟨g4, 0, none⟩)), (13, .pointer (some ⟨g5, 0, none⟩)), (1, .slice (some ⟨gl, 0, none⟩) 2 2), (2, .slice a4 n4.length c4), (3, .int .i64 0), (5, .bool false), (7, .int .i64 6), (8, .pointer (some ⟨gn, 0, none⟩)), (9, .int .i64 0)] (blk g4 25 (bvs (List.replicate 32 0)) :: blk g5 25 (bvs (List.replicate 32 0)) :: blk g2 25 (bvs K2) :: blk g1 25 (bvs K1) :: M0) := fun g4 g5 => (hG _ _ _ _).2 (by
      refine va_one 12 (by kernel_rfl) rfl rfl ?_
      (first | (refine vo_box rfl rfl rfl ?_; intro _) | (refine vo_alloc rfl ?_; intro _) | (refine vo_isStore ?_; first | (refine vo_isPt0 rfl ?_; refine vo_stWA rfl rfl ?_) | (refine vo_isPt rfl ?_; refine vo_stBA rfl rfl ?_) | (refine vo_stO rfl rfl (by rfl) (by first | rfl | assumption) (by first | assumption | (simp; done) | (simp; omega) | omega) rfl ?_; skip)) | (refine vo_isCall ?_; first | (refine vo_isApp ?_; first | (refine vo_append0A rfl rfl rfl ?_; intro _ _ _ _) | (refine vo_appendA rfl rfl rfl ?_; intro _ _ _ _)) | (refine vo_isCopy ?_; refine vo_copyB rfl rfl rfl (by assumption) (by assumption) (by assumption) (by assumption) ?_) | refine vo_yield rfl rfl rfl rfl rfl ?_ | refine vo_callV rfl rfl rfl (vc_in rfl rfl ?_)) | refine vo_convRow rfl rfl ?_ | (refine vo_isBs ?_; refine vo_buildSlice rfl rfl rfl (by decide) (by repeat' (first | exact trivial | rfl | assumption | refine ⟨?_, ?_⟩ | (simp; done) | (simp; omega))) (by decide) rfl ?_; intro _) | (refine vo_buildSlice0 rfl ?_; intro _) | fail)
      refine ⟨.inr (sei _ _ _), ?_⟩
      refine va_one 13 (by kernel_rfl) rfl rfl ?_
      (first | (refine vo_box rfl rfl rfl ?_; intro _) | (refine vo_alloc rfl ?_; intro _) | (refine vo_isStore ?_; first | (refine vo_isPt0 rfl ?_; refine vo_stWA rfl rfl ?_) | (refine vo_isPt rfl ?_; refine vo_stBA rfl rfl ?_) | (refine vo_stO rfl rfl (by rfl) (by first | rfl | assumption) (by first | assumption | (simp; done) | (simp; omega) | omega) rfl ?_; skip)) | (refine vo_isCall ?_; first | (refine vo_isApp ?_; first | (refine vo_append0A rfl rfl rfl ?_; intro _ _ _ _) | (refine vo_appendA rfl rfl rfl ?_; intro _ _ _ _)) | (refine vo_isCopy ?_; refine vo_copyB rfl rfl rfl (by assumption) (by assumption) (by assumption) (by assumption) ?_) | refine vo_yield rfl rfl rfl rfl rfl ?_ | refine vo_callV rfl rfl rfl (vc_in rfl rfl ?_)) | refine vo_convRow rfl rfl ?_ | (refine vo_isBs ?_; refine vo_buildSlice rfl rfl rfl (by decide) (by repeat' (first | exact trivial | rfl | assumption | refine ⟨?_, ?_⟩ | (simp; done) | (simp; omega))) (by decide) rfl ?_; intro _) | (refine vo_buildSlice0 rfl ?_; intro _) | fail)
      refine ⟨.inr (sei _ _ _), ?_⟩
      refine va_done (by kernel_rfl) ?_
      exact ⟨rfl, (g4, g5), by (repeat' (first | exact Sub.nil _ | refine Sub.cons rfl rfl ?_ | refine Sub.cons rfl ?_ ?_)), sei _ _ _⟩)
    have s4311 : ∀ b2 s2 g4 g5 : Nat, G 3 [true, true, true, true, true, true, true, true, true, false, true, true, false, false] [(48, .slice (some ⟨g1, 0, none⟩) 32 32), (53, .slice (some ⟨g2, 0, none⟩) 32 32), (52, .agg (bvs D1).toArray), (56, .slice (some ⟨s2, 0, none⟩) 2 2), (12, .pointer (some ⟨g4, 0, none⟩)), (13, .pointer (some ⟨g5, 0, none⟩)), (1, .slice (some ⟨gl, 0, none⟩) 2 2), (2, .slice a4 n4.length c4), (3, .int .i64 0), (5, .bool false), (7, .int .i64 6), (8, .pointer (some ⟨gn, 0, none⟩)), (9, .int .i64 0)] (rd (some ⟨b2, 0, none⟩) [.int .u8 98] :: own 32 1 (some ⟨s2, 0, none⟩) 2 2 [.slice (some ⟨g2, 0, none⟩) 32 32, .slice (some ⟨b2, 0, none⟩) 1 1] :: blk g4 25 (bvs (List.replicate 32 0)) :: blk g5 25 (bvs (List.replicate 32 0)) :: blk g2 25 (bvs K2) :: blk g1 25 (bvs K1) :: M0) := fun b2 s2 g4 g5 => (hG _ _ _ _).2 (by
      refine va_one 9 (by kernel_rfl) rfl rfl ?_
      · refine vo_call rfl rfl ?_
        refine vc_mono (tof2_vc (h2 := (inferInstance : RdC w0 _ (some ⟨b2, 0, none⟩) [.int .u8 98])) w0 _ 1 (by decide) s2 (some ⟨g2, 0, none⟩) 32 K2 (some ⟨b2, 0, none⟩) 1 [98] hk2.symm rfl hB2) ?_
        rintro v L' ⟨rfl, rfl⟩
        rw [← hD2]
        refine ⟨.inr (sei _ _ _), ?_⟩
        exact va_ext ((hG _ _ _ _).1 (s4411 g4 g5)) rfl (by (repeat' (first | exact Sub.nil _ | refine Sub.cons rfl rfl ?_ | refine Sub.cons rfl ?_ ?_))) (sei _ _ _))
    have s4401 : ∀ g5 : Nat, G 3 [true, true, true, true, true, true, true, true, true, true, false, true, false, false] [(48, .slice (some ⟨g1, 0, none⟩) 32 32), (53, .slice (some ⟨g2, 0, none⟩) 32 32), (52, .agg (bvs D1).toArray), (57, .agg (bvs D2).toArray), (13, .pointer (some ⟨g5, 0, none⟩)), (1, .slice (some ⟨gl, 0, none⟩) 2 2), (2, .slice a4 n4.length c4), (3, .int .i64 0), (5, .bool false), (7, .int .i64 6), (8, .pointer (some ⟨gn, 0, none⟩)), (9, .int .i64 0)] (blk g5 25 (bvs (List.replicate 32 0)) :: blk g2 25 (bvs K2) :: blk g1 25 (bvs K1) :: M0) := fun g5 => (hG _ _ _ _).2 (by
      refine va_one 10 (by kernel_rfl) rfl rfl ?_
      · refine vo_alloc rfl ?_
        intro g4
        refine ⟨.inr (sei _ _ _), ?_⟩
        exact va_ext ((hG _ _ _ _).1 (s4411 g4 g5)) rfl (by (repeat' (first | exact Sub.nil _ | refine Sub.cons rfl rfl ?_ | refine Sub.cons rfl ?_ ?_))) (sei _ _ _))
    have s4410 : ∀ g4 : Nat, G 3 [true, true, true, true, true, true, true, true, true, true, true, false, false, false] [(48, .slice (some ⟨g1, 0, none⟩) 32 32), (53, .slice (some ⟨g2, 0, none⟩) 32 32), (52, .agg (bvs D1).toArray), (57, .agg (bvs D2).toArray), (12, .pointer (some ⟨g4, 0, none⟩)), (1, .slice (some ⟨gl, 0, none⟩) 2 2), (2, .slice a4 n4.length c4), (3, .int .i64 0), (5, .bool false), (7, .int .i64 6), (8, .pointer (some ⟨gn, 0, none⟩)), (9, .int .i64 0)] (blk g4 25 (bvs (List.replicate 32 0)) :: blk g2 25 (bvs K2) :: blk g1 25 (bvs K1) :: M0) := fun g4 => (hG _ _ _ _).2 (by
      refine va_one 11 (by kernel_rfl) rfl rfl ?_
      · refine vo_alloc rfl ?_
        intro g5
        refine ⟨.inr (sei _ _ _), ?_⟩
        exact va_ext ((hG _ _ _ _).1 (s4411 g4 g5)) rfl (by (repeat' (first | exact Sub.nil _ | refine Sub.cons rfl rfl ?_ | refine Sub.cons rfl ?_ ?_))) (sei _ _ _))
    have s3311 : ∀ b1 s1 b2 s2 g4 g5 : Nat, G 4 [true, true, true, true, false, true, true, true, true, false, true, true, false, false] [(48, .slice (some ⟨g1, 0, none⟩) 32 32), (53, .slice (some ⟨g2, 0, none⟩) 32 32), (51, .slice (some ⟨s1, 0, none⟩) 2 2), (56, .slice (some ⟨s2, 0, none⟩) 2 2), (12, .pointer (some ⟨g4, 0, none⟩)), (13, .pointer (some ⟨g5, 0, none⟩)), (1, .slice (some ⟨gl, 0, none⟩) 2 2), (2, .slice a4 n4.length c4), (3, .int .i64 0), (5, .bool false), (7, .int .i64 6), (8, .pointer (some ⟨gn, 0, none⟩)), (9, .int .i64 0)] (rd (some ⟨b1, 0, none⟩) [.int .u8 97] :: own 32 1 (some ⟨s1, 0, none⟩) 2 2 [.slice (some ⟨g1, 0, none⟩) 32 32, .slice (some ⟨b1, 0, none⟩) 1 1] :: rd (some ⟨b2, 0, none⟩) [.int .u8 98] :: own 32 1 (some ⟨s2, 0, none⟩) 2 2 [.slice (some ⟨g2, 0, none⟩) 32 32, .slice (some ⟨b2, 0, none⟩) 1 1] :: blk g4 25 (bvs (List.replicate 32 0)) :: blk g5 25 (bvs (List.replicate 32 0)) :: blk g2 25 (bvs K2) :: blk g1 25 (bvs K1) :: M0) := fun b1 s1 b2 s2 g4 g5 => (hG _ _ _ _).2 (by
      refine va_one 4 (by kernel_rfl) rfl rfl ?_
      · refine vo_call rfl rfl ?_
        refine vc_mono (tof2_vc (h2 := (inferInstance : RdC w0 _ (some ⟨b1, 0, none⟩) [.int .u8 97])) w0 _ 1 (by decide) s1 (some ⟨g1, 0, none⟩) 32 K1 (some ⟨b1, 0, none⟩) 1 [97] hk1.symm rfl hB1) ?_
        rintro v L' ⟨rfl, rfl⟩
        rw [← hD1]
        refine ⟨.inr (sei _ _ _), ?_⟩
        exact va_ext ((hG _ _ _ _).1 (s4311 b2 s2 g4 g5)) rfl (by (repeat' (first | exact Sub.nil _ | refine Sub.cons rfl rfl ?_ | refine Sub.cons rfl ?_ ?_))) (sei _ _ _))
    have s4211 : ∀ b2 g4 g5 : Nat, G 4 [true, true, true, true, true, true, true, true, false, false, true, true, false, false] [(48, .slice (some ⟨g1, 0, none⟩) 32 32), (53, .slice (some ⟨g2, 0, none⟩) 32 32), (52, .agg (bvs D1).toArray), (55, .slice (some ⟨b2, 0, none⟩) 1 1), (12, .pointer (some ⟨g4, 0, none⟩)), (13, .pointer (some ⟨g5, 0, none⟩)), (1, .slice (some ⟨gl, 0, none⟩) 2 2), (2, .slice a4 n4.length c4), (3, .int .i64 0), (5, .bool false), (7, .int .i64 6), (8, .pointer (some ⟨gn, 0, none⟩)), (9, .int .i64 0)] (rd (some ⟨b2, 0, none⟩) [.int .u8 98] :: blk g4 25 (bvs (List.replicate 32 0)) :: blk g5 25 (bvs (List.replicate 32 0)) :: blk g2 25 (bvs K2) :: blk g1 25 (bvs K1) :: M0) := fun b2 g4 g5 => (hG _ _ _ _).2 (by
      refine va_one 8 (by kernel_rfl) rfl rfl ?_
      · refine vo_buildSlice rfl rfl rfl (by decide) (by repeat' (first | exact trivial | rfl | refine ⟨?_, ?_⟩)) (by decide) rfl ?_
        intro s2
        refine ⟨.inr (sei _ _ _), ?_⟩
        exact va_ext ((hG _ _ _ _).1 (s4311 b2 s2 g4 g5)) rfl (by (repeat' (first | exact Sub.nil _ | refine Sub.cons rfl rfl ?_ | refine Sub.cons rfl ?_ ?_))) (sei _ _ _))
    have s4301 : ∀ b2 s2 g5 : Nat, G 4 [true, true, true, true, true, true, true, true, true, false, false, true, false, false] [(48, .slice (some ⟨g1, 0, none⟩) 32 32), (53, .slice (some ⟨g2, 0, none⟩) 32 32), (52, .agg (bvs D1).toArray), (56, .slice (some ⟨s2, 0, none⟩) 2 2), (13, .pointer (some ⟨g5, 0, none⟩)), (1, .slice (some ⟨gl, 0, none⟩) 2 2), (2, .slice a4 n4.length c4), (3, .int .i64 0), (5, .bool false), (7, .int .i64 6), (8, .pointer (some ⟨gn, 0, none⟩)), (9, .int .i64 0)] (rd (some ⟨b2, 0, none⟩) [.int .u8 98] :: own 32 1 (some ⟨s2, 0, none⟩) 2 2 [.slice (some ⟨g2, 0, none⟩) 32 32, .slice (some ⟨b2, 0, none⟩) 1 1] :: blk g5 25 (bvs (List.replicate 32 0)) :: blk g2 25 (bvs K2) :: blk g1 25 (bvs K1) :: M0) := fun b2 s2 g5 => (hG _ _ _ _).2 (by
      refine va_two 9 10 (by kernel_rfl) rfl rfl rfl rfl ?_ ?_
      · refine vo_call rfl rfl ?_
        refine vc_mono (tof2_vc (h2 := (inferInstance : RdC w0 _ (some ⟨b2, 0, none⟩) [.int .u8 98])) w0 _ 1 (by decide) s2 (some ⟨g2, 0, none⟩) 32 K2 (some ⟨b2, 0, none⟩) 1 [98] hk2.symm rfl hB2) ?_
        rintro v L' ⟨rfl, rfl⟩
        rw [← hD2]
        refine ⟨.inr (sei _ _ _), ?_⟩
        exact va_ext ((hG _ _ _ _).1 (s4401 g5)) rfl (by (repeat' (first | exact Sub.nil _ | refine Sub.cons rfl rfl ?_ | refine Sub.cons rfl ?_ ?_))) (sei _ _ _)
      · refine vo_alloc rfl ?_
        intro g4
        refine ⟨.inr (sei _ _ _), ?_⟩
        exact va_ext ((hG _ _ _ _).1 (s4311 b2 s2 g4 g5)) rfl (by (repeat' (first | exact Sub.nil _ | refine Sub.cons rfl rfl ?_ | refine Sub.cons rfl ?_ ?_))) (sei _ _ _))
    have s4310 : ∀ b2 s2 g4 : Nat, G 4 [true, true, true, true, true, true, true, true, true, false, true, false, false, false] [(48, .slice (some ⟨g1, 0, none⟩) 32 32), (53, .slice (some ⟨g2, 0, none⟩) 32 32), (52, .agg (bvs D1).toArray), (56, .slice (some ⟨s2, 0, none⟩) 2 2), (12, .pointer (some ⟨g4, 0, none⟩)), (1, .slice (some ⟨gl, 0, none⟩) 2 2), (2, .slice a4 n4.length c4), (3, .int .i64 0), (5, .bool false), (7, .int .i64 6), (8, .pointer (some ⟨gn, 0, none⟩)), (9, .int .i64 0)] (rd (some ⟨b2, 0, none⟩) [.int .u8 98] :: own 32 1 (some ⟨s2, 0, none⟩) 2 2 [.slice (some ⟨g2, 0, none⟩) 32 32, .slice (some ⟨b2, 0, none⟩) 1 1] :: blk g4 25 (bvs (List.replicate 32 0)) :: blk g2 25 (bvs K2) :: blk g1 25 (bvs K1) :: M0) := fun b2 s2 g4 => (hG _ _ _ _).2 (by
      refine va_two 9 11 (by kernel_rfl) rfl rfl rfl rfl ?_ ?_
      · refine vo_call rfl rfl ?_
        refine vc_mono (tof2_vc (h2 := (inferInstance : RdC w0 _ (some ⟨b2, 0, none⟩) [.int .u8 98])) w0 _ 1 (by decide) s2 (some ⟨g2, 0, none⟩) 32 K2 (some ⟨b2, 0, none⟩) 1 [98] hk2.symm rfl hB2) ?_
        rintro v L' ⟨rfl, rfl⟩
        rw [← hD2]
        refine ⟨.inr (sei _ _ _), ?_⟩
        exact va_ext ((hG _ _ _ _).1 (s4410 g4)) rfl (by (repeat' (first | exact Sub.nil _ | refine Sub.cons rfl rfl ?_ | refine Sub.cons rfl ?_ ?_))) (sei _ _ _)
      · refine vo_alloc rfl ?_
        intro g5
        refine ⟨.inr (sei _ _ _), ?_⟩
        exact va_ext ((hG _ _ _ _).1 (s4311 b2 s2 g4 g5)) rfl (by (repeat' (first | exact Sub.nil _ | refine Sub.cons rfl rfl ?_ | refine Sub.cons rfl ?_ ?_))) (sei _ _ _))
    have s4400 : G 4 [true, true, true, true, true, true, true, true, true, true, false, false, false, false] [(48, .slice (some ⟨g1, 0, none⟩) 32 32), (53, .slice (some ⟨g2, 0, none⟩) 32 32), (52, .agg (bvs D1).toArray), (57, .agg (bvs D2).toArray), (1, .slice (some ⟨gl, 0, none⟩) 2 2), (2, .slice a4 n4.length c4), (3, .int .i64 0), (5, .bool false), (7, .int .i64 6), (8, .pointer (some ⟨gn, 0, none⟩)), (9, .int .i64 0)] (blk g2 25 (bvs K2) :: blk g1 25 (bvs K1) :: M0) := (hG _ _ _ _).2 (by
      refine va_two 10 11 (by kernel_rfl) rfl rfl rfl rfl ?_ ?_
      · refine vo_alloc rfl ?_
        intro g4
        refine ⟨.inr (sei _ _ _), ?_⟩
        exact va_ext ((hG _ _ _ _).1 (s4410 g4)) rfl (by (repeat' (first | exact Sub.nil _ | refine Sub.cons rfl rfl ?_ | refine Sub.cons rfl ?_ ?_))) (sei _ _ _)
      · refine vo_alloc rfl ?_
        intro g5
        refine ⟨.inr (sei _ _ _), ?_⟩
        exact va_ext ((hG _ _ _ _).1 (s4401 g5)) rfl (by (repeat' (first | exact Sub.nil _ | refine Sub.cons rfl rfl ?_ | refine Sub.cons rfl ?_ ?_))) (sei _ _ _))
    have s2311 : ∀ b1 b2 s2 g4 g5 : Nat, G 5 [true, true, true, false, false, true, true, true, true, false, true, true, false, false] [(48, .slice (some ⟨g1, 0, none⟩) 32 32), (53, .slice (some ⟨g2, 0, none⟩) 32 32), (50, .slice (some ⟨b1, 0, none⟩) 1 1), (56, .slice (some ⟨s2, 0, none⟩) 2 2), (12, .pointer (some ⟨g4, 0, none⟩)), (13, .pointer (some ⟨g5, 0, none⟩)), (1, .slice (some ⟨gl, 0, none⟩) 2 2), (2, .slice a4 n4.length c4), (3, .int .i64 0), (5, .bool false), (7, .int .i64 6), (8, .pointer (some ⟨gn, 0, none⟩)), (9, .int .i64 0)] (rd (some ⟨b1, 0, none⟩) [.int .u8 97] :: rd (some ⟨b2, 0, none⟩) [.int .u8 98] :: own 32 1 (some ⟨s2, 0, none⟩) 2 2 [.slice (some ⟨g2, 0, none⟩) 32 32, .slice (some ⟨b2, 0, none⟩) 1 1] :: blk g4 25 (bvs (List.replicate 32 0)) :: blk g5 25 (bvs (List.replicate 32 0)) :: blk g2 25 (bvs K2) :: blk g1 25 (bvs K1) :: M0) := fun b1 b2 s2 g4 g5 => (hG _ _ _ _).2 (by
      refine va_one 3 (by kernel_rfl) rfl rfl ?_
      · refine vo_buildSlice rfl rfl rfl (by decide) (by repeat' (first | exact trivial | rfl | refine ⟨?_, ?_⟩)) (by decide) rfl ?_
        intro s1
        refine ⟨.inr (sei _ _ _), ?_⟩
        exact va_ext ((hG _ _ _ _).1 (s3311 b1 s1 b2 s2 g4 g5)) rfl (by (repeat' (first | exact Sub.nil _ | refine Sub.cons rfl rfl ?_ | refine Sub.cons rfl ?_ ?_))) (sei _ _ _))
    have s3211 : ∀ b1 s1 b2 g4 g5 : Nat, G 5 [true, true, true, true, false, true, true, true, false, false, true, true, false, false] [(48, .slice (some ⟨g1, 0, none⟩) 32 32), (53, .slice (some ⟨g2, 0, none⟩) 32 32), (51, .slice (some ⟨s1, 0, none⟩) 2 2), (55, .slice (some ⟨b2, 0, none⟩) 1 1), (12, .pointer (some ⟨g4, 0, none⟩)), (13, .pointer (some ⟨g5, 0, none⟩)), (1, .slice (some ⟨gl, 0, none⟩) 2 2), (2, .slice a4 n4.length c4), (3, .int .i64 0), (5, .bool false), (7, .int .i64 6), (8, .pointer (some ⟨gn, 0, none⟩)), (9, .int .i64 0)] (rd (some ⟨b1, 0, none⟩) [.int .u8 97] :: own 32 1 (some ⟨s1, 0, none⟩) 2 2 [.slice (some ⟨g1, 0, none⟩) 32 32, .slice (some ⟨b1, 0, none⟩) 1 1] :: rd (some ⟨b2, 0, none⟩) [.int .u8 98] :: blk g4 25 (bvs (List.replicate 32 0)) :: blk g5 25 (bvs (List.replicate 32 0)) :: blk g2 25 (bvs K2) :: blk g1 25 (bvs K1) :: M0) := fun b1 s1 b2 g4 g5 => (hG _ _ _ _).2 (by
      refine va_two 4 8 (by kernel_rfl) rfl rfl rfl rfl ?_ ?_
      · refine vo_call rfl rfl ?_
        refine vc_mono (tof2_vc (h2 := (inferInstance : RdC w0 _ (some ⟨b1, 0, none⟩) [.int .u8 97])) w0 _ 1 (by decide) s1 (some ⟨g1, 0, none⟩) 32 K1 (some ⟨b1, 0, none⟩) 1 [97] hk1.symm rfl hB1) ?_
        rintro v L' ⟨rfl, rfl⟩
        rw [← hD1]
        refine ⟨.inr (sei _ _ _), ?_⟩
        exact va_ext ((hG _ _ _ _).1 (s4211 b2 g4 g5)) rfl (by (repeat' (first | exact Sub.nil _ | refine Sub.cons rfl rfl ?_ | refine Sub.cons rfl ?_ ?_))) (sei _ _ _)
      · refine vo_buildSlice rfl rfl rfl (by decide) (by repeat' (first | exact trivial | rfl | refine ⟨?_, ?_⟩)) (by decide) rfl ?_
        intro s2
        refine ⟨.inr (sei _ _ _), ?_⟩
        exact va_ext ((hG _ _ _ _).1 (s3311 b1 s1 b2 s2 g4 g5)) rfl (by (repeat' (first | exact Sub.nil _ | refine Sub.cons rfl rfl ?_ | refine Sub.cons rfl ?_ ?_))) (sei _ _ _))
    have s3301 : ∀ b1 s1 b2 s2 g5 : Nat, G 5 [true, true, true, true, false, true, true, true, true, false, false, true, false, false] [(48, .slice (some ⟨g1, 0, none⟩) 32 32), (53, .slice (some ⟨g2, 0, none⟩) 32 32), (51, .slice (some ⟨s1, 0, none⟩) 2 2), (56, .slice (some ⟨s2, 0, none⟩) 2 2), (13, .pointer (some ⟨g5, 0, none⟩)), (1, .slice (some ⟨gl, 0, none⟩) 2 2), (2, .slice a4 n4.length c4), (3, .int .i64 0), (5, .bool false), (7, .int .i64 6), (8, .pointer (some ⟨gn, 0, none⟩)), (9, .int .i64 0)] (rd (some ⟨b1, 0, none⟩) [.int .u8 97] :: own 32 1 (some ⟨s1, 0, none⟩) 2 2 [.slice (some ⟨g1, 0, none⟩) 32 32, .slice (some ⟨b1, 0, none⟩) 1 1] :: rd (some ⟨b2, 0, none⟩) [.int .u8 98] :: own 32 1 (some ⟨s2, 0, none⟩) 2 2 [.slice (some ⟨g2, 0, none⟩) 32 32, .slice (some ⟨b2, 0, none⟩) 1 1] :: blk g5 25 (bvs (List.replicate 32 0)) :: blk g2 25 (bvs K2) :: blk g1 25 (bvs K1) :: M0) := fun b1 s1 b2 s2 g5 => (hG _ _ _ _).2 (by
      refine va_two 4 10 (by kernel_rfl) rfl rfl rfl rfl ?_ ?_
      · refine vo_call rfl rfl ?_
        refine vc_mono (tof2_vc (h2 := (inferInstance : RdC w0 _ (some ⟨b1, 0, none⟩) [.int .u8 97])) w0 _ 1 (by decide) s1 (some ⟨g1, 0, none⟩) 32 K1 (some ⟨b1, 0, none⟩) 1 [97] hk1.symm rfl hB1) ?_
        rintro v L' ⟨rfl, rfl⟩
        rw [← hD1]
        refine ⟨.inr (sei _ _ _), ?_⟩
        exact va_ext ((hG _ _ _ _).1 (s4301 b2 s2 g5)) rfl (by (repeat' (first | exact Sub.nil _ | refine Sub.cons rfl rfl ?_ | refine Sub.cons rfl ?_ ?_))) (sei _ _ _)
      · refine vo_alloc rfl ?_
        intro g4
        refine ⟨.inr (sei _ _ _), ?_⟩
        exact va_ext ((hG _ _ _ _).1 (s3311 b1 s1 b2 s2 g4 g5)) rfl (by (repeat' (first | exact Sub.nil _ | refine Sub.cons rfl rfl ?_ | refine Sub.cons rfl ?_ ?_))) (sei _ _ _))
    have s3310 : ∀ b1 s1 b2 s2 g4 : Nat, G 5 [true, true, true, true, false, true, true, true, true, false, true, false, false, false] [(48, .slice (some ⟨g1, 0, none⟩) 32 32), (53, .slice (some ⟨g2, 0, none⟩) 32 32), (51, .slice (some ⟨s1, 0, none⟩) 2 2), (56, .slice (some ⟨s2, 0, none⟩) 2 2), (12, .pointer (some ⟨g4, 0, none⟩)), (1, .slice (some ⟨gl, 0, none⟩) 2 2), (2, .slice a4 n4.length c4), (3, .int .i64 0), (5, .bool false), (7, .int .i64 6), (8, .pointer (some ⟨gn, 0, none⟩)), (9, .int .i64 0)] (rd (some ⟨b1, 0, none⟩) [.int .u8 97] :: own 32 1 (some ⟨s1, 0, none⟩) 2 2 [.slice (some ⟨g1, 0, none⟩) 32 32, .slice (some ⟨b1, 0, none⟩) 1 1] :: rd (some ⟨b2, 0, none⟩) [.int .u8 98] :: own 32 1 (some ⟨s2, 0, none⟩) 2 2 [.slice (some ⟨g2, 0, none⟩) 32 32, .slice (some ⟨b2, 0, none⟩) 1 1] :: blk g4 25 (bvs (List.replicate 32 0)) :: blk g2 25 (bvs K2) :: blk g1 25 (bvs K1) :: M0) := fun b1 s1 b2 s2 g4 => (hG _ _ _ _).2 (by
      refine va_two 4 11 (by kernel_rfl) rfl rfl rfl rfl ?_ ?_
      · refine vo_call rfl rfl ?_
        refine vc_mono (tof2_vc (h2 := (inferInstance : RdC w0 _ (some ⟨b1, 0, none⟩) [.int .u8 97])) w0 _ 1 (by decide) s1 (some ⟨g1, 0, none⟩) 32 K1 (some ⟨b1, 0, none⟩) 1 [97] hk1.symm rfl hB1) ?_
        rintro v L' ⟨rfl, rfl⟩
        rw [← hD1]
        refine ⟨.inr (sei _ _ _), ?_⟩
        exact va_ext ((hG _ _ _ _).1 (s4310 b2 s2 g4)) rfl (by (repeat' (first | exact Sub.nil _ | refine Sub.cons rfl rfl ?_ | refine Sub.cons rfl ?_ ?_))) (sei _ _ _)
      · refine vo_alloc rfl ?_
        intro g5
        refine ⟨.inr (sei _ _ _), ?_⟩
        exact va_ext ((hG _ _ _ _).1 (s3311 b1 s1 b2 s2 g4 g5)) rfl (by (repeat' (first | exact Sub.nil _ | refine Sub.cons rfl rfl ?_ | refine Sub.cons rfl ?_ ?_))) (sei _ _ _))
    have s4111 : ∀ b2 g4 g5 : Nat, G 5 [true, true, true, true, true, true, true, false, false, false, true, true, false, false] [(48, .slice (some ⟨g1, 0, none⟩) 32 32), (53, .slice (some ⟨g2, 0, none⟩) 32 32), (52, .agg (bvs D1).toArray), (54, .slice (some ⟨b2, 0, none⟩) 1 1), (12, .pointer (some ⟨g4, 0, none⟩)), (13, .pointer (some ⟨g5, 0, none⟩)), (1, .slice (some ⟨gl, 0, none⟩) 2 2), (2, .slice a4 n4.length c4), (3, .int .i64 0), (5, .bool false), (7, .int .i64 6), (8, .pointer (some ⟨gn, 0, none⟩)), (9, .int .i64 0)] (own 5 1 (some ⟨b2, 0, none⟩) 1 1 [.int .u8 98] :: blk g4 25 (bvs (List.replicate 32 0)) :: blk g5 25 (bvs (List.replicate 32 0)) :: blk g2 25 (bvs K2) :: blk g1 25 (bvs K1) :: M0) := fun b2 g4 g5 => (hG _ _ _ _).2 (by
      refine va_one 7 (by kernel_rfl) rfl rfl ?_
      · refine vo_convRow rfl rfl ?_
        refine ⟨.inr (sei _ _ _), ?_⟩
        exact va_ext ((hG _ _ _ _).1 (s4211 b2 g4 g5)) rfl (by (repeat' (first | exact Sub.nil _ | refine Sub.cons rfl rfl ?_ | refine Sub.cons rfl ?_ ?_))) (sei _ _ _))
    have s4201 : ∀ b2 g5 : Nat, G 5 [true, true, true, true, true, true, true, true, false, false, false, true, false, false] [(48, .slice (some ⟨g1, 0, none⟩) 32 32), (53, .slice (some ⟨g2, 0, none⟩) 32 32), (52, .agg (bvs D1).toArray), (55, .slice (some ⟨b2, 0, none⟩) 1 1), (13, .pointer (some ⟨g5, 0, none⟩)), (1, .slice (some ⟨gl, 0, none⟩) 2 2), (2, .slice a4 n4.length c4), (3, .int .i64 0), (5, .bool false), (7, .int .i64 6), (8, .pointer (some ⟨gn, 0, none⟩)), (9, .int .i64 0)] (rd (some ⟨b2, 0, none⟩) [.int .u8 98] :: blk g5 25 (bvs (List.replicate 32 0)) :: blk g2 25 (bvs K2) :: blk g1 25 (bvs K1) :: M0) := fun b2 g5 => (hG _ _ _ _).2 (by
      refine va_two 8 10 (by kernel_rfl) rfl rfl rfl rfl ?_ ?_
      · refine vo_buildSlice rfl rfl rfl (by decide) (by repeat' (first | exact trivial | rfl | refine ⟨?_, ?_⟩)) (by decide) rfl ?_
        intro s2
        refine ⟨.inr (sei _ _ _), ?_⟩
        exact va_ext ((hG _ _ _ _).1 (s4301 b2 s2 g5)) rfl (by (repeat' (first | exact Sub.nil _ | refine Sub.cons rfl rfl ?_ | refine Sub.cons rfl ?_ ?_))) (sei _ _ _)
      · refine vo_alloc rfl ?_
        intro g4
        refine ⟨.inr (sei _ _ _), ?_⟩
        exact va_ext ((hG _ _ _ _).1 (s4211 b2 g4 g5)) rfl (by (repeat' (first | exact Sub.nil _ | refine Sub.cons rfl rfl ?_ | refine Sub.cons rfl ?_ ?_))) (sei _ _ _))
    have s4210 : ∀ b2 g4 : Nat, G 5 [true, true, true, true, true, true, true, true, false, false, true, false, false, false] [(48, .slice (some ⟨g1, 0, none⟩) 32 32), (53, .slice (some ⟨g2, 0, none⟩) 32 32), (52, .agg (bvs D1).toArray), (55, .slice (some ⟨b2, 0, none⟩) 1 1), (12, .pointer (some ⟨g4, 0, none⟩)), (1, .slice (some ⟨gl, 0, none⟩) 2 2), (2, .slice a4 n4.length c4), (3, .int .i64 0), (5, .bool false), (7, .int .i64 6), (8, .pointer (some ⟨gn, 0, none⟩)), (9, .int .i64 0)] (rd (some ⟨b2, 0, none⟩) [.int .u8 98] :: blk g4 25 (bvs (List.replicate 32 0)) :: blk g2 25 (bvs K2) :: blk g1 25 (bvs K1) :: M0) := fun b2 g4 => (hG _ _ _ _).2 (by
      refine va_two 8 11 (by kernel_rfl) rfl rfl rfl rfl ?_ ?_
      · refine vo_buildSlice rfl rfl rfl (by decide) (by repeat' (first | exact trivial | rfl | refine ⟨?_, ?_⟩)) (by decide) rfl ?_
        intro s2
        refine ⟨.inr (sei _ _ _), ?_⟩
        exact va_ext ((hG _ _ _ _).1 (s4310 b2 s2 g4)) rfl (by (repeat' (first | exact Sub.nil _ | refine Sub.cons rfl rfl ?_ | refine Sub.cons rfl ?_ ?_))) (sei _ _ _)
      · refine vo_alloc rfl ?_
        intro g5
        refine ⟨.inr (sei _ _ _), ?_⟩
        exact va_ext ((hG _ _ _ _).1 (s4211 b2 g4 g5)) rfl (by (repeat' (first | exact Sub.nil _ | refine Sub.cons rfl rfl ?_ | refine Sub.cons rfl ?_ ?_))) (sei _ _ _))
    have s4300 : ∀ b2 s2 : Nat, G 5 [true, true, true, true, true, true, true, true, true, false, false, false, false, false] [(48, .slice (some ⟨g1, 0, none⟩) 32 32), (53, .slice (some ⟨g2, 0, none⟩) 32 32), (52, .agg (bvs D1).toArray), (56, .slice (some ⟨s2, 0, none⟩) 2 2), (1, .slice (some ⟨gl, 0, none⟩) 2 2), (2, .slice a4 n4.length c4), (3, .int .i64 0), (5, .bool false), (7, .int .i64 6), (8, .pointer (some ⟨gn, 0, none⟩)), (9, .int .i64 0)] (rd (some ⟨b2, 0, none⟩) [.int .u8 98] :: own 32 1 (some ⟨s2, 0, none⟩) 2 2 [.slice (some ⟨g2, 0, none⟩) 32 32, .slice (some ⟨b2, 0, none⟩) 1 1] :: blk g2 25 (bvs K2) :: blk g1 25 (bvs K1) :: M0) := fun b2 s2 => (hG _ _ _ _).2 (by
      refine va_three 9 10 11 (by kernel_rfl) rfl rfl rfl rfl rfl rfl ?_ ?_ ?_
      · refine vo_call rfl rfl ?_
        refine vc_mono (tof2_vc (h2 := (inferInstance : RdC w0 _ (some ⟨b2, 0, none⟩) [.int .u8 98])) w0 _ 1 (by decide) s2 (some ⟨g2, 0, none⟩) 32 K2 (some ⟨b2, 0, none⟩) 1 [98] hk2.symm rfl hB2) ?_
        rintro v L' ⟨rfl, rfl⟩
        rw [← hD2]
        refine ⟨.inr (sei _ _ _), ?_⟩
        exact va_ext ((hG _ _ _ _).1 s4400) rfl (by (repeat' (first | exact Sub.nil _ | refine Sub.cons rfl rfl ?_ | refine Sub.cons rfl ?_ ?_))) (sei _ _ _)
      · refine vo_alloc rfl ?_
        intro g4
        refine ⟨.inr (sei _ _ _), ?_⟩
        exact va_ext ((hG _ _ _ _).1 (s4310 b2 s2 g4)) rfl (by (repeat' (first | exact Sub.nil _ | refine Sub.cons rfl rfl ?_ | refine Sub.cons rfl ?_ ?_))) (sei _ _ _)
      · refine vo_alloc rfl ?_
        intro g5
        refine ⟨.inr (sei _ _ _), ?_⟩
        exact va_ext ((hG _ _ _ _).1 (s4301 b2 s2 g5)) rfl (by (repeat' (first | exact Sub.nil _ | refine Sub.cons rfl rfl ?_ | refine Sub.cons rfl ?_ ?_))) (sei _ _ _))
    have s1311 : ∀ b1 b2 s2 g4 g5 : Nat, G 6 [true, true, false, false, false, true, true, true, true, false, true, true, false, false] [(48, .slice (some ⟨g1, 0, none⟩) 32 32), (53, .slice (some ⟨g2, 0, none⟩) 32 32), (49, .slice (some ⟨b1, 0, none⟩) 1 1), (56, .slice (some ⟨s2, 0, none⟩) 2 2), (12, .pointer (some ⟨g4, 0, none⟩)), (13, .pointer (some ⟨g5, 0, none⟩)), (1, .slice (some ⟨gl, 0, none⟩) 2 2), (2, .slice a4 n4.length c4), (3, .int .i64 0), (5, .bool false), (7, .int .i64 6), (8, .pointer (some ⟨gn, 0, none⟩)), (9, .int .i64 0)] (own 5 1 (some ⟨b1, 0, none⟩) 1 1 [.int .u8 97] :: rd (some ⟨b2, 0, none⟩) [.int .u8 98] :: own 32 1 (some ⟨s2, 0, none⟩) 2 2 [.slice (some ⟨g2, 0, none⟩) 32 32, .slice (some ⟨b2, 0, none⟩) 1 1] :: blk g4 25 (bvs (List.replicate 32 0)) :: blk g5 25 (bvs (List.replicate 32 0)) :: blk g2 25 (bvs K2) :: blk g1 25 (bvs K1) :: M0) := fun b1 b2 s2 g4 g5 => (hG _ _ _ _).2 (by
      refine va_one 2 (by kernel_rfl) rfl rfl ?_
      · refine vo_convRow rfl rfl ?_
        refine ⟨.inr (sei _ _ _), ?_⟩
        exact va_ext ((hG _ _ _ _).1 (s2311 b1 b2 s2 g4 g5)) rfl (by (repeat' (first | exact Sub.nil _ | refine Sub.cons rfl rfl ?_ | refine Sub.cons rfl ?_ ?_))) (sei _ _ _))
    have s2211 : ∀ b1 b2 g4 g5 : Nat, G 6 [true, true, true, false, false, true, true, true, false, false, true, true, false, false] [(48, .slice (some ⟨g1, 0, none⟩) 32 32), (53, .slice (some ⟨g2, 0, none⟩) 32 32), (50, .slice (some ⟨b1, 0, none⟩) 1 1), (55, .slice (some ⟨b2, 0, none⟩) 1 1), (12, .pointer (some ⟨g4, 0, none⟩)), (13, .pointer (some ⟨g5, 0, none⟩)), (1, .slice (some ⟨gl, 0, none⟩) 2 2), (2, .slice a4 n4.length c4), (3, .int .i64 0), (5, .bool false), (7, .int .i64 6), (8, .pointer (some ⟨gn, 0, none⟩)), (9, .int .i64 0)] (rd (some ⟨b1, 0, none⟩) [.int .u8 97] :: rd (some ⟨b2, 0, none⟩) [.int .u8 98] :: blk g4 25 (bvs (List.replicate 32 0)) :: blk g5 25 (bvs (List.replicate 32 0)) :: blk g2 25 (bvs K2) :: blk g1 25 (bvs K1) :: M0) := fun b1 b2 g4 g5 => (hG _ _ _ _).2 (by
      refine va_two 3 8 (by kernel_rfl) rfl rfl rfl rfl ?_ ?_
      · refine vo_buildSlice rfl rfl rfl (by decide) (by repeat' (first | exact trivial | rfl | refine ⟨?_, ?_⟩)) (by decide) rfl ?_
        intro s1
        refine ⟨.inr (sei _ _ _), ?_⟩
        exact va_ext ((hG _ _ _ _).1 (s3211 b1 s1 b2 g4 g5)) rfl (by (repeat' (first | exact Sub.nil _ | refine Sub.cons rfl rfl ?_ | refine Sub.cons rfl ?_ ?_))) (sei _ _ _)
      · refine vo_buildSlice rfl rfl rfl (by decide) (by repeat' (first | exact trivial | rfl | refine ⟨?_, ?_⟩)) (by decide) rfl ?_
        intro s2
        refine ⟨.inr (sei _ _ _), ?_⟩
        exact va_ext ((hG _ _ _ _).1 (s2311 b1 b2 s2 g4 g5)) rfl (by (repeat' (first | exact Sub.nil _ | refine Sub.cons rfl rfl ?_ | refine Sub.cons rfl ?_ ?_))) (sei _ _ _))
    have s2301 : ∀ b1 b2 s2 g5 : Nat, G 6 [true, true, true, false, false, true, true, true, true, false, false, true, false, false] [(48, .slice (some ⟨g1, 0, none⟩) 32 32), (53, .slice (some ⟨g2, 0, none⟩) 32 32), (50, .slice (some ⟨b1, 0, none⟩) 1 1), (56, .slice (some ⟨s2, 0, none⟩) 2 2), (13, .pointer (some ⟨g5, 0, none⟩)), (1, .slice (some ⟨gl, 0, none⟩) 2 2), (2, .slice a4 n4.length c4), (3, .int .i64 0), (5, .bool false), (7, .int .i64 6), (8, .pointer (some ⟨gn, 0, none⟩)), (9, .int .i64 0)] (rd (some ⟨b1, 0, none⟩) [.int .u8 97] :: rd (some ⟨b2, 0, none⟩) [.int .u8 98] :: own 32 1 (some ⟨s2, 0, none⟩) 2 2 [.slice (some ⟨g2, 0, none⟩) 32 32, .slice (some ⟨b2, 0, none⟩) 1 1] :: blk g5 25 (bvs (List.replicate 32 0)) :: blk g2 25 (bvs K2) :: blk g1 25 (bvs K1) :: M0) := fun b1 b2 s2 g5 => (hG _ _ _ _).2 (by
      refine va_two 3 10 (by kernel_rfl) rfl rfl rfl rfl ?_ ?_
      · refine vo_buildSlice rfl rfl rfl (by decide) (by repeat' (first | exact trivial | rfl | refine ⟨?_, ?_⟩)) (by decide) rfl ?_
        intro s1
        refine ⟨.inr (sei _ _ _), ?_⟩
        exact va_ext ((hG _ _ _ _).1 (s3301 b1 s1 b2 s2 g5)) rfl (by (repeat' (first | exact Sub.nil _ | refine Sub.cons rfl rfl ?_ | refine Sub.cons rfl ?_ ?_))) (sei _ _ _)
      · refine vo_alloc rfl ?_
        intro g4
        refine ⟨.inr (sei _ _ _), ?_⟩
        exact va_ext ((hG _ _ _ _).1 (s2311 b1 b2 s2 g4 g5)) rfl (by (repeat' (first | exact Sub.nil _ | refine Sub.cons rfl rfl ?_ | refine Sub.cons rfl ?_ ?_))) (sei _ _ _))
    have s2310 : ∀ b1 b2 s2 g4 : Nat, G 6 [true, true, true, false, false, true, true, true, true, false, true, false, false, false] [(48, .slice (some ⟨g1, 0, none⟩) 32 32), (53, .slice (some ⟨g2, 0, none⟩) 32 32), (50, .slice (some ⟨b1, 0, none⟩) 1 1), (56, .slice (some ⟨s2, 0, none⟩) 2 2), (12, .pointer (some ⟨g4, 0, none⟩)), (1, .slice (some ⟨gl, 0, none⟩) 2 2), (2, .slice a4 n4.length c4), (3, .int .i64 0), (5, .bool false), (7, .int .i64 6), (8, .pointer (some ⟨gn, 0, none⟩)), (9, .int .i64 0)] (rd (some ⟨b1, 0, none⟩) [.int .u8 97] :: rd (some ⟨b2, 0, none⟩) [.int .u8 98] :: own 32 1 (some ⟨s2, 0, none⟩) 2 2 [.slice (some ⟨g2, 0, none⟩) 32 32, .slice (some ⟨b2, 0, none⟩) 1 1] :: blk g4 25 (bvs (List.replicate 32 0)) :: blk g2 25 (bvs K2) :: blk g1 25 (bvs K1) :: M0) := fun b1 b2 s2 g4 => (hG _ _ _ _).2 (by
      refine va_two 3 11 (by kernel_rfl) rfl rfl rfl rfl ?_ ?_
      · refine vo_buildSlice rfl rfl rfl (by decide) (by repeat' (first | exact trivial | rfl | refine ⟨?_, ?_⟩)) (by decide) rfl ?_
        intro s1
        refine ⟨.inr (sei _ _ _), ?_⟩
        exact va_ext ((hG _ _ _ _).1 (s3310 b1 s1 b2 s2 g4)) rfl (by (repeat' (first | exact Sub.nil _ | refine Sub.cons rfl rfl ?_ | refine Sub.cons rfl ?_ ?_))) (sei _ _ _)
      · refine vo_alloc rfl ?_
        intro g5
        refine ⟨.inr (sei _ _ _), ?_⟩
        exact va_ext ((hG _ _ _ _).1 (s2311 b1 b2 s2 g4 g5)) rfl (by (repeat' (first | exact Sub.nil _ | refine Sub.cons rfl rfl ?_ | refine Sub.cons rfl ?_ ?_))) (sei _ _ _))
    have s3111 : ∀ b1 s1 b2 g4 g5 : Nat, G 6 [true, true, true, true, false, true, true, false, false, false, true, true, false, false] [(48, .slice (some ⟨g1, 0, none⟩) 32 32), (53, .slice (some ⟨g2, 0, none⟩) 32 32), (51, .slice (some ⟨s1, 0, none⟩) 2 2), (54, .slice (some ⟨b2, 0, none⟩) 1 1), (12, .pointer (some ⟨g4, 0, none⟩)), (13, .pointer (some ⟨g5, 0, none⟩)), (1, .slice (some ⟨gl, 0, none⟩) 2 2), (2, .slice a4 n4.length c4), (3, .int .i64 0), (5, .bool false), (7, .int .i64 6), (8, .pointer (some ⟨gn, 0, none⟩)), (9, .int .i64 0)] (rd (some ⟨b1, 0, none⟩) [.int .u8 97] :: own 32 1 (some ⟨s1, 0, none⟩) 2 2 [.slice (some ⟨g1, 0, none⟩) 32 32, .slice (some ⟨b1, 0, none⟩) 1 1] :: own 5 1 (some ⟨b2, 0, none⟩) 1 1 [.int .u8 98] :: blk g4 25 (bvs (List.replicate 32 0)) :: blk g5 25 (bvs (List.replicate 32 0)) :: blk g2 25 (bvs K2) :: blk g1 25 (bvs K1) :: M0) := fun b1 s1 b2 g4 g5 => (hG _ _ _ _).2 (by
      refine va_two 4 7 (by kernel_rfl) rfl rfl rfl rfl ?_ ?_
      · refine vo_call rfl rfl ?_
        refine vc_mono (tof2_vc (h2 := (inferInstance : RdC w0 _ (some ⟨b1, 0, none⟩) [.int .u8 97])) w0 _ 1 (by decide) s1 (some ⟨g1, 0, none⟩) 32 K1 (some ⟨b1, 0, none⟩) 1 [97] hk1.symm rfl hB1) ?_
        rintro v L' ⟨rfl, rfl⟩
        rw [← hD1]
        refine ⟨.inr (sei _ _ _), ?_⟩
        exact va_ext ((hG _ _ _ _).1 (s4111 b2 g4 g5)) rfl (by (repeat' (first | exact Sub.nil _ | refine Sub.cons rfl rfl ?_ | refine Sub.cons rfl ?_ ?_))) (sei _ _ _)
      · refine vo_convRow rfl rfl ?_
        refine ⟨.inr (sei _ _ _), ?_⟩
        exact va_ext ((hG _ _ _ _).1 (s3211 b1 s1 b2 g4 g5)) rfl (by (repeat' (first | exact Sub.nil _ | refine Sub.cons rfl rfl ?_ | refine Sub.cons rfl ?_ ?_))) (sei _ _ _))
    have s3201 : ∀ b1 s1 b2 g5 : Nat, G 6 [true, true, true, true, false, true, true, true, false, false, false, true, false, false] [(48, .slice (some ⟨g1, 0, none⟩) 32 32), (53, .slice (some ⟨g2, 0, none⟩) 32 32), (51, .slice (some ⟨s1, 0, none⟩) 2 2), (55, .slice (some ⟨b2, 0, none⟩) 1 1), (13, .pointer (some ⟨g5, 0, none⟩)), (1, .slice (some ⟨gl, 0, none⟩) 2 2), (2, .slice a4 n4.length c4), (3, .int .i64 0), (5, .bool false), (7, .int .i64 6), (8, .pointer (some ⟨gn, 0, none⟩)), (9, .int .i64 0)] (rd (some ⟨b1, 0, none⟩) [.int .u8 97] :: own 32 1 (some ⟨s1, 0, none⟩) 2 2 [.slice (some ⟨g1, 0, none⟩) 32 32, .slice (some ⟨b1, 0, none⟩) 1 1] :: rd (some ⟨b2, 0, none⟩) [.int .u8 98] :: blk g5 25 (bvs (List.replicate 32 0)) :: blk g2 25 (bvs K2) :: blk g1 25 (bvs K1) :: M0) := fun b1 s1 b2 g5 => (hG _ _ _ _).2 (by
      refine va_three 4 8 10 (by kernel_rfl) rfl rfl rfl rfl rfl rfl ?_ ?_ ?_
      · refine vo_call rfl rfl ?_
        refine vc_mono (tof2_vc (h2 := (inferInstance : RdC w0 _ (some ⟨b1, 0, none⟩) [.int .u8 97])) w0 _ 1 (by decide) s1 (some ⟨g1, 0, none⟩) 32 K1 (some ⟨b1, 0, none⟩) 1 [97] hk1.symm rfl hB1) ?_
        rintro v L' ⟨rfl, rfl⟩
        rw [← hD1]
        refine ⟨.inr (sei _ _ _), ?_⟩
        exact va_ext ((hG _ _ _ _).1 (s4201 b2 g5)) rfl (by (repeat' (first | exact Sub.nil _ | refine Sub.cons rfl rfl ?_ | refine Sub.cons rfl ?_ ?_))) (sei _ _ _)
      · refine vo_buildSlice rfl rfl rfl (by decide) (by repeat' (first | exact trivial | rfl | refine ⟨?_, ?_⟩)) (by decide) rfl ?_
        intro s2
        refine ⟨.inr (sei _ _ _), ?_⟩
        exact va_ext ((hG _ _ _ _).1 (s3301 b1 s1 b2 s2 g5)) rfl (by (repeat' (first | exact Sub.nil _ | refine Sub.cons rfl rfl ?_ | refine Sub.cons rfl ?_ ?_))) (sei _ _ _)
      · refine vo_alloc rfl ?_
        intro g4
        refine ⟨.inr (sei _ _ _), ?_⟩
        exact va_ext ((hG _ _ _ _).1 (s3211 b1 s1 b2 g4 g5)) rfl (by (repeat' (first | exact Sub.nil _ | refine Sub.cons rfl rfl ?_ | refine Sub.cons rfl ?_ ?_))) (sei _ _ _))
    have s3210 : ∀ b1 s1 b2 g4 : Nat, G 6 [true, true, true, true, false, true, true, true, false, false, true, false, false, false] [(48, .slice (some ⟨g1, 0, none⟩) 32 32), (53, .slice (some ⟨g2, 0, none⟩) 32 32), (51, .slice (some ⟨s1, 0, none⟩) 2 2), (55, .slice (some ⟨b2, 0, none⟩) 1 1), (12, .pointer (some ⟨g4, 0, none⟩)), (1, .slice (some ⟨gl, 0, none⟩) 2 2), (2, .slice a4 n4.length c4), (3, .int .i64 0), (5, .bool false), (7, .int .i64 6), (8, .pointer (some ⟨gn, 0, none⟩)), (9, .int .i64 0)] (rd (some ⟨b1, 0, none⟩) [.int .u8 97] :: own 32 1 (some ⟨s1, 0, none⟩) 2 2 [.slice (some ⟨g1, 0, none⟩) 32 32, .slice (some ⟨b1, 0, none⟩) 1 1] :: rd (some ⟨b2, 0, none⟩) [.int .u8 98] :: blk g4 25 (bvs (List.replicate 32 0)) :: blk g2 25 (bvs K2) :: blk g1 25 (bvs K1) :: M0) := fun b1 s1 b2 g4 => (hG _ _ _ _).2 (by
      refine va_three 4 8 11 (by kernel_rfl) rfl rfl rfl rfl rfl rfl ?_ ?_ ?_
      · refine vo_call rfl rfl ?_
        refine vc_mono (tof2_vc (h2 := (inferInstance : RdC w0 _ (some ⟨b1, 0, none⟩) [.int .u8 97])) w0 _ 1 (by decide) s1 (some ⟨g1, 0, none⟩) 32 K1 (some ⟨b1, 0, none⟩) 1 [97] hk1.symm rfl hB1) ?_
        rintro v L' ⟨rfl, rfl⟩
        rw [← hD1]
        refine ⟨.inr (sei _ _ _), ?_⟩
        exact va_ext ((hG _ _ _ _).1 (s4210 b2 g4)) rfl (by (repeat' (first | exact Sub.nil _ | refine Sub.cons rfl rfl ?_ | refine Sub.cons rfl ?_ ?_))) (sei _ _ _)
      · refine vo_buildSlice rfl rfl rfl (by decide) (by repeat' (first | exact trivial | rfl | refine ⟨?_, ?_⟩)) (by decide) rfl ?_
        intro s2
        refine ⟨.inr (sei _ _ _), ?_⟩
        exact va_ext ((hG _ _ _ _).1 (s3310 b1 s1 b2 s2 g4)) rfl (by (repeat' (first | exact Sub.nil _ | refine Sub.cons rfl rfl ?_ | refine Sub.cons rfl ?_ ?_))) (sei _ _ _)
      · refine vo_alloc rfl ?_
        intro g5
        refine ⟨.inr (sei _ _ _), ?_⟩
        exact va_ext ((hG _ _ _ _).1 (s3211 b1 s1 b2 g4 g5)) rfl (by (repeat' (first | exact Sub.nil _ | refine Sub.cons rfl rfl ?_ | refine Sub.cons rfl ?_ ?_))) (sei _ _ _))
    have s3300 : ∀ b1 s1 b2 s2 : Nat, G 6 [true, true, true, true, false, true, true, true, true, false, false, false, false, false] [(48, .slice (some ⟨g1, 0, none⟩) 32 32), (53, .slice (some ⟨g2, 0, none⟩) 32 32), (51, .slice (some ⟨s1, 0, none⟩) 2 2), (56, .slice (some ⟨s2, 0, none⟩) 2 2), (1, .slice (some ⟨gl, 0, none⟩) 2 2), (2, .slice a4 n4.length c4), (3, .int .i64 0), (5, .bool false), (7, .int .i64 6), (8, .pointer (some ⟨gn, 0, none⟩)), (9, .int .i64 0)] (rd (some ⟨b1, 0, none⟩) [.int .u8 97] :: own 32 1 (some ⟨s1, 0, none⟩) 2 2 [.slice (some ⟨g1, 0, none⟩) 32 32, .slice (some ⟨b1, 0, none⟩) 1 1] :: rd (some ⟨b2, 0, none⟩) [.int .u8 98] :: own 32 1 (some ⟨s2, 0, none⟩) 2 2 [.slice (some ⟨g2, 0, none⟩) 32 32, .slice (some ⟨b2, 0, none⟩) 1 1] :: blk g2 25 (bvs K2) :: blk g1 25 (bvs K1) :: M0) := fun b1 s1 b2 s2 => (hG _ _ _ _).2 (by
      refine va_three 4 10 11 (by kernel_rfl) rfl rfl rfl rfl rfl rfl ?_ ?_ ?_
      · refine vo_call rfl rfl ?_
        refine vc_mono (tof2_vc (h2 := (inferInstance : RdC w0 _ (some ⟨b1, 0, none⟩) [.int .u8 97])) w0 _ 1 (by decide) s1 (some ⟨g1, 0, none⟩) 32 K1 (some ⟨b1, 0, none⟩) 1 [97] hk1.symm rfl hB1) ?_
        rintro v L' ⟨rfl, rfl⟩
        rw [← hD1]
        refine ⟨.inr (sei _ _ _), ?_⟩
        exact va_ext ((hG _ _ _ _).1 (s4300 b2 s2)) rfl (by (repeat' (first | exact Sub.nil _ | refine Sub.cons rfl rfl ?_ | refine Sub.cons rfl ?_ ?_))) (sei _ _ _)
      · refine vo_alloc rfl ?_
        intro g4
        refine ⟨.inr (sei _ _ _), ?_⟩
        exact va_ext ((hG _ _ _ _).1 (s3310 b1 s1 b2 s2 g4)) rfl (by (repeat' (first | exact Sub.nil _ | refine Sub.cons rfl rfl ?_ | refine Sub.cons rfl ?_ ?_))) (sei _ _ _)
      · refine vo_alloc rfl ?_
        intro g5
        refine ⟨.inr (sei _ _ _), ?_⟩
        exact va_ext ((hG _ _ _ _).1 (s3301 b1 s1 b2 s2 g5)) rfl (by (repeat' (first | exact Sub.nil _ | refine Sub.cons rfl rfl ?_ | refine Sub.cons rfl ?_ ?_))) (sei _ _ _))
    have s4011 : ∀ g4 g5 : Nat, G 6 [true, true, true, true, true, true, false, false, false, false, true, true, false, false] [(48, .slice (some ⟨g1, 0, none⟩) 32 32), (53, .slice (some ⟨g2, 0, none⟩) 32 32), (52, .agg (bvs D1).toArray), (12, .pointer (some ⟨g4, 0, none⟩)), (13, .pointer (some ⟨g5, 0, none⟩)), (1, .slice (some ⟨gl, 0, none⟩) 2 2), (2, .slice a4 n4.length c4), (3, .int .i64 0), (5, .bool false), (7, .int .i64 6), (8, .pointer (some ⟨gn, 0, none⟩)), (9, .int .i64 0)] (blk g4 25 (bvs (List.replicate 32 0)) :: blk g5 25 (bvs (List.replicate 32 0)) :: blk g2 25 (bvs K2) :: blk g1 25 (bvs K1) :: M0) := fun g4 g5 => (hG _ _ _ _).2 (by
      refine va_one 6 (by kernel_rfl) rfl rfl ?_
      · refine vo_buildSlice rfl rfl rfl (by decide) (by repeat' (first | exact trivial | rfl | refine ⟨?_, ?_⟩)) (by decide) rfl ?_
        intro b2
        refine ⟨.inr (sei _ _ _), ?_⟩
        exact va_ext ((hG _ _ _ _).1 (s4111 b2 g4 g5)) rfl (by (repeat' (first | exact Sub.nil _ | refine Sub.cons rfl rfl ?_ | refine Sub.cons rfl ?_ ?_))) (sei _ _ _))
    have s4101 : ∀ b2 g5 : Nat, G 6 [true, true, true, true, true, true, true, false, false, false, false, true, false, false] [(48, .slice (some ⟨g1, 0, none⟩) 32 32), (53, .slice (some ⟨g2, 0, none⟩) 32 32), (52, .agg (bvs D1).toArray), (54, .slice (some ⟨b2, 0, none⟩) 1 1), (13, .pointer (some ⟨g5, 0, none⟩)), (1, .slice (some ⟨gl, 0, none⟩) 2 2), (2, .slice a4 n4.length c4), (3, .int .i64 0), (5, .bool false), (7, .int .i64 6), (8, .pointer (some ⟨gn, 0, none⟩)), (9, .int .i64 0)] (own 5 1 (some ⟨b2, 0, none⟩) 1 1 [.int .u8 98] :: blk g5 25 (bvs (List.replicate 32 0)) :: blk g2 25 (bvs K2) :: blk g1 25 (bvs K1) :: M0) := fun b2 g5 => (hG _ _ _ _).2 (by
      refine va_two 7 10 (by kernel_rfl) rfl rfl rfl rfl ?_ ?_
      · refine vo_convRow rfl rfl ?_
        refine ⟨.inr (sei _ _ _), ?_⟩
        exact va_ext ((hG _ _ _ _).1 (s4201 b2 g5)) rfl (by (repeat' (first | exact Sub.nil _ | refine Sub.cons rfl rfl ?_ | refine Sub.cons rfl ?_ ?_))) (sei _ _ _)
      · refine vo_alloc rfl ?_
        intro g4
        refine ⟨.inr (sei _ _ _), ?_⟩
        exact va_ext ((hG _ _ _ _).1 (s4111 b2 g4 g5)) rfl (by (repeat' (first | exact Sub.nil _ | refine Sub.cons rfl rfl ?_ | refine Sub.cons rfl ?_ ?_))) (sei _ _ _))
    have s4110 : ∀ b2 g4 : Nat, G 6 [true, true, true, true, true, true, true, false, false, false, true, false, false, false] [(48, .slice (some ⟨g1, 0, none⟩) 32 32), (53, .slice (some ⟨g2, 0, none⟩) 32 32), (52, .agg (bvs D1).toArray), (54, .slice (some ⟨b2, 0, none⟩) 1 1), (12, .pointer (some ⟨g4, 0, none⟩)), (1, .slice (some ⟨gl, 0, none⟩) 2 2), (2, .slice a4 n4.length c4), (3, .int .i64 0), (5, .bool false), (7, .int .i64 6), (8, .pointer (some ⟨gn, 0, none⟩)), (9, .int .i64 0)] (own 5 1 (some ⟨b2, 0, none⟩) 1 1 [.int .u8 98] :: blk g4 25 (bvs (List.replicate 32 0)) :: blk g2 25 (bvs K2) :: blk g1 25 (bvs K1) :: M0) := fun b2 g4 => (hG _ _ _ _).2 (by
      refine va_two 7 11 (by kernel_rfl) rfl rfl rfl rfl ?_ ?_
      · refine vo_convRow rfl rfl ?_
        refine ⟨.inr (sei _ _ _), ?_⟩
        exact va_ext ((hG _ _ _ _).1 (s4210 b2 g4)) rfl (by (repeat' (first | exact Sub.nil _ | refine Sub.cons rfl rfl ?_ | refine Sub.cons rfl ?_ ?_))) (sei _ _ _)
      · refine vo_alloc rfl ?_
        intro g5
        refine ⟨.inr (sei _ _ _), ?_⟩
        exact va_ext ((hG _ _ _ _).1 (s4111 b2 g4 g5)) rfl (by (repeat' (first | exact Sub.nil _ | refine Sub.cons rfl rfl ?_ | refine Sub.cons rfl ?_ ?_))) (sei _ _ _))
    have s4200 : ∀ b2 : Nat, G 6 [true, true, true, true, true, true, true, true, false, false, false, false, false, false] [(48, .slice (some ⟨g1, 0, none⟩) 32 32), (53, .slice (some ⟨g2, 0, none⟩) 32 32), (52, .agg (bvs D1).toArray), (55, .slice (some ⟨b2, 0, none⟩) 1 1), (1, .slice (some ⟨gl, 0, none⟩) 2 2), (2, .slice a4 n4.length c4), (3, .int .i64 0), (5, .bool false), (7, .int .i64 6), (8, .pointer (some ⟨gn, 0, none⟩)), (9, .int .i64 0)] (rd (some ⟨b2, 0, none⟩) [.int .u8 98] :: blk g2 25 (bvs K2) :: blk g1 25 (bvs K1) :: M0) := fun b2 => (hG _ _ _ _).2 (by
      refine va_three 8 10 11 (by kernel_rfl) rfl rfl rfl rfl rfl rfl ?_ ?_ ?_
      · refine vo_buildSlice rfl rfl rfl (by decide) (by repeat' (first | exact trivial | rfl | refine ⟨?_, ?_⟩)) (by decide) rfl ?_
        intro s2
        refine ⟨.inr (sei _ _ _), ?_⟩
        exact va_ext ((hG _ _ _ _).1 (s4300 b2 s2)) rfl (by (repeat' (first | exact Sub.nil _ | refine Sub.cons rfl rfl ?_ | refine Sub.cons rfl ?_ ?_))) (sei _ _ _)
      · refine vo_alloc rfl ?_
        intro g4
        refine ⟨.inr (sei _ _ _), ?_⟩
        exact va_ext ((hG _ _ _ _).1 (s4210 b2 g4)) rfl (by (repeat' (first | exact Sub.nil _ | refine Sub.cons rfl rfl ?_ | refine Sub.cons rfl ?_ ?_))) (sei _ _ _)
      · refine vo_alloc rfl ?_
        intro g5
        refine ⟨.inr (sei _ _ _), ?_⟩
        exact va_ext ((hG _ _ _ _).1 (s4201 b2 g5)) rfl (by (repeat' (first | exact Sub.nil _ | refine Sub.cons rfl rfl ?_ | refine Sub.cons rfl ?_ ?_))) (sei _ _ _))
    have s0311 : ∀ b2 s2 g4 g5 : Nat, G 7 [true, false, false, false, false, true, true, true, true, false, true, true, false, false] [(48, .slice (some ⟨g1, 0, none⟩) 32 32), (53, .slice (some ⟨g2, 0, none⟩) 32 32), (56, .slice (some ⟨s2, 0, none⟩) 2 2), (12, .pointer (some ⟨g4, 0, none⟩)), (13, .pointer (some ⟨g5, 0, none⟩)), (1, .slice (some ⟨gl, 0, none⟩) 2 2), (2, .slice a4 n4.length c4), (3, .int .i64 0), (5, .bool false), (7, .int .i64 6), (8, .pointer (some ⟨gn, 0, none⟩)), (9, .int .i64 0)] (rd (some ⟨b2, 0, none⟩) [.int .u8 98] :: own 32 1 (some ⟨s2, 0, none⟩) 2 2 [.slice (some ⟨g2, 0, none⟩) 32 32, .slice (some ⟨b2, 0, none⟩) 1 1] :: blk g4 25 (bvs (List.replicate 32 0)) :: blk g5 25 (bvs (List.replicate 32 0)) :: blk g2 25 (bvs K2) :: blk g1 25 (bvs K1) :: M0) := fun b2 s2 g4 g5 => (hG _ _ _ _).2 (by
      refine va_one 1 (by kernel_rfl) rfl rfl ?_
      · refine vo_buildSlice rfl rfl rfl (by decide) (by repeat' (first | exact trivial | rfl | refine ⟨?_, ?_⟩)) (by decide) rfl ?_
        intro b1
        refine ⟨.inr (sei _ _ _), ?_⟩
        exact va_ext ((hG _ _ _ _).1 (s1311 b1 b2 s2 g4 g5)) rfl (by (repeat' (first | exact Sub.nil _ | refine Sub.cons rfl rfl ?_ | refine Sub.cons rfl ?_ ?_))) (sei _ _ _))
    have s1211 : ∀ b1 b2 g4 g5 : Nat, G 7 [true, true, false, false, false, true, true, true, false, false, true, true, false, false] [(48, .slice (some ⟨g1, 0, none⟩) 32 32), (53, .slice (some ⟨g2, 0, none⟩) 32 32), (49, .slice (some ⟨b1, 0, none⟩) 1 1), (55, .slice (some ⟨b2, 0, none⟩) 1 1), (12, .pointer (some ⟨g4, 0, none⟩)), (13, .pointer (some ⟨g5, 0, none⟩)), (1, .slice (some ⟨gl, 0, none⟩) 2 2), (2, .slice a4 n4.length c4), (3, .int .i64 0), (5, .bool false), (7, .int .i64 6), (8, .pointer (some ⟨gn, 0, none⟩)), (9, .int .i64 0)] (own 5 1 (some ⟨b1, 0, none⟩) 1 1 [.int .u8 97] :: rd (some ⟨b2, 0, none⟩) [.int .u8 98] :: blk g4 25 (bvs (List.replicate 32 0)) :: blk g5 25 (bvs (List.replicate 32 0)) :: blk g2 25 (bvs K2) :: blk g1 25 (bvs K1) :: M0) := fun b1 b2 g4 g5 => (hG _ _ _ _).2 (by
      refine va_two 2 8 (by kernel_rfl) rfl rfl rfl rfl ?_ ?_
      · refine vo_convRow rfl rfl ?_
        refine ⟨.inr (sei _ _ _), ?_⟩
        exact va_ext ((hG _ _ _ _).1 (s2211 b1 b2 g4 g5)) rfl (by (repeat' (first | exact Sub.nil _ | refine Sub.cons rfl rfl ?_ | refine Sub.cons rfl ?_ ?_))) (sei _ _ _)
      · refine vo_buildSlice rfl rfl rfl (by decide) (by repeat' (first | exact trivial | rfl | refine ⟨?_, ?_⟩)) (by decide) rfl ?_
        intro s2
        refine ⟨.inr (sei _ _ _), ?_⟩
        exact va_ext ((hG _ _ _ _).1 (s1311 b1 b2 s2 g4 g5)) rfl (by (repeat' (first | exact Sub.nil _ | refine Sub.cons rfl rfl ?_ | refine Sub.cons rfl ?_ ?_))) (sei _ _ _))
    have s1301 : ∀ b1 b2 s2 g5 : Nat, G 7 [true, true, false, false, false, true, true, true, true, false, false, true, false, false] [(48, .slice (some ⟨g1, 0, none⟩) 32 32), (53, .slice (some ⟨g2, 0, none⟩) 32 32), (49, .slice (some ⟨b1, 0, none⟩) 1 1), (56, .slice (some ⟨s2, 0, none⟩) 2 2), (13, .pointer (some ⟨g5, 0, none⟩)), (1, .slice (some ⟨gl, 0, none⟩) 2 2), (2, .slice a4 n4.length c4), (3, .int .i64 0), (5, .bool false), (7, .int .i64 6), (8, .pointer (some ⟨gn, 0, none⟩)), (9, .int .i64 0)] (own 5 1 (some ⟨b1, 0, none⟩) 1 1 [.int .u8 97] :: rd (some ⟨b2, 0, none⟩) [.int .u8 98] :: own 32 1 (some ⟨s2, 0, none⟩) 2 2 [.slice (some ⟨g2, 0, none⟩) 32 32, .slice (some ⟨b2, 0, none⟩) 1 1] :: blk g5 25 (bvs (List.replicate 32 0)) :: blk g2 25 (bvs K2) :: blk g1 25 (bvs K1) :: M0) := fun b1 b2 s2 g5 => (hG _ _ _ _).2 (by
      refine va_two 2 10 (by kernel_rfl) rfl rfl rfl rfl ?_ ?_
      · refine vo_convRow rfl rfl ?_
        refine ⟨.inr (sei _ _ _), ?_⟩
        exact va_ext ((hG _ _ _ _).1 (s2301 b1 b2 s2 g5)) rfl (by (repeat' (first | exact Sub.nil _ | refine Sub.cons rfl rfl ?_ | refine Sub.cons rfl ?_ ?_))) (sei _ _ _)
      · refine vo_alloc rfl ?_
        intro g4
        refine ⟨.inr (sei _ _ _), ?_⟩
        exact va_ext ((hG _ _ _ _).1 (s1311 b1 b2 s2 g4 g5)) rfl (by (repeat' (first | exact Sub.nil _ | refine Sub.cons rfl rfl ?_ | refine Sub.cons rfl ?_ ?_))) (sei _ _ _))
    have s1310 : ∀ b1 b2 s2 g4 : Nat, G 7 [true, true, false, false, false, true, true, true, true, false, true, false, false, false] [(48, .slice (some ⟨g1, 0, none⟩) 32 32), (53, .slice (some ⟨g2, 0, none⟩) 32 32), (49, .slice (some ⟨b1, 0, none⟩) 1 1), (56, .slice (some ⟨s2, 0, none⟩) 2 2), (12, .pointer (some ⟨g4, 0, none⟩)), (1, .slice (some ⟨gl, 0, none⟩) 2 2), (2, .slice a4 n4.length c4), (3, .int .i64 0), (5, .bool false), (7, .int .i64 6), (8, .pointer (some ⟨gn, 0, none⟩)), (9, .int .i64 0)] (own 5 1 (some ⟨b1, 0, none⟩) 1 1 [.int .u8 97] :: rd (some ⟨b2, 0, none⟩) [.int .u8 98] :: own 32 1 (some ⟨s2, 0, none⟩) 2 2 [.slice (some ⟨g2, 0, none⟩) 32 32, .slice (some ⟨b2, 0, none⟩) 1 1] :: blk g4 25 (bvs (List.replicate 32 0)) :: blk g2 25 (bvs K2) :: blk g1 25 (bvs K1) :: M0) := fun b1 b2 s2 g4 => (hG _ _ _ _).2 (by
      refine va_two 2 11 (by kernel_rfl) rfl rfl rfl rfl ?_ ?_
      · refine vo_convRow rfl rfl ?_
        refine ⟨.inr (sei _ _ _), ?_⟩
        exact va_ext ((hG _ _ _ _).1 (s2310 b1 b2 s2 g4)) rfl (by (repeat' (first | exact Sub.nil _ | refine Sub.cons rfl rfl ?_ | refine Sub.cons rfl ?_ ?_))) (sei _ _ _)
      · refine vo_alloc rfl ?_
        intro g5
        refine ⟨.inr (sei _ _ _), ?_⟩
        exact va_ext ((hG _ _ _ _).1 (s1311 b1 b2 s2 g4 g5)) rfl (by (repeat' (first | exact Sub.nil _ | refine Sub.cons rfl rfl ?_ | refine Sub.cons rfl ?_ ?_))) (sei _ _ _))
    have s2111 : ∀ b1 b2 g4 g5 : Nat, G 7 [true, true, true, false, false, true, true, false, false, false, true, true, false, false] [(48, .slice (some ⟨g1, 0, none⟩) 32 32), (53, .slice (some ⟨g2, 0, none⟩) 32 32), (50, .slice (some ⟨b1, 0, none⟩) 1 1), (54, .slice (some ⟨b2, 0, none⟩) 1 1), (12, .pointer (some ⟨g4, 0, none⟩)), (13, .pointer (some ⟨g5, 0, none⟩)), (1, .slice (some ⟨gl, 0, none⟩) 2 2), (2, .slice a4 n4.length c4), (3, .int .i64 0), (5, .bool false), (7, .int .i64 6), (8, .pointer (some ⟨gn, 0, none⟩)), (9, .int .i64 0)] (rd (some ⟨b1, 0, none⟩) [.int .u8 97] :: own 5 1 (some ⟨b2, 0, none⟩) 1 1 [.int .u8 98] :: blk g4 25 (bvs (List.replicate 32 0)) :: blk g5 25 (bvs (List.replicate 32 0)) :: blk g2 25 (bvs K2) :: blk g1 25 (bvs K1) :: M0) := fun b1 b2 g4 g5 => (hG _ _ _ _).2 (by
      refine va_two 3 7 (by kernel_rfl) rfl rfl rfl rfl ?_ ?_
      · refine vo_buildSlice rfl rfl rfl (by decide) (by repeat' (first | exact trivial | rfl | refine ⟨?_, ?_⟩)) (by decide) rfl ?_
        intro s1
        refine ⟨.inr (sei _ _ _), ?_⟩
        exact va_ext ((hG _ _ _ _).1 (s3111 b1 s1 b2 g4 g5)) rfl (by (repeat' (first | exact Sub.nil _ | refine Sub.cons rfl rfl ?_ | refine Sub.cons rfl ?_ ?_))) (sei _ _ _)
      · refine vo_convRow rfl rfl ?_
        refine ⟨.inr (sei _ _ _), ?_⟩
        exact va_ext ((hG _ _ _ _).1 (s2211 b1 b2 g4 g5)) rfl (by (repeat' (first | exact Sub.nil _ | refine Sub.cons rfl rfl ?_ | refine Sub.cons rfl ?_ ?_))) (sei _ _ _))
    have s2201 : ∀ b1 b2 g5 : Nat, G 7 [true, true, true, false, false, true, true, true, false, false, false, true, false, false] [(48, .slice (some ⟨g1, 0, none⟩) 32 32), (53, .slice (some ⟨g2, 0, none⟩) 32 32), (50, .slice (some ⟨b1, 0, none⟩) 1 1), (55, .slice (some ⟨b2, 0, none⟩) 1 1), (13, .pointer (some ⟨g5, 0, none⟩)), (1, .slice (some ⟨gl, 0, none⟩) 2 2), (2, .slice a4 n4.length c4), (3, .int .i64 0), (5, .bool false), (7, .int .i64 6), (8, .pointer (some ⟨gn, 0, none⟩)), (9, .int .i64 0)] (rd (some ⟨b1, 0, none⟩) [.int .u8 97] :: rd (some ⟨b2, 0, none⟩) [.int .u8 98] :: blk g5 25 (bvs (List.replicate 32 0)) :: blk g2 25 (bvs K2) :: blk g1 25 (bvs K1) :: M0) := fun b1 b2 g5 => (hG _ _ _ _).2 (by
      refine va_three 3 8 10 (by kernel_rfl) rfl rfl rfl rfl rfl rfl ?_ ?_ ?_
      · refine vo_buildSlice rfl rfl rfl (by decide) (by repeat' (first | exact trivial | rfl | refine ⟨?_, ?_⟩)) (by decide) rfl ?_
        intro s1
        refine ⟨.inr (sei _ _ _), ?_⟩
        exact va_ext ((hG _ _ _ _).1 (s3201 b1 s1 b2 g5)) rfl (by (repeat' (first | exact Sub.nil _ | refine Sub.cons rfl rfl ?_ | refine Sub.cons rfl ?_ ?_))) (sei _ _ _)
      · refine vo_buildSlice rfl rfl rfl (by decide) (by repeat' (first | exact trivial | rfl | refine ⟨?_, ?_⟩)) (by decide) rfl ?_
        intro s2
        refine ⟨.inr (sei _ _ _), ?_⟩
        exact va_ext ((hG _ _ _ _).1 (s2301 b1 b2 s2 g5)) rfl (by (repeat' (first | exact Sub.nil _ | refine Sub.cons rfl rfl ?_ | refine Sub.cons rfl ?_ ?_))) (sei _ _ _)
      · refine vo_alloc rfl ?_
        intro g4
        refine ⟨.inr (sei _ _ _), ?_⟩
        exact va_ext ((hG _ _ _ _).1 (s2211 b1 b2 g4 g5)) rfl (by (repeat' (first | exact Sub.nil _ | refine Sub.cons rfl rfl ?_ | refine Sub.cons rfl ?_ ?_))) (sei _ _ _))
    have s2210 : ∀ b1 b2 g4 : Nat, G 7 [true, true, true, false, false, true, true, true, false, false, true, false, false, false] [(48, .slice (some ⟨g1, 0, none⟩) 32 32), (53, .slice (some ⟨g2, 0, none⟩) 32 32), (50, .slice (some ⟨b1, 0, none⟩) 1 1), (55, .slice (some ⟨b2, 0, none⟩) 1 1), (12, .pointer (some ⟨g4, 0, none⟩)), (1, .slice (some ⟨gl, 0, none⟩) 2 2), (2, .slice a4 n4.length c4), (3, .int .i64 0), (5, .bool false), (7, .int .i64 6), (8, .pointer (some ⟨gn, 0, none⟩)), (9, .int .i64 0)] (rd (some ⟨b1, 0, none⟩) [.int .u8 97] :: rd (some ⟨b2, 0, none⟩) [.int .u8 98] :: blk g4 25 (bvs (List.replicate 32 0)) :: blk g2 25 (bvs K2) :: blk g1 25 (bvs K1) :: M0) := fun b1 b2 g4 => (hG _ _ _ _).2 (by
      refine va_three 3 8 11 (by kernel_rfl) rfl rfl rfl rfl rfl rfl ?_ ?_ ?_
      · refine vo_buildSlice rfl rfl rfl (by decide) (by repeat' (first | exact trivial | rfl | refine ⟨?_, ?_⟩)) (by decide) rfl ?_
        intro s1
        refine ⟨.inr (sei _ _ _), ?_⟩
        exact va_ext ((hG _ _ _ _).1 (s3210 b1 s1 b2 g4)) rfl (by (repeat' (first | exact Sub.nil _ | refine Sub.cons rfl rfl ?_ | refine Sub.cons rfl ?_ ?_))) (sei _ _ _)
      · refine vo_buildSlice rfl rfl rfl (by decide) (by repeat' (first | exact trivial | rfl | refine ⟨?_, ?_⟩)) (by decide) rfl ?_
        intro s2
        refine ⟨.inr (sei _ _ _), ?_⟩
        exact va_ext ((hG _ _ _ _).1 (s2310 b1 b2 s2 g4)) rfl (by (repeat' (first | exact Sub.nil _ | refine Sub.cons rfl rfl ?_ | refine Sub.cons rfl ?_ ?_))) (sei _ _ _)
      · refine vo_alloc rfl ?_
        intro g5
        refine ⟨.inr (sei _ _ _), ?_⟩
        exact va_ext ((hG _ _ _ _).1 (s2211 b1 b2 g4 g5)) rfl (by (repeat' (first | exact Sub.nil _ | refine Sub.cons rfl rfl ?_ | refine Sub.cons rfl ?_ ?_))) (sei _ _ _))
    have s2300 : ∀ b1 b2 s2 : Nat, G 7 [true, true, true, false, false, true, true, true, true, false, false, false, false, false] [(48, .slice (some ⟨g1, 0, none⟩) 32 32), (53, .slice (some ⟨g2, 0, none⟩) 32 32), (50, .slice (some ⟨b1, 0, none⟩) 1 1), (56, .slice (some ⟨s2, 0, none⟩) 2 2), (1, .slice (some ⟨gl, 0, none⟩) 2 2), (2, .slice a4 n4.length c4), (3, .int .i64 0), (5, .bool false), (7, .int .i64 6), (8, .pointer (some ⟨gn, 0, none⟩)), (9, .int .i64 0)] (rd (some ⟨b1, 0, none⟩) [.int .u8 97] :: rd (some ⟨b2, 0, none⟩) [.int .u8 98] :: own 32 1 (some ⟨s2, 0, none⟩) 2 2 [.slice (some ⟨g2, 0, none⟩) 32 32, .slice (some ⟨b2, 0, none⟩) 1 1] :: blk g2 25 (bvs K2) :: blk g1 25 (bvs K1) :: M0) := fun b1 b2 s2 => (hG _ _ _ _).2 (by
      refine va_three 3 10 11 (by kernel_rfl) rfl rfl rfl rfl rfl rfl ?_ ?_ ?_
      · refine vo_buildSlice rfl rfl rfl (by decide) (by repeat' (first | exact trivial | rfl | refine ⟨?_, ?_⟩)) (by decide) rfl ?_
        intro s1
        refine ⟨.inr (sei _ _ _), ?_⟩
        exact va_ext ((hG _ _ _ _).1 (s3300 b1 s1 b2 s2)) rfl (by (repeat' (first | exact Sub.nil _ | refine Sub.cons rfl rfl ?_ | refine Sub.cons rfl ?_ ?_))) (sei _ _ _)
      · refine vo_alloc rfl ?_
        intro g4
        refine ⟨.inr (sei _ _ _), ?_⟩
        exact va_ext ((hG _ _ _ _).1 (s2310 b1 b2 s2 g4)) rfl (by (repeat' (first | exact Sub.nil _ | refine Sub.cons rfl rfl ?_ | refine Sub.cons rfl ?_ ?_))) (sei _ _ _)
      · refine vo_alloc rfl ?_
        intro g5
        refine ⟨.inr (sei _ _ _), ?_⟩
        exact va_ext ((hG _ _ _ _).1 (s2301 b1 b2 s2 g5)) rfl (by (repeat' (first | exact Sub.nil _ | refine Sub.cons rfl rfl ?_ | refine Sub.cons rfl ?_ ?_))) (sei _ _ _))
    have s3011 : ∀ b1 s1 g4 g5 : Nat, G 7 [true, true, true, true, false, true, false, false, false, false, true, true, false, false] [(48, .slice (some ⟨g1, 0, none⟩) 32 32), (53, .slice (some ⟨g2, 0, none⟩) 32 32), (51, .slice (some ⟨s1, 0, none⟩) 2 2), (12, .pointer (some ⟨g4, 0, none⟩)), (13, .pointer (some ⟨g5, 0, none⟩)), (1, .slice (some ⟨gl, 0, none⟩) 2 2), (2, .slice a4 n4.length c4), (3, .int .i64 0), (5, .bool false), (7, .int .i64 6), (8, .pointer (some ⟨gn, 0, none⟩)), (9, .int .i64 0)] (rd (some ⟨b1, 0, none⟩) [.int .u8 97] :: own 32 1 (some ⟨s1, 0, none⟩) 2 2 [.slice (some ⟨g1, 0, none⟩) 32 32, .slice (some ⟨b1, 0, none⟩) 1 1] :: blk g4 25 (bvs (List.replicate 32 0)) :: blk g5 25 (bvs (List.replicate 32 0)) :: blk g2 25 (bvs K2) :: blk g1 25 (bvs K1) :: M0) := fun b1 s1 g4 g5 => (hG _ _ _ _).2 (by
      refine va_two 4 6 (by kernel_rfl) rfl rfl rfl rfl ?_ ?_
      · refine vo_call rfl rfl ?_
        refine vc_mono (tof2_vc (h2 := (inferInstance : RdC w0 _ (some ⟨b1, 0, none⟩) [.int .u8 97])) w0 _ 1 (by decide) s1 (some ⟨g1, 0, none⟩) 32 K1 (some ⟨b1, 0, none⟩) 1 [97] hk1.symm rfl hB1) ?_
        rintro v L' ⟨rfl, rfl⟩
        rw [← hD1]
        refine ⟨.inr (sei _ _ _), ?_⟩
        exact va_ext ((hG _ _ _ _).1 (s4011 g4 g5)) rfl (by (repeat' (first | exact Sub.nil _ | refine Sub.cons rfl rfl ?_ | refine Sub.cons rfl ?_ ?_))) (sei _ _ _)
      · refine vo_buildSlice rfl rfl rfl (by decide) (by repeat' (first | exact trivial | rfl | refine ⟨?_, ?_⟩)) (by decide) rfl ?_
        intro b2
        refine ⟨.inr (sei _ _ _), ?_⟩
        exact va_ext ((hG _ _ _ _).1 (s3111 b1 s1 b2 g4 g5)) rfl (by (repeat' (first | exact Sub.nil _ | refine Sub.cons rfl rfl ?_ | refine Sub.cons rfl ?_ ?_))) (sei _ _ _))
    have s3101 : ∀ b1 s1 b2 g5 : Nat, G 7 [true, true, true, true, false, true, true, false, false, false, false, true, false, false] [(48, .slice (some ⟨g1, 0, none⟩) 32 32), (53, .slice (some ⟨g2, 0, none⟩) 32 32), (51, .slice (some ⟨s1, 0, none⟩) 2 2), (54, .slice (some ⟨b2, 0, none⟩) 1 1), (13, .pointer (some ⟨g5, 0, none⟩)), (1, .slice (some ⟨gl, 0, none⟩) 2 2), (2, .slice a4 n4.length c4), (3, .int .i64 0), (5, .bool false), (7, .int .i64 6), (8, .pointer (some ⟨gn, 0, none⟩)), (9, .int .i64 0)] (rd (some ⟨b1, 0, none⟩) [.int .u8 97] :: own 32 1 (some ⟨s1, 0, none⟩) 2 2 [.slice (some ⟨g1, 0, none⟩) 32 32, .slice (some ⟨b1, 0, none⟩) 1 1] :: own 5 1 (some ⟨b2, 0, none⟩) 1 1 [.int .u8 98] :: blk g5 25 (bvs (List.replicate 32 0)) :: blk g2 25 (bvs K2) :: blk g1 25 (bvs K1) :: M0) := fun b1 s1 b2 g5 => (hG _ _ _ _).2 (by
      refine va_three 4 7 10 (by kernel_rfl) rfl rfl rfl rfl rfl rfl ?_ ?_ ?_
      · refine vo_call rfl rfl ?_
        refine vc_mono (tof2_vc (h2 := (inferInstance : RdC w0 _ (some ⟨b1, 0, none⟩) [.int .u8 97])) w0 _ 1 (by decide) s1 (some ⟨g1, 0, none⟩) 32 K1 (some ⟨b1, 0, none⟩) 1 [97] hk1.symm rfl hB1) ?_
        rintro v L' ⟨rfl, rfl⟩
        rw [← hD1]
        refine ⟨.inr (sei _ _ _), ?_⟩
        exact va_ext ((hG _ _ _ _).1 (s4101 b2 g5)) rfl (by (repeat' (first | exact Sub.nil _ | refine Sub.cons rfl rfl ?_ | refine Sub.cons rfl ?_ ?_))) (sei _ _ _)
      · refine vo_convRow rfl rfl ?_
        refine ⟨.inr (sei _ _ _), ?_⟩
        exact va_ext ((hG _ _ _ _).1 (s3201 b1 s1 b2 g5)) rfl (by (repeat' (first | exact Sub.nil _ | refine Sub.cons rfl rfl ?_ | refine Sub.cons rfl ?_ ?_))) (sei _ _ _)
      · refine vo_alloc rfl ?_
        intro g4
        refine ⟨.inr (sei _ _ _), ?_⟩
        exact va_ext ((hG _ _ _ _).1 (s3111 b1 s1 b2 g4 g5)) rfl (by (repeat' (first | exact Sub.nil _ | refine Sub.cons rfl rfl ?_ | refine Sub.cons rfl ?_ ?_))) (sei _ _ _))
    have s3110 : ∀ b1 s1 b2 g4 : Nat, G 7 [true, true, true, true, false, true, true, false, false, false, true, false, false, false] [(48, .slice (some ⟨g1, 0, none⟩) 32 32), (53, .slice (some ⟨g2, 0, none⟩) 32 32), (51, .slice (some ⟨s1, 0, none⟩) 2 2), (54, .slice (some ⟨b2, 0, none⟩) 1 1), (12, .pointer (some ⟨g4, 0, none⟩)), (1, .slice (some ⟨gl, 0, none⟩) 2 2), (2, .slice a4 n4.length c4), (3, .int .i64 0), (5, .bool false), (7, .int .i64 6), (8, .pointer (some ⟨gn, 0, none⟩)), (9, .int .i64 0)] (rd (some ⟨b1, 0, none⟩) [.int .u8 97] :: own 32 1 (some ⟨s1, 0, none⟩) 2 2 [.slice (some ⟨g1, 0, none⟩) 32 32, .slice (some ⟨b1, 0, none⟩) 1 1] :: own 5 1 (some ⟨b2, 0, none⟩) 1 1 [.int .u8 98] :: blk g4 25 (bvs (List.replicate 32 0)) :: blk g2 25 (bvs K2) :: blk g1 25 (bvs K1) :: M0) := fun b1 s1 b2 g4 => (hG _ _ _ _).2 (by
      refine va_three 4 7 11 (by kernel_rfl) rfl rfl rfl rfl rfl rfl ?_ ?_ ?_
      · refine vo_call rfl rfl ?_
        refine vc_mono (tof2_vc (h2 := (inferInstance : RdC w0 _ (some ⟨b1, 0, none⟩) [.int .u8 97])) w0 _ 1 (by decide) s1 (some ⟨g1, 0, none⟩) 32 K1 (some ⟨b1, 0, none⟩) 1 [97] hk1.symm rfl hB1) ?_
        rintro v L' ⟨rfl, rfl⟩
        rw [← hD1]
        refine ⟨.inr (sei _ _ _), ?_⟩
        exact va_ext ((hG _ _ _ _).1 (s4110 b2 g4)) rfl (by (repeat' (first | exact Sub.nil _ | refine Sub.cons rfl rfl ?_ | refine Sub.cons rfl ?_ ?_))) (sei _ _ _)
      · refine vo_convRow rfl rfl ?_
        refine ⟨.inr (sei _ _ _), ?_⟩
        exact va_ext ((hG _ _ _ _).1 (s3210 b1 s1 b2 g4)) rfl (by (repeat' (first | exact Sub.nil _ | refine Sub.cons rfl rfl ?_ | refine Sub.cons rfl ?_ ?_))) (sei _ _ _)
      · refine vo_alloc rfl ?_
        intro g5
        refine ⟨.inr (sei _ _ _), ?_⟩
        exact va_ext ((hG _ _ _ _).1 (s3111 b1 s1 b2 g4 g5)) rfl (by (repeat' (first | exact Sub.nil _ | refine Sub.cons rfl rfl ?_ | refine Sub.cons rfl ?_ ?_))) (sei _ _ _))
    have s3200 : ∀ b1 s1 b2 : Nat, G 7 [true, true, true, true, false, true, true, true, false, false, false, false, false, false] [(48, .slice (some ⟨g1, 0, none⟩) 32 32), (53, .slice (some ⟨g2, 0, none⟩) 32 32), (51, .slice (some ⟨s1, 0, none⟩) 2 2), (55, .slice (some ⟨b2, 0, none⟩) 1 1), (1, .slice (some ⟨gl, 0, none⟩) 2 2), (2, .slice a4 n4.length c4), (3, .int .i64 0), (5, .bool false), (7, .int .i64 6), (8, .pointer (some ⟨gn, 0, none⟩)), (9, .int .i64 0)] (rd (some ⟨b1, 0, none⟩) [.int .u8 97] :: own 32 1 (some ⟨s1, 0, none⟩) 2 2 [.slice (some ⟨g1, 0, none⟩) 32 32, .slice (some ⟨b1, 0, none⟩) 1 1] :: rd (some ⟨b2, 0, none⟩) [.int .u8 98] :: blk g2 25 (bvs K2) :: blk g1 25 (bvs K1) :: M0) := fun b1 s1 b2 => (hG _ _ _ _).2 (by
      refine va_four 4 8 10 11 (by kernel_rfl) rfl rfl rfl rfl rfl rfl rfl rfl ?_ ?_ ?_ ?_
      · refine vo_call rfl rfl ?_
        refine vc_mono (tof2_vc (h2 := (inferInstance : RdC w0 _ (some ⟨b1, 0, none⟩) [.int .u8 97])) w0 _ 1 (by decide) s1 (some ⟨g1, 0, none⟩) 32 K1 (some ⟨b1, 0, none⟩) 1 [97] hk1.symm rfl hB1) ?_
        rintro v L' ⟨rfl, rfl⟩
        rw [← hD1]
        refine ⟨.inr (sei _ _ _), ?_⟩
        exact va_ext ((hG _ _ _ _).1 (s4200 b2)) rfl (by (repeat' (first | exact Sub.nil _ | refine Sub.cons rfl rfl ?_ | refine Sub.cons rfl ?_ ?_))) (sei _ _ _)
      · refine vo_buildSlice rfl rfl rfl (by decide) (by repeat' (first | exact trivial | rfl | refine ⟨?_, ?_⟩)) (by decide) rfl ?_
        intro s2
        refine ⟨.inr (sei _ _ _), ?_⟩
        exact va_ext ((hG _ _ _ _).1 (s3300 b1 s1 b2 s2)) rfl (by (repeat' (first | exact Sub.nil _ | refine Sub.cons rfl rfl ?_ | refine Sub.cons rfl ?_ ?_))) (sei _ _ _)
      · refine vo_alloc rfl ?_
        intro g4
        refine ⟨.inr (sei _ _ _), ?_⟩
        exact va_ext ((hG _ _ _ _).1 (s3210 b1 s1 b2 g4)) rfl (by (repeat' (first | exact Sub.nil _ | refine Sub.cons rfl rfl ?_ | refine Sub.cons rfl ?_ ?_))) (sei _ _ _)
      · refine vo_alloc rfl ?_
        intro g5
        refine ⟨.inr (sei _ _ _), ?_⟩
        exact va_ext ((hG _ _ _ _).1 (s3201 b1 s1 b2 g5)) rfl (by (repeat' (first | exact Sub.nil _ | refine Sub.cons rfl rfl ?_ | refine Sub.cons rfl ?_ ?_))) (sei _ _ _))
    have s4001 : ∀ g5 : Nat, G 7 [true, true, true, true, true, true, false, false, false, false, false, true, false, false] [(48, .slice (some ⟨g1, 0, none⟩) 32 32), (53, .slice (some ⟨g2, 0, none⟩) 32 32), (52, .agg (bvs D1).toArray), (13, .pointer (some ⟨g5, 0, none⟩)), (1, .slice (some ⟨gl, 0, none⟩) 2 2), (2, .slice a4 n4.length c4), (3, .int .i64 0), (5, .bool false), (7, .int .i64 6), (8, .pointer (some ⟨gn, 0, none⟩)), (9, .int .i64 0)] (blk g5 25 (bvs (List.replicate 32 0)) :: blk g2 25 (bvs K2) :: blk g1 25 (bvs K1) :: M0) := fun g5 => (hG _ _ _ _).2 (by
      refine va_two 6 10 (by kernel_rfl) rfl rfl rfl rfl ?_ ?_
      · refine vo_buildSlice rfl rfl rfl (by decide) (by repeat' (first | exact trivial | rfl | refine ⟨?_, ?_⟩)) (by decide) rfl ?_
        intro b2
        refine ⟨.inr (sei _ _ _), ?_⟩
        exact va_ext ((hG _ _ _ _).1 (s4101 b2 g5)) rfl (by (repeat' (first | exact Sub.nil _ | refine Sub.cons rfl rfl ?_ | refine Sub.cons rfl ?_ ?_))) (sei _ _ _)
      · refine vo_alloc rfl ?_
        intro g4
        refine ⟨.inr (sei _ _ _), ?_⟩
        exact va_ext ((hG _ _ _ _).1 (s4011 g4 g5)) rfl (by (repeat' (first | exact Sub.nil _ | refine Sub.cons rfl rfl ?_ | refine Sub.cons rfl ?_ ?_))) (sei _ _ _))
    have s4010 : ∀ g4 : Nat, G 7 [true, true, true, true, true, true, false, false, false, false, true, false, false, false] [(48, .slice (some ⟨g1, 0, none⟩) 32 32), (53, .slice (some ⟨g2, 0, none⟩) 32 32), (52, .agg (bvs D1).toArray), (12, .pointer (some ⟨g4, 0, none⟩)), (1, .slice (some ⟨gl, 0, none⟩) 2 2), (2, .slice a4 n4.length c4), (3, .int .i64 0), (5, .bool false), (7, .int .i64 6), (8, .pointer (some ⟨gn, 0, none⟩)), (9, .int .i64 0)] (blk g4 25 (bvs (List.replicate 32 0)) :: blk g2 25 (bvs K2) :: blk g1 25 (bvs K1) :: M0) := fun g4 => (hG _ _ _ _).2 (by
      refine va_two 6 11 (by kernel_rfl) rfl rfl rfl rfl ?_ ?_
      · refine vo_buildSlice rfl rfl rfl (by decide) (by repeat' (first | exact trivial | rfl | refine ⟨?_, ?_⟩)) (by decide) rfl ?_
        intro b2
        refine ⟨.inr (sei _ _ _), ?_⟩
        exact va_ext ((hG _ _ _ _).1 (s4110 b2 g4)) rfl (by (repeat' (first | exact Sub.nil _ | refine Sub.cons rfl rfl ?_ | refine Sub.cons rfl ?_ ?_))) (sei _ _ _)
      · refine vo_alloc rfl ?_
        intro g5
        refine ⟨.inr (sei _ _ _), ?_⟩
        exact va_ext ((hG _ _ _ _).1 (s4011 g4 g5)) rfl (by (repeat' (first | exact Sub.nil _ | refine Sub.cons rfl rfl ?_ | refine Sub.cons rfl ?_ ?_))) (sei _ _ _))
    have s4100 : ∀ b2 : Nat, G 7 [true, true, true, true, true, true, true, false, false, false, false, false, false, false] [(48, .slice (some ⟨g1, 0, none⟩) 32 32), (53, .slice (some ⟨g2, 0, none⟩) 32 32), (52, .agg (bvs D1).toArray), (54, .slice (some ⟨b2, 0, none⟩) 1 1), (1, .slice (some ⟨gl, 0, none⟩) 2 2), (2, .slice a4 n4.length c4), (3, .int .i64 0), (5, .bool false), (7, .int .i64 6), (8, .pointer (some ⟨gn, 0, none⟩)), (9, .int .i64 0)] (own 5 1 (some ⟨b2, 0, none⟩) 1 1 [.int .u8 98] :: blk g2 25 (bvs K2) :: blk g1 25 (bvs K1) :: M0) := fun b2 => (hG _ _ _ _).2 (by
      refine va_three 7 10 11 (by kernel_rfl) rfl rfl rfl rfl rfl rfl ?_ ?_ ?_
      · refine vo_convRow rfl rfl ?_
        refine ⟨.inr (sei _ _ _), ?_⟩
        exact va_ext ((hG _ _ _ _).1 (s4200 b2)) rfl (by (repeat' (first | exact Sub.nil _ | refine Sub.cons rfl rfl ?_ | refine Sub.cons rfl ?_ ?_))) (sei _ _ _)
      · refine vo_alloc rfl ?_
        intro g4
        refine ⟨.inr (sei _ _ _), ?_⟩
        exact va_ext ((hG _ _ _ _).1 (s4110 b2 g4)) rfl (by (repeat' (first | exact Sub.nil _ | refine Sub.cons rfl rfl ?_ | refine Sub.cons rfl ?_ ?_))) (sei _ _ _)
      · refine vo_alloc rfl ?_
        intro g5
        refine ⟨.inr (sei _ _ _), ?_⟩
        exact va_ext ((hG _ _ _ _).1 (s4101 b2 g5)) rfl (by (repeat' (first | exact Sub.nil _ | refine Sub.cons rfl rfl ?_ | refine Sub.cons rfl ?_ ?_))) (sei _ _ _))
    have s0211 : ∀ b2 g4 g5 : Nat, G 8 [true, false, false, false, false, true, true, true, false, false, true, true, false, false] [(48, .slice (some ⟨g1, 0, none⟩) 32 32), (53, .slice (some ⟨g2, 0, none⟩) 32 32), (55, .slice (some ⟨b2, 0, none⟩) 1 1), (12, .pointer (some ⟨g4, 0, none⟩)), (13, .pointer (some ⟨g5, 0, none⟩)), (1, .slice (some ⟨gl, 0, none⟩) 2 2), (2, .slice a4 n4.length c4), (3, .int .i64 0), (5, .bool false), (7, .int .i64 6), (8, .pointer (some ⟨gn, 0, none⟩)), (9, .int .i64 0)] (rd (some ⟨b2, 0, none⟩) [.int .u8 98] :: blk g4 25 (bvs (List.replicate 32 0)) :: blk g5 25 (bvs (List.replicate 32 0)) :: blk g2 25 (bvs K2) :: blk g1 25 (bvs K1) :: M0) := fun b2 g4 g5 => (hG _ _ _ _).2 (by
      refine va_two 1 8 (by kernel_rfl) rfl rfl rfl rfl ?_ ?_
      · refine vo_buildSlice rfl rfl rfl (by decide) (by repeat' (first | exact trivial | rfl | refine ⟨?_, ?_⟩)) (by decide) rfl ?_
        intro b1
        refine ⟨.inr (sei _ _ _), ?_⟩
        exact va_ext ((hG _ _ _ _).1 (s1211 b1 b2 g4 g5)) rfl (by (repeat' (first | exact Sub.nil _ | refine Sub.cons rfl rfl ?_ | refine Sub.cons rfl ?_ ?_))) (sei _ _ _)
      · refine vo_buildSlice rfl rfl rfl (by decide) (by repeat' (first | exact trivial | rfl | refine ⟨?_, ?_⟩)) (by decide) rfl ?_
        intro s2
        refine ⟨.inr (sei _ _ _), ?_⟩
        exact va_ext ((hG _ _ _ _).1 (s0311 b2 s2 g4 g5)) rfl (by (repeat' (first | exact Sub.nil _ | refine Sub.cons rfl rfl ?_ | refine Sub.cons rfl ?_ ?_))) (sei _ _ _))
    have s0301 : ∀ b2 s2 g5 : Nat, G 8 [true, false, false, false, false, true, true, true, true, false, false, true, false, false] [(48, .slice (some ⟨g1, 0, none⟩) 32 32), (53, .slice (some ⟨g2, 0, none⟩) 32 32), (56, .slice (some ⟨s2, 0, none⟩) 2 2), (13, .pointer (some ⟨g5, 0, none⟩)), (1, .slice (some ⟨gl, 0, none⟩) 2 2), (2, .slice a4 n4.length c4), (3, .int .i64 0), (5, .bool false), (7, .int .i64 6), (8, .pointer (some ⟨gn, 0, none⟩)), (9, .int .i64 0)] (rd (some ⟨b2, 0, none⟩) [.int .u8 98] :: own 32 1 (some ⟨s2, 0, none⟩) 2 2 [.slice (some ⟨g2, 0, none⟩) 32 32, .slice (some ⟨b2, 0, none⟩) 1 1] :: blk g5 25 (bvs (List.replicate 32 0)) :: blk g2 25 (bvs K2) :: blk g1 25 (bvs K1) :: M0) := fun b2 s2 g5 => (hG _ _ _ _).2 (by
      refine va_two 1 10 (by kernel_rfl) rfl rfl rfl rfl ?_ ?_
      · refine vo_buildSlice rfl rfl rfl (by decide) (by repeat' (first | exact trivial | rfl | refine ⟨?_, ?_⟩)) (by decide) rfl ?_
        intro b1
        refine ⟨.inr (sei _ _ _), ?_⟩
        exact va_ext ((hG _ _ _ _).1 (s1301 b1 b2 s2 g5)) rfl (by (repeat' (first | exact Sub.nil _ | refine Sub.cons rfl rfl ?_ | refine Sub.cons rfl ?_ ?_))) (sei _ _ _)
      · refine vo_alloc rfl ?_
        intro g4
        refine ⟨.inr (sei _ _ _), ?_⟩
        exact va_ext ((hG _ _ _ _).1 (s0311 b2 s2 g4 g5)) rfl (by (repeat' (first | exact Sub.nil _ | refine Sub.cons rfl rfl ?_ | refine Sub.cons rfl ?_ ?_))) (sei _ _ _))
    have s0310 : ∀ b2 s2 g4 : Nat, G 8 [true, false, false, false, false, true, true, true, true, false, true, false, false, false] [(48, .slice (some ⟨g1, 0, none⟩) 32 32), (53, .slice (some ⟨g2, 0, none⟩) 32 32), (56, .slice (some ⟨s2, 0, none⟩) 2 2), (12, .pointer (some ⟨g4, 0, none⟩)), (1, .slice (some ⟨gl, 0, none⟩) 2 2), (2, .slice a4 n4.length c4), (3, .int .i64 0), (5, .bool false), (7, .int .i64 6), (8, .pointer (some ⟨gn, 0, none⟩)), (9, .int .i64 0)] (rd (some ⟨b2, 0, none⟩) [.int .u8 98] :: own 32 1 (some ⟨s2, 0, none⟩) 2 2 [.slice (some ⟨g2, 0, none⟩) 32 32, .slice (some ⟨b2, 0, none⟩) 1 1] :: blk g4 25 (bvs (List.replicate 32 0)) :: blk g2 25 (bvs K2) :: blk g1 25 (bvs K1) :: M0) := fun b2 s2 g4 => (hG _ _ _ _).2 (by
      refine va_two 1 11 (by kernel_rfl) rfl rfl rfl rfl ?_ ?_
      · refine vo_buildSlice rfl rfl rfl (by decide) (by repeat' (first | exact trivial | rfl | refine ⟨?_, ?_⟩)) (by decide) rfl ?_
        intro b1
        refine ⟨.inr (sei _ _ _), ?_⟩
        exact va_ext ((hG _ _ _ _).1 (s1310 b1 b2 s2 g4)) rfl (by (repeat' (first | exact Sub.nil _ | refine Sub.cons rfl rfl ?_ | refine Sub.cons rfl ?_ ?_))) (sei _ _ _)
      · refine vo_alloc rfl ?_
        intro g5
        refine ⟨.inr (sei _ _ _), ?_⟩
        exact va_ext ((hG _ _ _ _).1 (s0311 b2 s2 g4 g5)) rfl (by (repeat' (first | exact Sub.nil _ | refine Sub.cons rfl rfl ?_ | refine Sub.cons rfl ?_ ?_))) (sei _ _ _))
    have s1111 : ∀ b1 b2 g4 g5 : Nat, G 8 [true, true, false, false, false, true, true, false, false, false, true, true, false, false] [(48, .slice (some ⟨g1, 0, none⟩) 32 32), (53, .slice (some ⟨g2, 0, none⟩) 32 32), (49, .slice (some ⟨b1, 0, none⟩) 1 1), (54, .slice (some ⟨b2, 0, none⟩) 1 1), (12, .pointer (some ⟨g4, 0, none⟩)), (13, .pointer (some ⟨g5, 0, none⟩)), (1, .slice (some ⟨gl, 0, none⟩) 2 2), (2, .slice a4 n4.length c4), (3, .int .i64 0), (5, .bool false), (7, .int .i64 6), (8, .pointer (some ⟨gn, 0, none⟩)), (9, .int .i64 0)] (own 5 1 (some ⟨b1, 0, none⟩) 1 1 [.int .u8 97] :: own 5 1 (some ⟨b2, 0, none⟩) 1 1 [.int .u8 98] :: blk g4 25 (bvs (List.replicate 32 0)) :: blk g5 25 (bvs (List.replicate 32 0)) :: blk g2 25 (bvs K2) :: blk g1 25 (bvs K1) :: M0) := fun b1 b2 g4 g5 => (hG _ _ _ _).2 (by
      refine va_two 2 7 (by kernel_rfl) rfl rfl rfl rfl ?_ ?_
      · refine vo_convRow rfl rfl ?_
        refine ⟨.inr (sei _ _ _), ?_⟩
        exact va_ext ((hG _ _ _ _).1 (s2111 b1 b2 g4 g5)) rfl (by (repeat' (first | exact Sub.nil _ | refine Sub.cons rfl rfl ?_ | refine Sub.cons rfl ?_ ?_))) (sei _ _ _)
      · refine vo_convRow rfl rfl ?_
        refine ⟨.inr (sei _ _ _), ?_⟩
        exact va_ext ((hG _ _ _ _).1 (s1211 b1 b2 g4 g5)) rfl (by (repeat' (first | exact Sub.nil _ | refine Sub.cons rfl rfl ?_ | refine Sub.cons rfl ?_ ?_))) (sei _ _ _))
    have s1201 : ∀ b1 b2 g5 : Nat, G 8 [true, true, false, false, false, true, true, true, false, false, false, true, false, false] [(48, .slice (some ⟨g1, 0, none⟩) 32 32), (53, .slice (some ⟨g2, 0, none⟩) 32 32), (49, .slice (some ⟨b1, 0, none⟩) 1 1), (55, .slice (some ⟨b2, 0, none⟩) 1 1), (13, .pointer (some ⟨g5, 0, none⟩)), (1, .slice (some ⟨gl, 0, none⟩) 2 2), (2, .slice a4 n4.length c4), (3, .int .i64 0), (5, .bool false), (7, .int .i64 6), (8, .pointer (some ⟨gn, 0, none⟩)), (9, .int .i64 0)] (own 5 1 (some ⟨b1, 0, none⟩) 1 1 [.int .u8 97] :: rd (some ⟨b2, 0, none⟩) [.int .u8 98] :: blk g5 25 (bvs (List.replicate 32 0)) :: blk g2 25 (bvs K2) :: blk g1 25 (bvs K1) :: M0) := fun b1 b2 g5 => (hG _ _ _ _).2 (by
      refine va_three 2 8 10 (by kernel_rfl) rfl rfl rfl rfl rfl rfl ?_ ?_ ?_
      · refine vo_convRow rfl rfl ?_
        refine ⟨.inr (sei _ _ _), ?_⟩
        exact va_ext ((hG _ _ _ _).1 (s2201 b1 b2 g5)) rfl (by (repeat' (first | exact Sub.nil _ | refine Sub.cons rfl rfl ?_ | refine Sub.cons rfl ?_ ?_))) (sei _ _ _)
      · refine vo_buildSlice rfl rfl rfl (by decide) (by repeat' (first | exact trivial | rfl | refine ⟨?_, ?_⟩)) (by decide) rfl ?_
        intro s2
        refine ⟨.inr (sei _ _ _), ?_⟩
        exact va_ext ((hG _ _ _ _).1 (s1301 b1 b2 s2 g5)) rfl (by (repeat' (first | exact Sub.nil _ | refine Sub.cons rfl rfl ?_ | refine Sub.cons rfl ?_ ?_))) (sei _ _ _)
      · refine vo_alloc rfl ?_
        intro g4
        refine ⟨.inr (sei _ _ _), ?_⟩
        exact va_ext ((hG _ _ _ _).1 (s1211 b1 b2 g4 g5)) rfl (by (repeat' (first | exact Sub.nil _ | refine Sub.cons rfl rfl ?_ | refine Sub.cons rfl ?_ ?_))) (sei _ _ _))
    have s1210 : ∀ b1 b2 g4 : Nat, G 8 [true, true, false, false, false, true, true, true, false, false, true, false, false, false] [(48, .slice (some ⟨g1, 0, none⟩) 32 32), (53, .slice (some ⟨g2, 0, none⟩) 32 32), (49, .slice (some ⟨b1, 0, none⟩) 1 1), (55, .slice (some ⟨b2, 0, none⟩) 1 1), (12, .pointer (some ⟨g4, 0, none⟩)), (1, .slice (some ⟨gl, 0, none⟩) 2 2), (2, .slice a4 n4.length c4), (3, .int .i64 0), (5, .bool false), (7, .int .i64 6), (8, .pointer (some ⟨gn, 0, none⟩)), (9, .int .i64 0)] (own 5 1 (some ⟨b1, 0, none⟩) 1 1 [.int .u8 97] :: rd (some ⟨b2, 0, none⟩) [.int .u8 98] :: blk g4 25 (bvs (List.replicate 32 0)) :: blk g2 25 (bvs K2) :: blk g1 25 (bvs K1) :: M0) := fun b1 b2 g4 => (hG _ _ _ _).2 (by
      refine va_three 2 8 11 (by kernel_rfl) rfl rfl rfl rfl rfl rfl ?_ ?_ ?_
      · refine vo_convRow rfl rfl ?_
        refine ⟨.inr (sei _ _ _), ?_⟩
        exact va_ext ((hG _ _ _ _).1 (s2210 b1 b2 g4)) rfl (by (repeat' (first | exact Sub.nil _ | refine Sub.cons rfl rfl ?_ | refine Sub.cons rfl ?_ ?_))) (sei _ _ _)
      · refine vo_buildSlice rfl rfl rfl (by decide) (by repeat' (first | exact trivial | rfl | refine ⟨?_, ?_⟩)) (by decide) rfl ?_
        intro s2
        refine ⟨.inr (sei _ _ _), ?_⟩
        exact va_ext ((hG _ _ _ _).1 (s1310 b1 b2 s2 g4)) rfl (by (repeat' (first | exact Sub.nil _ | refine Sub.cons rfl rfl ?_ | refine Sub.cons rfl ?_ ?_))) (sei _ _ _)
      · refine vo_alloc rfl ?_
        intro g5
        refine ⟨.inr (sei _ _ _), ?_⟩
        exact va_ext ((hG _ _ _ _).1 (s1211 b1 b2 g4 g5)) rfl (by (repeat' (first | exact Sub.nil _ | refine Sub.cons rfl rfl ?_ | refine Sub.cons rfl ?_ ?_))) (sei _ _ _))
    have s1300 : ∀ b1 b2 s2 : Nat, G 8 [true, true, false, false, false, true, true, true, true, false, false, false, false, false] [(48, .slice (some ⟨g1, 0, none⟩) 32 32), (53, .slice (some ⟨g2, 0, none⟩) 32 32), (49, .slice (some ⟨b1, 0, none⟩) 1 1), (56, .slice (some ⟨s2, 0, none⟩) 2 2), (1, .slice (some ⟨gl, 0, none⟩) 2 2), (2, .slice a4 n4.length c4), (3, .int .i64 0), (5, .bool false), (7, .int .i64 6), (8, .pointer (some ⟨gn, 0, none⟩)), (9, .int .i64 0)] (own 5 1 (some ⟨b1, 0, none⟩) 1 1 [.int .u8 97] :: rd (some ⟨b2, 0, none⟩) [.int .u8 98] :: own 32 1 (some ⟨s2, 0, none⟩) 2 2 [.slice (some ⟨g2, 0, none⟩) 32 32, .slice (some ⟨b2, 0, none⟩) 1 1] :: blk g2 25 (bvs K2) :: blk g1 25 (bvs K1) :: M0) := fun b1 b2 s2 => (hG _ _ _ _).2 (by
      refine va_three 2 10 11 (by kernel_rfl) rfl rfl rfl rfl rfl rfl ?_ ?_ ?_
      · refine vo_convRow rfl rfl ?_
        refine ⟨.inr (sei _ _ _), ?_⟩
        exact va_ext ((hG _ _ _ _).1 (s2300 b1 b2 s2)) rfl (by (repeat' (first | exact Sub.nil _ | refine Sub.cons rfl rfl ?_ | refine Sub.cons rfl ?_ ?_))) (sei _ _ _)
      · refine vo_alloc rfl ?_
        intro g4
        refine ⟨.inr (sei _ _ _), ?_⟩
        exact va_ext ((hG _ _ _ _).1 (s1310 b1 b2 s2 g4)) rfl (by (repeat' (first | exact Sub.nil _ | refine Sub.cons rfl rfl ?_ | refine Sub.cons rfl ?_ ?_))) (sei _ _ _)
      · refine vo_alloc rfl ?_
        intro g5
        refine ⟨.inr (sei _ _ _), ?_⟩
        exact va_ext ((hG _ _ _ _).1 (s1301 b1 b2 s2 g5)) rfl (by (repeat' (first | exact Sub.nil _ | refine Sub.cons rfl rfl ?_ | refine Sub.cons rfl ?_ ?_))) (sei _ _ _))
    have s2011 : ∀ b1 g4 g5 : Nat, G 8 [true, true, true, false, false, true, false, false, false, false, true, true, false, false] [(48, .slice (some ⟨g1, 0, none⟩) 32 32), (53, .slice (some ⟨g2, 0, none⟩) 32 32), (50, .slice (some ⟨b1, 0, none⟩) 1 1), (12, .pointer (some ⟨g4, 0, none⟩)), (13, .pointer (some ⟨g5, 0, none⟩)), (1, .slice (some ⟨gl, 0, none⟩) 2 2), (2, .slice a4 n4.length c4), (3, .int .i64 0), (5, .bool false), (7, .int .i64 6), (8, .pointer (some ⟨gn, 0, none⟩)), (9, .int .i64 0)] (rd (some ⟨b1, 0, none⟩) [.int .u8 97] :: blk g4 25 (bvs (List.replicate 32 0)) :: blk g5 25 (bvs (List.replicate 32 0)) :: blk g2 25 (bvs K2) :: blk g1 25 (bvs K1) :: M0) := fun b1 g4 g5 => (hG _ _ _ _).2 (by
      refine va_two 3 6 (by kernel_rfl) rfl rfl rfl rfl ?_ ?_
      · refine vo_buildSlice rfl rfl rfl (by decide) (by repeat' (first | exact trivial | rfl | refine ⟨?_, ?_⟩)) (by decide) rfl ?_
        intro s1
        refine ⟨.inr (sei _ _ _), ?_⟩
        exact va_ext ((hG _ _ _ _).1 (s3011 b1 s1 g4 g5)) rfl (by (repeat' (first | exact Sub.nil _ | refine Sub.cons rfl rfl ?_ | refine Sub.cons rfl ?_ ?_))) (sei _ _ _)
      · refine vo_buildSlice rfl rfl rfl (by decide) (by repeat' (first | exact trivial | rfl | refine ⟨?_, ?_⟩)) (by decide) rfl ?_
        intro b2
        refine ⟨.inr (sei _ _ _), ?_⟩
        exact va_ext ((hG _ _ _ _).1 (s2111 b1 b2 g4 g5)) rfl (by (repeat' (first | exact Sub.nil _ | refine Sub.cons rfl rfl ?_ | refine Sub.cons rfl ?_ ?_))) (sei _ _ _))
    have s2101 : ∀ b1 b2 g5 : Nat, G 8 [true, true, true, false, false, true, true, false, false, false, false, true, false, false] [(48, .slice (some ⟨g1, 0, none⟩) 32 32), (53, .slice (some ⟨g2, 0, none⟩) 32 32), (50, .slice (some ⟨b1, 0, none⟩) 1 1), (54, .slice (some ⟨b2, 0, none⟩) 1 1), (13, .pointer (some ⟨g5, 0, none⟩)), (1, .slice (some ⟨gl, 0, none⟩) 2 2), (2, .slice a4 n4.length c4), (3, .int .i64 0), (5, .bool false), (7, .int .i64 6), (8, .pointer (some ⟨gn, 0, none⟩)), (9, .int .i64 0)] (rd (some ⟨b1, 0, none⟩) [.int .u8 97] :: own 5 1 (some ⟨b2, 0, none⟩) 1 1 [.int .u8 98] :: blk g5 25 (bvs (List.replicate 32 0)) :: blk g2 25 (bvs K2) :: blk g1 25 (bvs K1) :: M0) := fun b1 b2 g5 => (hG _ _ _ _).2 (by
      refine va_three 3 7 10 (by kernel_rfl) rfl rfl rfl rfl rfl rfl ?_ ?_ ?_
      · refine vo_buildSlice rfl rfl rfl (by decide) (by repeat' (first | exact trivial | rfl | refine ⟨?_, ?_⟩)) (by decide) rfl ?_
        intro s1
        refine ⟨.inr (sei _ _ _), ?_⟩
        exact va_ext ((hG _ _ _ _).1 (s3101 b1 s1 b2 g5)) rfl (by (repeat' (first | exact Sub.nil _ | refine Sub.cons rfl rfl ?_ | refine Sub.cons rfl ?_ ?_))) (sei _ _ _)
      · refine vo_convRow rfl rfl ?_
        refine ⟨.inr (sei _ _ _), ?_⟩
        exact va_ext ((hG _ _ _ _).1 (s2201 b1 b2 g5)) rfl (by (repeat' (first | exact Sub.nil _ | refine Sub.cons rfl rfl ?_ | refine Sub.cons rfl ?_ ?_))) (sei _ _ _)
      · refine vo_alloc rfl ?_
        intro g4
        refine ⟨.inr (sei _ _ _), ?_⟩
        exact va_ext ((hG _ _ _ _).1 (s2111 b1 b2 g4 g5)) rfl (by (repeat' (first | exact Sub.nil _ | refine Sub.cons rfl rfl ?_ | refine Sub.cons rfl ?_ ?_))) (sei _ _ _))
    have s2110 : ∀ b1 b2 g4 : Nat, G 8 [true, true, true, false, false, true, true, false, false, false, true, false, false, false] [(48, .slice (some ⟨g1, 0, none⟩) 32 32), (53, .slice (some ⟨g2, 0, none⟩) 32 32), (50, .slice (some ⟨b1, 0, none⟩) 1 1), (54, .slice (some ⟨b2, 0, none⟩) 1 1), (12, .pointer (some ⟨g4, 0, none⟩)), (1, .slice (some ⟨gl, 0, none⟩) 2 2), (2, .slice a4 n4.length c4), (3, .int .i64 0), (5, .bool false), (7, .int .i64 6), (8, .pointer (some ⟨gn, 0, none⟩)), (9, .int .i64 0)] (rd (some ⟨b1, 0, none⟩) [.int .u8 97] :: own 5 1 (some ⟨b2, 0, none⟩) 1 1 [.int .u8 98] :: blk g4 25 (bvs (List.replicate 32 0)) :: blk g2 25 (bvs K2) :: blk g1 25 (bvs K1) :: M0) := fun b1 b2 g4 => (hG _ _ _ _).2 (by
      refine va_three 3 7 11 (by kernel_rfl) rfl rfl rfl rfl rfl rfl ?_ ?_ ?_
      · refine vo_buildSlice rfl rfl rfl (by decide) (by repeat' (first | exact trivial | rfl | refine ⟨?_, ?_⟩)) (by decide) rfl ?_
        intro s1
        refine ⟨.inr (sei _ _ _), ?_⟩
        exact va_ext ((hG _ _ _ _).1 (s3110 b1 s1 b2 g4)) rfl (by (repeat' (first | exact Sub.nil _ | refine Sub.cons rfl rfl ?_ | refine Sub.cons rfl ?_ ?_))) (sei _ _ _)
      · refine vo_convRow rfl rfl ?_
        refine ⟨.inr (sei _ _ _), ?_⟩
        exact va_ext ((hG _ _ _ _).1 (s2210 b1 b2 g4)) rfl (by (repeat' (first | exact Sub.nil _ | refine Sub.cons rfl rfl ?_ | refine Sub.cons rfl ?_ ?_))) (sei _ _ _)
      · refine vo_alloc rfl ?_
        intro g5
        refine ⟨.inr (sei _ _ _), ?_⟩
        exact va_ext ((hG _ _ _ _).1 (s2111 b1 b2 g4 g5)) rfl (by (repeat' (first | exact Sub.nil _ | refine Sub.cons rfl rfl ?_ | refine Sub.cons rfl ?_ ?_))) (sei _ _ _))
    have s2200 : ∀ b1 b2 : Nat, G 8 [true, true, true, false, false, true, true, true, false, false, false, false, false, false] [(48, .slice (some ⟨g1, 0, none⟩) 32 32), (53, .slice (some ⟨g2, 0, none⟩) 32 32), (50, .slice (some ⟨b1, 0, none⟩) 1 1), (55, .slice (some ⟨b2, 0, none⟩) 1 1), (1, .slice (some ⟨gl, 0, none⟩) 2 2), (2, .slice a4 n4.length c4), (3, .int .i64 0), (5, .bool false), (7, .int .i64 6), (8, .pointer (some ⟨gn, 0, none⟩)), (9, .int .i64 0)] (rd (some ⟨b1, 0, none⟩) [.int .u8 97] :: rd (some ⟨b2, 0, none⟩) [.int .u8 98] :: blk g2 25 (bvs K2) :: blk g1 25 (bvs K1) :: M0) := fun b1 b2 => (hG _ _ _ _).2 (by
      refine va_four 3 8 10 11 (by kernel_rfl) rfl rfl rfl rfl rfl rfl rfl rfl ?_ ?_ ?_ ?_
      · refine vo_buildSlice rfl rfl rfl (by decide) (by repeat' (first | exact trivial | rfl | refine ⟨?_, ?_⟩)) (by decide) rfl ?_
        intro s1
        refine ⟨.inr (sei _ _ _), ?_⟩
        exact va_ext ((hG _ _ _ _).1 (s3200 b1 s1 b2)) rfl (by (repeat' (first | exact Sub.nil _ | refine Sub.cons rfl rfl ?_ | refine Sub.cons rfl ?_ ?_))) (sei _ _ _)
      · refine vo_buildSlice rfl rfl rfl (by decide) (by repeat' (first | exact trivial | rfl | refine ⟨?_, ?_⟩)) (by decide) rfl ?_
        intro s2
        refine ⟨.inr (sei _ _ _), ?_⟩
        exact va_ext ((hG _ _ _ _).1 (s2300 b1 b2 s2)) rfl (by (repeat' (first | exact Sub.nil _ | refine Sub.cons rfl rfl ?_ | refine Sub.cons rfl ?_ ?_))) (sei _ _ _)
      · refine vo_alloc rfl ?_
        intro g4
        refine ⟨.inr (sei _ _ _), ?_⟩
        exact va_ext ((hG _ _ _ _).1 (s2210 b1 b2 g4)) rfl (by (repeat' (first | exact Sub.nil _ | refine Sub.cons rfl rfl ?_ | refine Sub.cons rfl ?_ ?_))) (sei _ _ _)
      · refine vo_alloc rfl ?_
        intro g5
        refine ⟨.inr (sei _ _ _), ?_⟩
        exact va_ext ((hG _ _ _ _).1 (s2201 b1 b2 g5)) rfl (by (repeat' (first | exact Sub.nil _ | refine Sub.cons rfl rfl ?_ | refine Sub.cons rfl ?_ ?_))) (sei _ _ _))
    have s3001 : ∀ b1 s1 g5 : Nat, G 8 [true, true, true, true, false, true, false, false, false, false, false, true, false, false] [(48, .slice (some ⟨g1, 0, none⟩) 32 32), (53, .slice (some ⟨g2, 0, none⟩) 32 32), (51, .slice (some ⟨s1, 0, none⟩) 2 2), (13, .pointer (some ⟨g5, 0, none⟩)), (1, .slice (some ⟨gl, 0, none⟩) 2 2), (2, .slice a4 n4.length c4), (3, .int .i64 0), (5, .bool false), (7, .int .i64 6), (8, .pointer (some ⟨gn, 0, none⟩)), (9, .int .i64 0)] (rd (some ⟨b1, 0, none⟩) [.int .u8 97] :: own 32 1 (some ⟨s1, 0, none⟩) 2 2 [.slice (some ⟨g1, 0, none⟩) 32 32, .slice (some ⟨b1, 0, none⟩) 1 1] :: blk g5 25 (bvs (List.replicate 32 0)) :: blk g2 25 (bvs K2) :: blk g1 25 (bvs K1) :: M0) := fun b1 s1 g5 => (hG _ _ _ _).2 (by
      refine va_three 4 6 10 (by kernel_rfl) rfl rfl rfl rfl rfl rfl ?_ ?_ ?_
      · refine vo_call rfl rfl ?_
        refine vc_mono (tof2_vc (h2 := (inferInstance : RdC w0 _ (some ⟨b1, 0, none⟩) [.int .u8 97])) w0 _ 1 (by decide) s1 (some ⟨g1, 0, none⟩) 32 K1 (some ⟨b1, 0, none⟩) 1 [97] hk1.symm rfl hB1) ?_
        rintro v L' ⟨rfl, rfl⟩
        rw [← hD1]
        refine ⟨.inr (sei _ _ _), ?_⟩
        exact va_ext ((hG _ _ _ _).1 (s4001 g5)) rfl (by (repeat' (first | exact Sub.nil _ | refine Sub.cons rfl rfl ?_ | refine Sub.cons rfl ?_ ?_))) (sei _ _ _)
      · refine vo_buildSlice rfl rfl rfl (by decide) (by repeat' (first | exact trivial | rfl | refine ⟨?_, ?_⟩)) (by decide) rfl ?_
        intro b2
        refine ⟨.inr (sei _ _ _), ?_⟩
        exact va_ext ((hG _ _ _ _).1 (s3101 b1 s1 b2 g5)) rfl (by (repeat' (first | exact Sub.nil _ | refine Sub.cons rfl rfl ?_ | refine Sub.cons rfl ?_ ?_))) (sei _ _ _)
      · refine vo_alloc rfl ?_
        intro g4
        refine ⟨.inr (sei _ _ _), ?_⟩
        exact va_ext ((hG _ _ _ _).1 (s3011 b1 s1 g4 g5)) rfl (by (repeat' (first | exact Sub.nil _ | refine Sub.cons rfl rfl ?_ | refine Sub.cons rfl ?_ ?_))) (sei _ _ _))
    have s3010 : ∀ b1 s1 g4 : Nat, G 8 [true, true, true, true, false, true, false, false, false, false, true, false, false, false] [(48, .slice (some ⟨g1, 0, none⟩) 32 32), (53, .slice (some ⟨g2, 0, none⟩) 32 32), (51, .slice (some ⟨s1, 0, none⟩) 2 2), (12, .pointer (some ⟨g4, 0, none⟩)), (1, .slice (some ⟨gl, 0, none⟩) 2 2), (2, .slice a4 n4.length c4), (3, .int .i64 0), (5, .bool false), (7, .int .i64 6), (8, .pointer (some ⟨gn, 0, none⟩)), (9, .int .i64 0)] (rd (some ⟨b1, 0, none⟩) [.int .u8 97] :: own 32 1 (some ⟨s1, 0, none⟩) 2 2 [.slice (some ⟨g1, 0, none⟩) 32 32, .slice (some ⟨b1, 0, none⟩) 1 1] :: blk g4 25 (bvs (List.replicate 32 0)) :: blk g2 25 (bvs K2) :: blk g1 25 (bvs K1) :: M0) := fun b1 s1 g4 => (hG _ _ _ _).2 (by
      refine va_three 4 6 11 (by kernel_rfl) rfl rfl rfl rfl rfl rfl ?_ ?_ ?_
      · refine vo_call rfl rfl ?_
        refine vc_mono (tof2_vc (h2 := (inferInstance : RdC w0 _ (some ⟨b1, 0, none⟩) [.int .u8 97])) w0 _ 1 (by decide) s1 (some ⟨g1, 0, none⟩) 32 K1 (some ⟨b1, 0, none⟩) 1 [97] hk1.symm rfl hB1) ?_
        rintro v L' ⟨rfl, rfl⟩
        rw [← hD1]
        refine ⟨.inr (sei _ _ _), ?_⟩
        exact va_ext ((hG _ _ _ _).1 (s4010 g4)) rfl (by (repeat' (first | exact Sub.nil _ | refine Sub.cons rfl rfl ?_ | refine Sub.cons rfl ?_ ?_))) (sei _ _ _)
      · refine vo_buildSlice rfl rfl rfl (by decide) (by repeat' (first | exact trivial | rfl | refine ⟨?_, ?_⟩)) (by decide) rfl ?_
        intro b2
        refine ⟨.inr (sei _ _ _), ?_⟩
        exact va_ext ((hG _ _ _ _).1 (s3110 b1 s1 b2 g4)) rfl (by (repeat' (first | exact Sub.nil _ | refine Sub.cons rfl rfl ?_ | refine Sub.cons rfl ?_ ?_))) (sei _ _ _)
      · refine vo_alloc rfl ?_
        intro g5
        refine ⟨.inr (sei _ _ _), ?_⟩
        exact va_ext ((hG _ _ _ _).1 (s3011 b1 s1 g4 g5)) rfl (by (repeat' (first | exact Sub.nil _ | refine Sub.cons rfl rfl ?_ | refine Sub.cons rfl ?_ ?_))) (sei _ _ _))
    have s3100 : ∀ b1 s1 b2 : Nat, G 8 [true, true, true, true, false, true, true, false, false, false, false, false, false, false] [(48, .slice (some ⟨g1, 0, none⟩) 32 32), (53, .slice (some ⟨g2, 0, none⟩) 32 32), (51, .slice (some ⟨s1, 0, none⟩) 2 2), (54, .slice (some ⟨b2, 0, none⟩) 1 1), (1, .slice (some ⟨gl, 0, none⟩) 2 2), (2, .slice a4 n4.length c4), (3, .int .i64 0), (5, .bool false), (7, .int .i64 6), (8, .pointer (some ⟨gn, 0, none⟩)), (9, .int .i64 0)] (rd (some ⟨b1, 0, none⟩) [.int .u8 97] :: own 32 1 (some ⟨s1, 0, none⟩) 2 2 [.slice (some ⟨g1, 0, none⟩) 32 32, .slice (some ⟨b1, 0, none⟩) 1 1] :: own 5 1 (some ⟨b2, 0, none⟩) 1 1 [.int .u8 98] :: blk g2 25 (bvs K2) :: blk g1 25 (bvs K1) :: M0) := fun b1 s1 b2 => (hG _ _ _ _).2 (by
      refine va_four 4 7 10 11 (by kernel_rfl) rfl rfl rfl rfl rfl rfl rfl rfl ?_ ?_ ?_ ?_
      · refine vo_call rfl rfl ?_
        refine vc_mono (tof2_vc (h2 := (inferInstance : RdC w0 _ (some ⟨b1, 0, none⟩) [.int .u8 97])) w0 _ 1 (by decide) s1 (some ⟨g1, 0, none⟩) 32 K1 (some ⟨b1, 0, none⟩) 1 [97] hk1.symm rfl hB1) ?_
        rintro v L' ⟨rfl, rfl⟩
        rw [← hD1]
        refine ⟨.inr (sei _ _ _), ?_⟩
        exact va_ext ((hG _ _ _ _).1 (s4100 b2)) rfl (by (repeat' (first | exact Sub.nil _ | refine Sub.cons rfl rfl ?_ | refine Sub.cons rfl ?_ ?_))) (sei _ _ _)
      · refine vo_convRow rfl rfl ?_
        refine ⟨.inr (sei _ _ _), ?_⟩
        exact va_ext ((hG _ _ _ _).1 (s3200 b1 s1 b2)) rfl (by (repeat' (first | exact Sub.nil _ | refine Sub.cons rfl rfl ?_ | refine Sub.cons rfl ?_ ?_))) (sei _ _ _)
      · refine vo_alloc rfl ?_
        intro g4
        refine ⟨.inr (sei _ _ _), ?_⟩
        exact va_ext ((hG _ _ _ _).1 (s3110 b1 s1 b2 g4)) rfl (by (repeat' (first | exact Sub.nil _ | refine Sub.cons rfl rfl ?_ | refine Sub.cons rfl ?_ ?_))) (sei _ _ _)
      · refine vo_alloc rfl ?_
        intro g5
        refine ⟨.inr (sei _ _ _), ?_⟩
        exact va_ext ((hG _ _ _ _).1 (s3101 b1 s1 b2 g5)) rfl (by (repeat' (first | exact Sub.nil _ | refine Sub.cons rfl rfl ?_ | refine Sub.cons rfl ?_ ?_))) (sei _ _ _))
    have s4000 : G 8 [true, true, true, true, true, true, false, false, false, false, false, false, false, false] [(48, .slice (some ⟨g1, 0, none⟩) 32 32), (53, .slice (some ⟨g2, 0, none⟩) 32 32), (52, .agg (bvs D1).toArray), (1, .slice (some ⟨gl, 0, none⟩) 2 2), (2, .slice a4 n4.length c4), (3, .int .i64 0), (5, .bool false), (7, .int .i64 6), (8, .pointer (some ⟨gn, 0, none⟩)), (9, .int .i64 0)] (blk g2 25 (bvs K2) :: blk g1 25 (bvs K1) :: M0) := (hG _ _ _ _).2 (by
      refine va_three 6 10 11 (by kernel_rfl) rfl rfl rfl rfl rfl rfl ?_ ?_ ?_
      · refine vo_buildSlice rfl rfl rfl (by decide) (by repeat' (first | exact trivial | rfl | refine ⟨?_, ?_⟩)) (by decide) rfl ?_
        intro b2
        refine ⟨.inr (sei _ _ _), ?_⟩
        exact va_ext ((hG _ _ _ _).1 (s4100 b2)) rfl (by (repeat' (first | exact Sub.nil _ | refine Sub.cons rfl rfl ?_ | refine Sub.cons rfl ?_ ?_))) (sei _ _ _)
      · refine vo_alloc rfl ?_
        intro g4
        refine ⟨.inr (sei _ _ _), ?_⟩
        exact va_ext ((hG _ _ _ _).1 (s4010 g4)) rfl (by (repeat' (first | exact Sub.nil _ | refine Sub.cons rfl rfl ?_ | refine Sub.cons rfl ?_ ?_))) (sei _ _ _)
      · refine vo_alloc rfl ?_
        intro g5
        refine ⟨.inr (sei _ _ _), ?_⟩
        exact va_ext ((hG _ _ _ _).1 (s4001 g5)) rfl (by (repeat' (first | exact Sub.nil _ | refine Sub.cons rfl rfl ?_ | refine Sub.cons rfl ?_ ?_))) (sei _ _ _))
    have s0111 : ∀ b2 g4 g5 : Nat, G 9 [true, false, false, false, false, true, true, false, false, false, true, true, false, false] [(48, .slice (some ⟨g1, 0, none⟩) 32 32), (53, .slice (some ⟨g2, 0, none⟩) 32 32), (54, .slice (some ⟨b2, 0, none⟩) 1 1), (12, .pointer (some ⟨g4, 0, none⟩)), (13, .pointer (some ⟨g5, 0, none⟩)), (1, .slice (some ⟨gl, 0, none⟩) 2 2), (2, .slice a4 n4.length c4), (3, .int .i64 0), (5, .bool false), (7, .int .i64 6), (8, .pointer (some ⟨gn, 0, none⟩)), (9, .int .i64 0)] (own 5 1 (some ⟨b2, 0, none⟩) 1 1 [.int .u8 98] :: blk g4 25 (bvs (List.replicate 32 0)) :: blk g5 25 (bvs (List.replicate 32 0)) :: blk g2 25 (bvs K2) :: blk g1 25 (bvs K1) :: M0) := fun b2 g4 g5 => (hG _ _ _ _).2 (by
      refine va_two 1 7 (by kernel_rfl) rfl rfl rfl rfl ?_ ?_
      · refine vo_buildSlice rfl rfl rfl (by decide) (by repeat' (first | exact trivial | rfl | refine ⟨?_, ?_⟩)) (by decide) rfl ?_
        intro b1
        refine ⟨.inr (sei _ _ _), ?_⟩
        exact va_ext ((hG _ _ _ _).1 (s1111 b1 b2 g4 g5)) rfl (by (repeat' (first | exact Sub.nil _ | refine Sub.cons rfl rfl ?_ | refine Sub.cons rfl ?_ ?_))) (sei _ _ _)
      · refine vo_convRow rfl rfl ?_
        refine ⟨.inr (sei _ _ _), ?_⟩
        exact va_ext ((hG _ _ _ _).1 (s0211 b2 g4 g5)) rfl (by (repeat' (first | exact Sub.nil _ | refine Sub.cons rfl rfl ?_ | refine Sub.cons rfl ?_ ?_))) (sei _ _ _))
    have s0201 : ∀ b2 g5 : Nat, G 9 [true, false, false, false, false, true, true, true, false, false, false, true, false, false] [(48, .slice (some ⟨g1, 0, none⟩) 32 32), (53, .slice (some ⟨g2, 0, none⟩) 32 32), (55, .slice (some ⟨b2, 0, none⟩) 1 1), (13, .pointer (some ⟨g5, 0, none⟩)), (1, .slice (some ⟨gl, 0, none⟩) 2 2), (2, .slice a4 n4.length c4), (3, .int .i64 0), (5, .bool false), (7, .int .i64 6), (8, .pointer (some ⟨gn, 0, none⟩)), (9, .int .i64 0)] (rd (some ⟨b2, 0, none⟩) [.int .u8 98] :: blk g5 25 (bvs (List.replicate 32 0)) :: blk g2 25 (bvs K2) :: blk g1 25 (bvs K1) :: M0) := fun b2 g5 => (hG _ _ _ _).2 (by
      refine va_three 1 8 10 (by kernel_rfl) rfl rfl rfl rfl rfl rfl ?_ ?_ ?_
      · refine vo_buildSlice rfl rfl rfl (by decide) (by repeat' (first | exact trivial | rfl | refine ⟨?_, ?_⟩)) (by decide) rfl ?_
        intro b1
        refine ⟨.inr (sei _ _ _), ?_⟩
        exact va_ext ((hG _ _ _ _).1 (s1201 b1 b2 g5)) rfl (by (repeat' (first | exact Sub.nil _ | refine Sub.cons rfl rfl ?_ | refine Sub.cons rfl ?_ ?_))) (sei _ _ _)
      · refine vo_buildSlice rfl rfl rfl (by decide) (by repeat' (first | exact trivial | rfl | refine ⟨?_, ?_⟩)) (by decide) rfl ?_
        intro s2
        refine ⟨.inr (sei _ _ _), ?_⟩
        exact va_ext ((hG _ _ _ _).1 (s0301 b2 s2 g5)) rfl (by (repeat' (first | exact Sub.nil _ | refine Sub.cons rfl rfl ?_ | refine Sub.cons rfl ?_ ?_))) (sei _ _ _)
      · refine vo_alloc rfl ?_
        intro g4
        refine ⟨.inr (sei _ _ _), ?_⟩
        exact va_ext ((hG _ _ _ _).1 (s0211 b2 g4 g5)) rfl (by (repeat' (first | exact Sub.nil _ | refine Sub.cons rfl rfl ?_ | refine Sub.cons rfl ?_ ?_))) (sei _ _ _))
    have s0210 : ∀ b2 g4 : Nat, G 9 [true, false, false, false, false, true, true, true, false, false, true, false, false, false] [(48, .slice (some ⟨g1, 0, none⟩) 32 32), (53, .slice (some ⟨g2, 0, none⟩) 32 32), (55, .slice (some ⟨b2, 0, none⟩) 1 1), (12, .pointer (some ⟨g4, 0, none⟩)), (1, .slice (some ⟨gl, 0, none⟩) 2 2), (2, .slice a4 n4.length c4), (3, .int .i64 0), (5, .bool false), (7, .int .i64 6), (8, .pointer (some ⟨gn, 0, none⟩)), (9, .int .i64 0)] (rd (some ⟨b2, 0, none⟩) [.int .u8 98] :: blk g4 25 (bvs (List.replicate 32 0)) :: blk g2 25 (bvs K2) :: blk g1 25 (bvs K1) :: M0) := fun b2 g4 => (hG _ _ _ _).2 (by
      refine va_three 1 8 11 (by kernel_rfl) rfl rfl rfl rfl rfl rfl ?_ ?_ ?_
      · refine vo_buildSlice rfl rfl rfl (by decide) (by repeat' (first | exact trivial | rfl | refine ⟨?_, ?_⟩)) (by decide) rfl ?_
        intro b1
        refine ⟨.inr (sei _ _ _), ?_⟩
        exact va_ext ((hG _ _ _ _).1 (s1210 b1 b2 g4)) rfl (by (repeat' (first | exact Sub.nil _ | refine Sub.cons rfl rfl ?_ | refine Sub.cons rfl ?_ ?_))) (sei _ _ _)
      · refine vo_buildSlice rfl rfl rfl (by decide) (by repeat' (first | exact trivial | rfl | refine ⟨?_, ?_⟩)) (by decide) rfl ?_
        intro s2
        refine ⟨.inr (sei _ _ _), ?_⟩
        exact va_ext ((hG _ _ _ _).1 (s0310 b2 s2 g4)) rfl (by (repeat' (first | exact Sub.nil _ | refine Sub.cons rfl rfl ?_ | refine Sub.cons rfl ?_ ?_))) (sei _ _ _)
      · refine vo_alloc rfl ?_
        intro g5
        refine ⟨.inr (sei _ _ _), ?_⟩
        exact va_ext ((hG _ _ _ _).1 (s0211 b2 g4 g5)) rfl (by (repeat' (first | exact Sub.nil _ | refine Sub.cons rfl rfl ?_ | refine Sub.cons rfl ?_ ?_))) (sei _ _ _))
    have s0300 : ∀ b2 s2 : Nat, G 9 [true, false, false, false, false, true, true, true, true, false, false, false, false, false] [(48, .slice (some ⟨g1, 0, none⟩) 32 32), (53, .slice (some ⟨g2, 0, none⟩) 32 32), (56, .slice (some ⟨s2, 0, none⟩) 2 2), (1, .slice (some ⟨gl, 0, none⟩) 2 2), (2, .slice a4 n4.length c4), (3, .int .i64 0), (5, .bool false), (7, .int .i64 6), (8, .pointer (some ⟨gn, 0, none⟩)), (9, .int .i64 0)] (rd (some ⟨b2, 0, none⟩) [.int .u8 98] :: own 32 1 (some ⟨s2, 0, none⟩) 2 2 [.slice (some ⟨g2, 0, none⟩) 32 32, .slice (some ⟨b2, 0, none⟩) 1 1] :: blk g2 25 (bvs K2) :: blk g1 25 (bvs K1) :: M0) := fun b2 s2 => (hG _ _ _ _).2 (by
      refine va_three 1 10 11 (by kernel_rfl) rfl rfl rfl rfl rfl rfl ?_ ?_ ?_
      · refine vo_buildSlice rfl rfl rfl (by decide) (by repeat' (first | exact trivial | rfl | refine ⟨?_, ?_⟩)) (by decide) rfl ?_
        intro b1
        refine ⟨.inr (sei _ _ _), ?_⟩
        exact va_ext ((hG _ _ _ _).1 (s1300 b1 b2 s2)) rfl (by (repeat' (first | exact Sub.nil _ | refine Sub.cons rfl rfl ?_ | refine Sub.cons rfl ?_ ?_))) (sei _ _ _)
      · refine vo_alloc rfl ?_
        intro g4
        refine ⟨.inr (sei _ _ _), ?_⟩
        exact va_ext ((hG _ _ _ _).1 (s0310 b2 s2 g4)) rfl (by (repeat' (first | exact Sub.nil _ | refine Sub.cons rfl rfl ?_ | refine Sub.cons rfl ?_ ?_))) (sei _ _ _)
      · refine vo_alloc rfl ?_
        intro g5
        refine ⟨.inr (sei _ _ _), ?_⟩
        exact va_ext ((hG _ _ _ _).1 (s0301 b2 s2 g5)) rfl (by (repeat' (first | exact Sub.nil _ | refine Sub.cons rfl rfl ?_ | refine Sub.cons rfl ?_ ?_))) (sei _ _ _))
    have s1011 : ∀ b1 g4 g5 : Nat, G 9 [true, true, false, false, false, true, false, false, false, false, true, true, false, false] [(48, .slice (some ⟨g1, 0, none⟩) 32 32), (53, .slice (some ⟨g2, 0, none⟩) 32 32), (49, .slice (some ⟨b1, 0, none⟩) 1 1), (12, .pointer (some ⟨g4, 0, none⟩)), (13, .pointer (some ⟨g5, 0, none⟩)), (1, .slice (some ⟨gl, 0, none⟩) 2 2), (2, .slice a4 n4.length c4), (3, .int .i64 0), (5, .bool false), (7, .int .i64 6), (8, .pointer (some ⟨gn, 0, none⟩)), (9, .int .i64 0)] (own 5 1 (some ⟨b1, 0, none⟩) 1 1 [.int .u8 97] :: blk g4 25 (bvs (List.replicate 32 0)) :: blk g5 25 (bvs (List.replicate 32 0)) :: blk g2 25 (bvs K2) :: blk g1 25 (bvs K1) :: M0) := fun b1 g4 g5 => (hG _ _ _ _).2 (by
      refine va_two 2 6 (by kernel_rfl) rfl rfl rfl rfl ?_ ?_
      · refine vo_convRow rfl rfl ?_
        refine ⟨.inr (sei _ _ _), ?_⟩
        exact va_ext ((hG _ _ _ _).1 (s2011 b1 g4 g5)) rfl (by (repeat' (first | exact Sub.nil _ | refine Sub.cons rfl rfl ?_ | refine Sub.cons rfl ?_ ?_))) (sei _ _ _)
      · refine vo_buildSlice rfl rfl rfl (by decide) (by repeat' (first | exact trivial | rfl | refine ⟨?_, ?_⟩)) (by decide) rfl ?_
        intro b2
        refine ⟨.inr (sei _ _ _), ?_⟩
        exact va_ext ((hG _ _ _ _).1 (s1111 b1 b2 g4 g5)) rfl (by (repeat' (first | exact Sub.nil _ | refine Sub.cons rfl rfl ?_ | refine Sub.cons rfl ?_ ?_))) (sei _ _ _))
    have s1101 : ∀ b1 b2 g5 : Nat, G 9 [true, true, false, false, false, true, true, false, false, false, false, true, false, false] [(48, .slice (some ⟨g1, 0, none⟩) 32 32), (53, .slice (some ⟨g2, 0, none⟩) 32 32), (49, .slice (some ⟨b1, 0, none⟩) 1 1), (54, .slice (some ⟨b2, 0, none⟩) 1 1), (13, .pointer (some ⟨g5, 0, none⟩)), (1, .slice (some ⟨gl, 0, none⟩) 2 2), (2, .slice a4 n4.length c4), (3, .int .i64 0), (5, .bool false), (7, .int .i64 6), (8, .pointer (some ⟨gn, 0, none⟩)), (9, .int .i64 0)] (own 5 1 (some ⟨b1, 0, none⟩) 1 1 [.int .u8 97] :: own 5 1 (some ⟨b2, 0, none⟩) 1 1 [.int .u8 98] :: blk g5 25 (bvs (List.replicate 32 0)) :: blk g2 25 (bvs K2) :: blk g1 25 (bvs K1) :: M0) := fun b1 b2 g5 => (hG _ _ _ _).2 (by
      refine va_three 2 7 10 (by kernel_rfl) rfl rfl rfl rfl rfl rfl ?_ ?_ ?_
      · refine vo_convRow rfl rfl ?_
        refine ⟨.inr (sei _ _ _), ?_⟩
        exact va_ext ((hG _ _ _ _).1 (s2101 b1 b2 g5)) rfl (by (repeat' (first | exact Sub.nil _ | refine Sub.cons rfl rfl ?_ | refine Sub.cons rfl ?_ ?_))) (sei _ _ _)
      · refine vo_convRow rfl rfl ?_
        refine ⟨.inr (sei _ _ _), ?_⟩
        exact va_ext ((hG _ _ _ _).1 (s1201 b1 b2 g5)) rfl (by (repeat' (first | exact Sub.nil _ | refine Sub.cons rfl rfl ?_ | refine Sub.cons rfl ?_ ?_))) (sei _ _ _)
      · refine vo_alloc rfl ?_
        intro g4
        refine ⟨.inr (sei _ _ _), ?_⟩
        exact va_ext ((hG _ _ _ _).1 (s1111 b1 b2 g4 g5)) rfl (by (repeat' (first | exact Sub.nil _ | refine Sub.cons rfl rfl ?_ | refine Sub.cons rfl ?_ ?_))) (sei _ _ _))
    have s1110 : ∀ b1 b2 g4 : Nat, G 9 [true, true, false, false, false, true, true, false, false, false, true, false, false, false] [(48, .slice (some ⟨g1, 0, none⟩) 32 32), (53, .slice (some ⟨g2, 0, none⟩) 32 32), (49, .slice (some ⟨b1, 0, none⟩) 1 1), (54, .slice (some ⟨b2, 0, none⟩) 1 1), (12, .pointer (some ⟨g4, 0, none⟩)), (1, .slice (some ⟨gl, 0, none⟩) 2 2), (2, .slice a4 n4.length c4), (3, .int .i64 0), (5, .bool false), (7, .int .i64 6), (8, .pointer (some ⟨gn, 0, none⟩)), (9, .int .i64 0)] (own 5 1 (some ⟨b1, 0, none⟩) 1 1 [.int .u8 97] :: own 5 1 (some ⟨b2, 0, none⟩) 1 1 [.int .u8 98] :: blk g4 25 (bvs (List.replicate 32 0)) :: blk g2 25 (bvs K2) :: blk g1 25 (bvs K1) :: M0) := fun b1 b2 g4 => (hG _ _ _ _).2 (by
      refine va_three 2 7 11 (by kernel_rfl) rfl rfl rfl rfl rfl rfl ?_ ?_ ?_
      · refine vo_convRow rfl rfl ?_
        refine ⟨.inr (sei _ _ _), ?_⟩
        exact va_ext ((hG _ _ _ _).1 (s2110 b1 b2 g4)) rfl (by (repeat' (first | exact Sub.nil _ | refine Sub.cons rfl rfl ?_ | refine Sub.cons rfl ?_ ?_))) (sei _ _ _)
      · refine vo_convRow rfl rfl ?_
        refine ⟨.inr (sei _ _ _), ?_⟩
        exact va_ext ((hG _ _ _ _).1 (s1210 b1 b2 g4)) rfl (by (repeat' (first | exact Sub.nil _ | refine Sub.cons rfl rfl ?_ | refine Sub.cons rfl ?_ ?_))) (sei _ _ _)
      · refine vo_alloc rfl ?_
        intro g5
        refine ⟨.inr (sei _ _ _), ?_⟩
        exact va_ext ((hG _ _ _ _).1 (s1111 b1 b2 g4 g5)) rfl (by (repeat' (first | exact Sub.nil _ | refine Sub.cons rfl rfl ?_ | refine Sub.cons rfl ?_ ?_))) (sei _ _ _))
    have s1200 : ∀ b1 b2 : Nat, G 9 [true, true, false, false, false, true, true, true, false, false, false, false, false, false] [(48, .slice (some ⟨g1, 0, none⟩) 32 32), (53, .slice (some ⟨g2, 0, none⟩) 32 32), (49, .slice (some ⟨b1, 0, none⟩) 1 1), (55, .slice (some ⟨b2, 0, none⟩) 1 1), (1, .slice (some ⟨gl, 0, none⟩) 2 2), (2, .slice a4 n4.length c4), (3, .int .i64 0), (5, .bool false), (7, .int .i64 6), (8, .pointer (some ⟨gn, 0, none⟩)), (9, .int .i64 0)] (own 5 1 (some ⟨b1, 0, none⟩) 1 1 [.int .u8 97] :: rd (some ⟨b2, 0, none⟩) [.int .u8 98] :: blk g2 25 (bvs K2) :: blk g1 25 (bvs K1) :: M0) := fun b1 b2 => (hG _ _ _ _).2 (by
      refine va_four 2 8 10 11 (by kernel_rfl) rfl rfl rfl rfl rfl rfl rfl rfl ?_ ?_ ?_ ?_
      · refine vo_convRow rfl rfl ?_
        refine ⟨.inr (sei _ _ _), ?_⟩
        exact va_ext ((hG _ _ _ _).1 (s2200 b1 b2)) rfl (by (repeat' (first | exact Sub.nil _ | refine Sub.cons rfl rfl ?_ | refine Sub.cons rfl ?_ ?_))) (sei _ _ _)
      · refine vo_buildSlice rfl rfl rfl (by decide) (by repeat' (first | exact trivial | rfl | refine ⟨?_, ?_⟩)) (by decide) rfl ?_
        intro s2
        refine ⟨.inr (sei _ _ _), ?_⟩
        exact va_ext ((hG _ _ _ _).1 (s1300 b1 b2 s2)) rfl (by (repeat' (first | exact Sub.nil _ | refine Sub.cons rfl rfl ?_ | refine Sub.cons rfl ?_ ?_))) (sei _ _ _)
      · refine vo_alloc rfl ?_
        intro g4
        refine ⟨.inr (sei _ _ _), ?_⟩
        exact va_ext ((hG _ _ _ _).1 (s1210 b1 b2 g4)) rfl (by (repeat' (first | exact Sub.nil _ | refine Sub.cons rfl rfl ?_ | refine Sub.cons rfl ?_ ?_))) (sei _ _ _)
      · refine vo_alloc rfl ?_
        intro g5
        refine ⟨.inr (sei _ _ _), ?_⟩
        exact va_ext ((hG _ _ _ _).1 (s1201 b1 b2 g5)) rfl (by (repeat' (first | exact Sub.nil _ | refine Sub.cons rfl rfl ?_ | refine Sub.cons rfl ?_ ?_))) (sei _ _ _))
    have s2001 : ∀ b1 g5 : Nat, G 9 [true, true, true, false, false, true, false, false, false, false, false, true, false, false] [(48, .slice (some ⟨g1, 0, none⟩) 32 32), (53, .slice (some ⟨g2, 0, none⟩) 32 32), (50, .slice (some ⟨b1, 0, none⟩) 1 1), (13, .pointer (some ⟨g5, 0, none⟩)), (1, .slice (some ⟨gl, 0, none⟩) 2 2), (2, .slice a4 n4.length c4), (3, .int .i64 0), (5, .bool false), (7, .int .i64 6), (8, .pointer (some ⟨gn, 0, none⟩)), (9, .int .i64 0)] (rd (some ⟨b1, 0, none⟩) [.int .u8 97] :: blk g5 25 (bvs (List.replicate 32 0)) :: blk g2 25 (bvs K2) :: blk g1 25 (bvs K1) :: M0) := fun b1 g5 => (hG _ _ _ _).2 (by
      refine va_three 3 6 10 (by kernel_rfl) rfl rfl rfl rfl rfl rfl ?_ ?_ ?_
      · refine vo_buildSlice rfl rfl rfl (by decide) (by repeat' (first | exact trivial | rfl | refine ⟨?_, ?_⟩)) (by decide) rfl ?_
        intro s1
        refine ⟨.inr (sei _ _ _), ?_⟩
        exact va_ext ((hG _ _ _ _).1 (s3001 b1 s1 g5)) rfl (by (repeat' (first | exact Sub.nil _ | refine Sub.cons rfl rfl ?_ | refine Sub.cons rfl ?_ ?_))) (sei _ _ _)
      · refine vo_buildSlice rfl rfl rfl (by decide) (by repeat' (first | exact trivial | rfl | refine ⟨?_, ?_⟩)) (by decide) rfl ?_
        intro b2
        refine ⟨.inr (sei _ _ _), ?_⟩
        exact va_ext ((hG _ _ _ _).1 (s2101 b1 b2 g5)) rfl (by (repeat' (first | exact Sub.nil _ | refine Sub.cons rfl rfl ?_ | refine Sub.cons rfl ?_ ?_))) (sei _ _ _)
      · refine vo_alloc rfl ?_
        intro g4
        refine ⟨.inr (sei _ _ _), ?_⟩
        exact va_ext ((hG _ _ _ _).1 (s2011 b1 g4 g5)) rfl (by (repeat' (first | exact Sub.nil _ | refine Sub.cons rfl rfl ?_ | refine Sub.cons rfl ?_ ?_))) (sei _ _ _))
    have s2010 : ∀ b1 g4 : Nat, G 9 [true, true, true, false, false, true, false, false, false, false, true, false, false, false] [(48, .slice (some ⟨g1, 0, none⟩) 32 32), (53, .slice (some ⟨g2, 0, none⟩) 32 32), (50, .slice (some ⟨b1, 0, none⟩) 1 1), (12, .pointer (some ⟨g4, 0, none⟩)), (1, .slice (some ⟨gl, 0, none⟩) 2 2), (2, .slice a4 n4.length c4), (3, .int .i64 0), (5, .bool false), (7, .int .i64 6), (8, .pointer (some ⟨gn, 0, none⟩)), (9, .int .i64 0)] (rd (some ⟨b1, 0, none⟩) [.int .u8 97] :: blk g4 25 (bvs (List.replicate 32 0)) :: blk g2 25 (bvs K2) :: blk g1 25 (bvs K1) :: M0) := fun b1 g4 => (hG _ _ _ _).2 (by
      refine va_three 3 6 11 (by kernel_rfl) rfl rfl rfl rfl rfl rfl ?_ ?_ ?_
      · refine vo_buildSlice rfl rfl rfl (by decide) (by repeat' (first | exact trivial | rfl | refine ⟨?_, ?_⟩)) (by decide) rfl ?_
        intro s1
        refine ⟨.inr (sei _ _ _), ?_⟩
        exact va_ext ((hG _ _ _ _).1 (s3010 b1 s1 g4)) rfl (by (repeat' (first | exact Sub.nil _ | refine Sub.cons rfl rfl ?_ | refine Sub.cons rfl ?_ ?_))) (sei _ _ _)
      · refine vo_buildSlice rfl rfl rfl (by decide) (by repeat' (first | exact trivial | rfl | refine ⟨?_, ?_⟩)) (by decide) rfl ?_
        intro b2
        refine ⟨.inr (sei _ _ _), ?_⟩
        exact va_ext ((hG _ _ _ _).1 (s2110 b1 b2 g4)) rfl (by (repeat' (first | exact Sub.nil _ | refine Sub.cons rfl rfl ?_ | refine Sub.cons rfl ?_ ?_))) (sei _ _ _)
      · refine vo_alloc rfl ?_
        intro g5
        refine ⟨.inr (sei _ _ _), ?_⟩
        exact va_ext ((hG _ _ _ _).1 (s2011 b1 g4 g5)) rfl (by (repeat' (first | exact Sub.nil _ | refine Sub.cons rfl rfl ?_ | refine Sub.cons rfl ?_ ?_))) (sei _ _ _))
    have s2100 : ∀ b1 b2 : Nat, G 9 [true, true, true, false, false, true, true, false, false, false, false, false, false, false] [(48, .slice (some ⟨g1, 0, none⟩) 32 32), (53, .slice (some ⟨g2, 0, none⟩) 32 32), (50, .slice (some ⟨b1, 0, none⟩) 1 1), (54, .slice (some ⟨b2, 0, none⟩) 1 1), (1, .slice (some ⟨gl, 0, none⟩) 2 2), (2, .slice a4 n4.length c4), (3, .int .i64 0), (5, .bool false), (7, .int .i64 6), (8, .pointer (some ⟨gn, 0, none⟩)), (9, .int .i64 0)] (rd (some ⟨b1, 0, none⟩) [.int .u8 97] :: own 5 1 (some ⟨b2, 0, none⟩) 1 1 [.int .u8 98] :: blk g2 25 (bvs K2) :: blk g1 25 (bvs K1) :: M0) := fun b1 b2 => (hG _ _ _ _).2 (by
      refine va_four 3 7 10 11 (by kernel_rfl) rfl rfl rfl rfl rfl rfl rfl rfl ?_ ?_ ?_ ?_
      · refine vo_buildSlice rfl rfl rfl (by decide) (by repeat' (first | exact trivial | rfl | refine ⟨?_, ?_⟩)) (by decide) rfl ?_
        intro s1
        refine ⟨.inr (sei _ _ _), ?_⟩
        exact va_ext ((hG _ _ _ _).1 (s3100 b1 s1 b2)) rfl (by (repeat' (first | exact Sub.nil _ | refine Sub.cons rfl rfl ?_ | refine Sub.cons rfl ?_ ?_))) (sei _ _ _)
      · refine vo_convRow rfl rfl ?_
        refine ⟨.inr (sei _ _ _), ?_⟩
        exact va_ext ((hG _ _ _ _).1 (s2200 b1 b2)) rfl (by (repeat' (first | exact Sub.nil _ | refine Sub.cons rfl rfl ?_ | refine Sub.cons rfl ?_ ?_))) (sei _ _ _)
      · refine vo_alloc rfl ?_
        intro g4
        refine ⟨.inr (sei _ _ _), ?_⟩
        exact va_ext ((hG _ _ _ _).1 (s2110 b1 b2 g4)) rfl (by (repeat' (first | exact Sub.nil _ | refine Sub.cons rfl rfl ?_ | refine Sub.cons rfl ?_ ?_))) (sei _ _ _)
      · refine vo_alloc rfl ?_
        intro g5
        refine ⟨.inr (sei _ _ _), ?_⟩
        exact va_ext ((hG _ _ _ _).1 (s2101 b1 b2 g5)) rfl (by (repeat' (first | exact Sub.nil _ | refine Sub.cons rfl rfl ?_ | refine Sub.cons rfl ?_ ?_))) (sei _ _ _))
    have s3000 : ∀ b1 s1 : Nat, G 9 [true, true, true, true, false, true, false, false, false, false, false, false, false, false] [(48, .slice (some ⟨g1, 0, none⟩) 32 32), (53, .slice (some ⟨g2, 0, none⟩) 32 32), (51, .slice (some ⟨s1, 0, none⟩) 2 2), (1, .slice (some ⟨gl, 0, none⟩) 2 2), (2, .slice a4 n4.length c4), (3, .int .i64 0), (5, .bool false), (7, .int .i64 6), (8, .pointer (some ⟨gn, 0, none⟩)), (9, .int .i64 0)] (rd (some ⟨b1, 0, none⟩) [.int .u8 97] :: own 32 1 (some ⟨s1, 0, none⟩) 2 2 [.slice (some ⟨g1, 0, none⟩) 32 32, .slice (some ⟨b1, 0, none⟩) 1 1] :: blk g2 25 (bvs K2) :: blk g1 25 (bvs K1) :: M0) := fun b1 s1 => (hG _ _ _ _).2 (by
      refine va_four 4 6 10 11 (by kernel_rfl) rfl rfl rfl rfl rfl rfl rfl rfl ?_ ?_ ?_ ?_
      · refine vo_call rfl rfl ?_
        refine vc_mono (tof2_vc (h2 := (inferInstance : RdC w0 _ (some ⟨b1, 0, none⟩) [.int .u8 97])) w0 _ 1 (by decide) s1 (some ⟨g1, 0, none⟩) 32 K1 (some ⟨b1, 0, none⟩) 1 [97] hk1.symm rfl hB1) ?_
        rintro v L' ⟨rfl, rfl⟩
        rw [← hD1]
        refine ⟨.inr (sei _ _ _), ?_⟩
        exact va_ext ((hG _ _ _ _).1 s4000) rfl (by (repeat' (first | exact Sub.nil _ | refine Sub.cons rfl rfl ?_ | refine Sub.cons rfl ?_ ?_))) (sei _ _ _)
      · refine vo_buildSlice rfl rfl rfl (by decide) (by repeat' (first | exact trivial | rfl | refine ⟨?_, ?_⟩)) (by decide) rfl ?_
        intro b2
        refine ⟨.inr (sei _ _ _), ?_⟩
        exact va_ext ((hG _ _ _ _).1 (s3100 b1 s1 b2)) rfl (by (repeat' (first | exact Sub.nil _ | refine Sub.cons rfl rfl ?_ | refine Sub.cons rfl ?_ ?_))) (sei _ _ _)
      · refine vo_alloc rfl ?_
        intro g4
        refine ⟨.inr (sei _ _ _), ?_⟩
        exact va_ext ((hG _ _ _ _).1 (s3010 b1 s1 g4)) rfl (by (repeat' (first | exact Sub.nil _ | refine Sub.cons rfl rfl ?_ | refine Sub.cons rfl ?_ ?_))) (sei _ _ _)
      · refine vo_alloc rfl ?_
        intro g5
        refine ⟨.inr (sei _ _ _), ?_⟩
        exact va_ext ((hG _ _ _ _).1 (s3001 b1 s1 g5)) rfl (by (repeat' (first | exact Sub.nil _ | refine Sub.cons rfl rfl ?_ | refine Sub.cons rfl ?_ ?_))) (sei _ _ _))
    have s0011 : ∀ g4 g5 : Nat, G 10 [true, false, false, false, false, true, false, false, false, false, true, true, false, false] [(48, .slice (some ⟨g1, 0, none⟩) 32 32), (53, .slice (some ⟨g2, 0, none⟩) 32 32), (12, .pointer (some ⟨g4, 0, none⟩)), (13, .pointer (some ⟨g5, 0, none⟩)), (1, .slice (some ⟨gl, 0, none⟩) 2 2), (2, .slice a4 n4.length c4), (3, .int .i64 0), (5, .bool false), (7, .int .i64 6), (8, .pointer (some ⟨gn, 0, none⟩)), (9, .int .i64 0)] (blk g4 25 (bvs (List.replicate 32 0)) :: blk g5 25 (bvs (List.replicate 32 0)) :: blk g2 25 (bvs K2) :: blk g1 25 (bvs K1) :: M0) := fun g4 g5 => (hG _ _ _ _).2 (by
      refine va_two 1 6 (by kernel_rfl) rfl rfl rfl rfl ?_ ?_
      · refine vo_buildSlice rfl rfl rfl (by decide) (by repeat' (first | exact trivial | rfl | refine ⟨?_, ?_⟩)) (by decide) rfl ?_
        intro b1
        refine ⟨.inr (sei _ _ _), ?_⟩
        exact va_ext ((hG _ _ _ _).1 (s1011 b1 g4 g5)) rfl (by (repeat' (first | exact Sub.nil _ | refine Sub.cons rfl rfl ?_ | refine Sub.cons rfl ?_ ?_))) (sei _ _ _)
      · refine vo_buildSlice rfl rfl rfl (by decide) (by repeat' (first | exact trivial | rfl | refine ⟨?_, ?_⟩)) (by decide) rfl ?_
        intro b2
        refine ⟨.inr (sei _ _ _), ?_⟩
        exact va_ext ((hG _ _ _ _).1 (s0111 b2 g4 g5)) rfl (by (repeat' (first | exact Sub.nil _ | refine Sub.cons rfl rfl ?_ | refine Sub.cons rfl ?_ ?_))) (sei _ _ _))
    have s0101 : ∀ b2 g5 : Nat, G 10 [true, false, false, false, false, true, true, false, false, false, false, true, false, false] [(48, .slice (some ⟨g1, 0, none⟩) 32 32), (53, .slice (some ⟨g2, 0, none⟩) 32 32), (54, .slice (some ⟨b2, 0, none⟩) 1 1), (13, .pointer (some ⟨g5, 0, none⟩)), (1, .slice (some ⟨gl, 0, none⟩) 2 2), (2, .slice a4 n4.length c4), (3, .int .i64 0), (5, .bool false), (7, .int .i64 6), (8, .pointer (some ⟨gn, 0, none⟩)), (9, .int .i64 0)] (own 5 1 (some ⟨b2, 0, none⟩) 1 1 [.int .u8 98] :: blk g5 25 (bvs (List.replicate 32 0)) :: blk g2 25 (bvs K2) :: blk g1 25 (bvs K1) :: M0) := fun b2 g5 => (hG _ _ _ _).2 (by
      refine va_three 1 7 10 (by kernel_rfl) rfl rfl rfl rfl rfl rfl ?_ ?_ ?_
      · refine vo_buildSlice rfl rfl rfl (by decide) (by repeat' (first | exact trivial | rfl | refine ⟨?_, ?_⟩)) (by decide) rfl ?_
        intro b1
        refine ⟨.inr (sei _ _ _), ?_⟩
        exact va_ext ((hG _ _ _ _).1 (s1101 b1 b2 g5)) rfl (by (repeat' (first | exact Sub.nil _ | refine Sub.cons rfl rfl ?_ | refine Sub.cons rfl ?_ ?_))) (sei _ _ _)
      · refine vo_convRow rfl rfl ?_
        refine ⟨.inr (sei _ _ _), ?_⟩
        exact va_ext ((hG _ _ _ _).1 (s0201 b2 g5)) rfl (by (repeat' (first | exact Sub.nil _ | refine Sub.cons rfl rfl ?_ | refine Sub.cons rfl ?_ ?_))) (sei _ _ _)
      · refine vo_alloc rfl ?_
        intro g4
        refine ⟨.inr (sei _ _ _), ?_⟩
        exact va_ext ((hG _ _ _ _).1 (s0111 b2 g4 g5)) rfl (by (repeat' (first | exact Sub.nil _ | refine Sub.cons rfl rfl ?_ | refine Sub.cons rfl ?_ ?_))) (sei _ _ _))
    have s0110 : ∀ b2 g4 : Nat, G 10 [true, false, false, false, false, true, true, false, false, false, true, false, false, false] [(48, .slice (some ⟨g1, 0, none⟩) 32 32), (53, .slice (some ⟨g2, 0, none⟩) 32 32), (54, .slice (some ⟨b2, 0, none⟩) 1 1), (12, .pointer (some ⟨g4, 0, none⟩)), (1, .slice (some ⟨gl, 0, none⟩) 2 2), (2, .slice a4 n4.length c4), (3, .int .i64 0), (5, .bool false), (7, .int .i64 6), (8, .pointer (some ⟨gn, 0, none⟩)), (9, .int .i64 0)] (own 5 1 (some ⟨b2, 0, none⟩) 1 1 [.int .u8 98] :: blk g4 25 (bvs (List.replicate 32 0)) :: blk g2 25 (bvs K2) :: blk g1 25 (bvs K1) :: M0) := fun b2 g4 => (hG _ _ _ _).2 (by
      refine va_three 1 7 11 (by kernel_rfl) rfl rfl rfl rfl rfl rfl ?_ ?_ ?_
      · refine vo_buildSlice rfl rfl rfl (by decide) (by repeat' (first | exact trivial | rfl | refine ⟨?_, ?_⟩)) (by decide) rfl ?_
        intro b1
        refine ⟨.inr (sei _ _ _), ?_⟩
        exact va_ext ((hG _ _ _ _).1 (s1110 b1 b2 g4)) rfl (by (repeat' (first | exact Sub.nil _ | refine Sub.cons rfl rfl ?_ | refine Sub.cons rfl ?_ ?_))) (sei _ _ _)
      · refine vo_convRow rfl rfl ?_
        refine ⟨.inr (sei _ _ _), ?_⟩
        exact va_ext ((hG _ _ _ _).1 (s0210 b2 g4)) rfl (by (repeat' (first | exact Sub.nil _ | refine Sub.cons rfl rfl ?_ | refine Sub.cons rfl ?_ ?_))) (sei _ _ _)
      · refine vo_alloc rfl ?_
        intro g5
        refine ⟨.inr (sei _ _ _), ?_⟩
        exact va_ext ((hG _ _ _ _).1 (s0111 b2 g4 g5)) rfl (by (repeat' (first | exact Sub.nil _ | refine Sub.cons rfl rfl ?_ | refine Sub.cons rfl ?_ ?_))) (sei _ _ _))
    have s0200 : ∀ b2 : Nat, G 10 [true, false, false, false, false, true, true, true, false, false, false, false, false, false] [(48, .slice (some ⟨g1, 0, none⟩) 32 32), (53, .slice (some ⟨g2, 0, none⟩) 32 32), (55, .slice (some ⟨b2, 0, none⟩) 1 1), (1, .slice (some ⟨gl, 0, none⟩) 2 2), (2, .slice a4 n4.length c4), (3, .int .i64 0), (5, .bool false), (7, .int .i64 6), (8, .pointer (some ⟨gn, 0, none⟩)), (9, .int .i64 0)] (rd (some ⟨b2, 0, none⟩) [.int .u8 98] :: blk g2 25 (bvs K2) :: blk g1 25 (bvs K1) :: M0) := fun b2 => (hG _ _ _ _).2 (by
      refine va_four 1 8 10 11 (by kernel_rfl) rfl rfl rfl rfl rfl rfl rfl rfl ?_ ?_ ?_ ?_
      · refine vo_buildSlice rfl rfl rfl (by decide) (by repeat' (first | exact trivial | rfl | refine ⟨?_, ?_⟩)) (by decide) rfl ?_
        intro b1
        refine ⟨.inr (sei _ _ _), ?_⟩
        exact va_ext ((hG _ _ _ _).1 (s1200 b1 b2)) rfl (by (repeat' (first | exact Sub.nil _ | refine Sub.cons rfl rfl ?_ | refine Sub.cons rfl ?_ ?_))) (sei _ _ _)
      · refine vo_buildSlice rfl rfl rfl (by decide) (by repeat' (first | exact trivial | rfl | refine ⟨?_, ?_⟩)) (by decide) rfl ?_
        intro s2
        refine ⟨.inr (sei _ _ _), ?_⟩
        exact va_ext ((hG _ _ _ _).1 (s0300 b2 s2)) rfl (by (repeat' (first | exact Sub.nil _ | refine Sub.cons rfl rfl ?_ | refine Sub.cons rfl ?_ ?_))) (sei _ _ _)
      · refine vo_alloc rfl ?_
        intro g4
        refine ⟨.inr (sei _ _ _), ?_⟩
        exact va_ext ((hG _ _ _ _).1 (s0210 b2 g4)) rfl (by (repeat' (first | exact Sub.nil _ | refine Sub.cons rfl rfl ?_ | refine Sub.cons rfl ?_ ?_))) (sei _ _ _)
      · refine vo_alloc rfl ?_
        intro g5
        refine ⟨.inr (sei _ _ _), ?_⟩
        exact va_ext ((hG _ _ _ _).1 (s0201 b2 g5)) rfl (by (repeat' (first | exact Sub.nil _ | refine Sub.cons rfl rfl ?_ | refine Sub.cons rfl ?_ ?_))) (sei _ _ _))
    have s1001 : ∀ b1 g5 : Nat, G 10 [true, true, false, false, false, true, false, false, false, false, false, true, false, false] [(48, .slice (some ⟨g1, 0, none⟩) 32 32), (53, .slice (some ⟨g2, 0, none⟩) 32 32), (49, .slice (some ⟨b1, 0, none⟩) 1 1), (13, .pointer (some ⟨g5, 0, none⟩)), (1, .slice (some ⟨gl, 0, none⟩) 2 2), (2, .slice a4 n4.length c4), (3, .int .i64 0), (5, .bool false), (7, .int .i64 6), (8, .pointer (some ⟨gn, 0, none⟩)), (9, .int .i64 0)] (own 5 1 (some ⟨b1, 0, none⟩) 1 1 [.int .u8 97] :: blk g5 25 (bvs (List.replicate 32 0)) :: blk g2 25 (bvs K2) :: blk g1 25 (bvs K1) :: M0) := fun b1 g5 => (hG _ _ _ _).2 (by
      refine va_three 2 6 10 (by kernel_rfl) rfl rfl rfl rfl rfl rfl ?_ ?_ ?_
      · refine vo_convRow rfl rfl ?_
        refine ⟨.inr (sei _ _ _), ?_⟩
        exact va_ext ((hG _ _ _ _).1 (s2001 b1 g5)) rfl (by (repeat' (first | exact Sub.nil _ | refine Sub.cons rfl rfl ?_ | refine Sub.cons rfl ?_ ?_))) (sei _ _ _)
      · refine vo_buildSlice rfl rfl rfl (by decide) (by repeat' (first | exact trivial | rfl | refine ⟨?_, ?_⟩)) (by decide) rfl ?_
        intro b2
        refine ⟨.inr (sei _ _ _), ?_⟩
        exact va_ext ((hG _ _ _ _).1 (s1101 b1 b2 g5)) rfl (by (repeat' (first | exact Sub.nil _ | refine Sub.cons rfl rfl ?_ | refine Sub.cons rfl ?_ ?_))) (sei _ _ _)
      · refine vo_alloc rfl ?_
        intro g4
        refine ⟨.inr (sei _ _ _), ?_⟩
        exact va_ext ((hG _ _ _ _).1 (s1011 b1 g4 g5)) rfl (by (repeat' (first | exact Sub.nil _ | refine Sub.cons rfl rfl ?_ | refine Sub.cons rfl ?_ ?_))) (sei _ _ _))
    have s1010 : ∀ b1 g4 : Nat, G 10 [true, true, false, false, false, true, false, false, false, false, true, false, false, false] [(48, .slice (some ⟨g1, 0, none⟩) 32 32), (53, .slice (some ⟨g2, 0, none⟩) 32 32), (49, .slice (some ⟨b1, 0, none⟩) 1 1), (12, .pointer (some ⟨g4, 0, none⟩)), (1, .slice (some ⟨gl, 0, none⟩) 2 2), (2, .slice a4 n4.length c4), (3, .int .i64 0), (5, .bool false), (7, .int .i64 6), (8, .pointer (some ⟨gn, 0, none⟩)), (9, .int .i64 0)] (own 5 1 (some ⟨b1, 0, none⟩) 1 1 [.int .u8 97] :: blk g4 25 (bvs (List.replicate 32 0)) :: blk g2 25 (bvs K2) :: blk g1 25 (bvs K1) :: M0) := fun b1 g4 => (hG _ _ _ _).2 (by
      refine va_three 2 6 11 (by kernel_rfl) rfl rfl rfl rfl rfl rfl ?_ ?_ ?_
      · refine vo_convRow rfl rfl ?_
        refine ⟨.inr (sei _ _ _), ?_⟩
        exact va_ext ((hG _ _ _ _).1 (s2010 b1 g4)) rfl (by (repeat' (first | exact Sub.nil _ | refine Sub.cons rfl rfl ?_ | refine Sub.cons rfl ?_ ?_))) (sei _ _ _)
      · refine vo_buildSlice rfl rfl rfl (by decide) (by repeat' (first | exact trivial | rfl | refine ⟨?_, ?_⟩)) (by decide) rfl ?_
        intro b2
        refine ⟨.inr (sei _ _ _), ?_⟩
        exact va_ext ((hG _ _ _ _).1 (s1110 b1 b2 g4)) rfl (by (repeat' (first | exact Sub.nil _ | refine Sub.cons rfl rfl ?_ | refine Sub.cons rfl ?_ ?_))) (sei _ _ _)
      · refine vo_alloc rfl ?_
        intro g5
        refine ⟨.inr (sei _ _ _), ?_⟩
        exact va_ext ((hG _ _ _ _).1 (s1011 b1 g4 g5)) rfl (by (repeat' (first | exact Sub.nil _ | refine Sub.cons rfl rfl ?_ | refine Sub.cons rfl ?_ ?_))) (sei _ _ _))
    have s1100 : ∀ b1 b2 : Nat, G 10 [true, true, false, false, false, true, true, false, false, false, false, false, false, false] [(48, .slice (some ⟨g1, 0, none⟩) 32 32), (53, .slice (some ⟨g2, 0, none⟩) 32 32), (49, .slice (some ⟨b1, 0, none⟩) 1 1), (54, .slice (some ⟨b2, 0, none⟩) 1 1), (1, .slice (some ⟨gl, 0, none⟩) 2 2), (2, .slice a4 n4.length c4), (3, .int .i64 0), (5, .bool false), (7, .int .i64 6), (8, .pointer (some ⟨gn, 0, none⟩)), (9, .int .i64 0)] (own 5 1 (some ⟨b1, 0, none⟩) 1 1 [.int .u8 97] :: own 5 1 (some ⟨b2, 0, none⟩) 1 1 [.int .u8 98] :: blk g2 25 (bvs K2) :: blk g1 25 (bvs K1) :: M0) := fun b1 b2 => (hG _ _ _ _).2 (by
      refine va_four 2 7 10 11 (by kernel_rfl) rfl rfl rfl rfl rfl rfl rfl rfl ?_ ?_ ?_ ?_
      · refine vo_convRow rfl rfl ?_
        refine ⟨.inr (sei _ _ _), ?_⟩
        exact va_ext ((hG _ _ _ _).1 (s2100 b1 b2)) rfl (by (repeat' (first | exact Sub.nil _ | refine Sub.cons rfl rfl ?_ | refine Sub.cons rfl ?_ ?_))) (sei _ _ _)
      · refine vo_convRow rfl rfl ?_
        refine ⟨.inr (sei _ _ _), ?_⟩
        exact va_ext ((hG _ _ _ _).1 (s1200 b1 b2)) rfl (by (repeat' (first | exact Sub.nil _ | refine Sub.cons rfl rfl ?_ | refine Sub.cons rfl ?_ ?_))) (sei _ _ _)
      · refine vo_alloc rfl ?_
        intro g4
        refine ⟨.inr (sei _ _ _), ?_⟩
        exact va_ext ((hG _ _ _ _).1 (s1110 b1 b2 g4)) rfl (by (repeat' (first | exact Sub.nil _ | refine Sub.cons rfl rfl ?_ | refine Sub.cons rfl ?_ ?_))) (sei _ _ _)
      · refine vo_alloc rfl ?_
        intro g5
        refine ⟨.inr (sei _ _ _), ?_⟩
        exact va_ext ((hG _ _ _ _).1 (s1101 b1 b2 g5)) rfl (by (repeat' (first | exact Sub.nil _ | refine Sub.cons rfl rfl ?_ | refine Sub.cons rfl ?_ ?_))) (sei _ _ _))
    have s2000 : ∀ b1 : Nat, G 10 [true, true, true, false, false, true, false, false, false, false, false, false, false, false] [(48, .slice (some ⟨g1, 0, none⟩) 32 32), (53, .slice (some ⟨g2, 0, none⟩) 32 32), (50, .slice (some ⟨b1, 0, none⟩) 1 1), (1, .slice (some ⟨gl, 0, none⟩) 2 2), (2, .slice a4 n4.length c4), (3, .int .i64 0), (5, .bool false), (7, .int .i64 6), (8, .pointer (some ⟨gn, 0, none⟩)), (9, .int .i64 0)] (rd (some ⟨b1, 0, none⟩) [.int .u8 97] :: blk g2 25 (bvs K2) :: blk g1 25 (bvs K1) :: M0) := fun b1 => (hG _ _ _ _).2 (by
      refine va_four 3 6 10 11 (by kernel_rfl) rfl rfl rfl rfl rfl rfl rfl rfl ?_ ?_ ?_ ?_
      · refine vo_buildSlice rfl rfl rfl (by decide) (by repeat' (first | exact trivial | rfl | refine ⟨?_, ?_⟩)) (by decide) rfl ?_
        intro s1
        refine ⟨.inr (sei _ _ _), ?_⟩
        exact va_ext ((hG _ _ _ _).1 (s3000 b1 s1)) rfl (by (repeat' (first | exact Sub.nil _ | refine Sub.cons rfl rfl ?_ | refine Sub.cons rfl ?_ ?_))) (sei _ _ _)
      · refine vo_buildSlice rfl rfl rfl (by decide) (by repeat' (first | exact trivial | rfl | refine ⟨?_, ?_⟩)) (by decide) rfl ?_
        intro b2
        refine ⟨.inr (sei _ _ _), ?_⟩
        exact va_ext ((hG _ _ _ _).1 (s2100 b1 b2)) rfl (by (repeat' (first | exact Sub.nil _ | refine Sub.cons rfl rfl ?_ | refine Sub.cons rfl ?_ ?_))) (sei _ _ _)
      · refine vo_alloc rfl ?_
        intro g4
        refine ⟨.inr (sei _ _ _), ?_⟩
        exact va_ext ((hG _ _ _ _).1 (s2010 b1 g4)) rfl (by (repeat' (first | exact Sub.nil _ | refine Sub.cons rfl rfl ?_ | refine Sub.cons rfl ?_ ?_))) (sei _ _ _)
      · refine vo_alloc rfl ?_
        intro g5
        refine ⟨.inr (sei _ _ _), ?_⟩
        exact va_ext ((hG _ _ _ _).1 (s2001 b1 g5)) rfl (by (repeat' (first | exact Sub.nil _ | refine Sub.cons rfl rfl ?_ | refine Sub.cons rfl ?_ ?_))) (sei _ _ _))
    have s0001 : ∀ g5 : Nat, G 11 [true, false, false, false, false, true, false, false, false, false, false, true, false, false] [(48, .slice (some ⟨g1, 0, none⟩) 32 32), (53, .slice (some ⟨g2, 0, none⟩) 32 32), (13, .pointer (some ⟨g5, 0, none⟩)), (1, .slice (some ⟨gl, 0, none⟩) 2 2), (2, .slice a4 n4.length c4), (3, .int .i64 0), (5, .bool false), (7, .int .i64 6), (8, .pointer (some ⟨gn, 0, none⟩)), (9, .int .i64 0)] (blk g5 25 (bvs (List.replicate 32 0)) :: blk g2 25 (bvs K2) :: blk g1 25 (bvs K1) :: M0) := fun g5 => (hG _ _ _ _).2 (by
      refine va_three 1 6 10 (by kernel_rfl) rfl rfl rfl rfl rfl rfl ?_ ?_ ?_
      · refine vo_buildSlice rfl rfl rfl (by decide) (by repeat' (first | exact trivial | rfl | refine ⟨?_, ?_⟩)) (by decide) rfl ?_
        intro b1
        refine ⟨.inr (sei _ _ _), ?_⟩
        exact va_ext ((hG _ _ _ _).1 (s1001 b1 g5)) rfl (by (repeat' (first | exact Sub.nil _ | refine Sub.cons rfl rfl ?_ | refine Sub.cons rfl ?_ ?_))) (sei _ _ _)
      · refine vo_buildSlice rfl rfl rfl (by decide) (by repeat' (first | exact trivial | rfl | refine ⟨?_, ?_⟩)) (by decide) rfl ?_
        intro b2
        refine ⟨.inr (sei _ _ _), ?_⟩
        exact va_ext ((hG _ _ _ _).1 (s0101 b2 g5)) rfl (by (repeat' (first | exact Sub.nil _ | refine Sub.cons rfl rfl ?_ | refine Sub.cons rfl ?_ ?_))) (sei _ _ _)
      · refine vo_alloc rfl ?_
        intro g4
        refine ⟨.inr (sei _ _ _), ?_⟩
        exact va_ext ((hG _ _ _ _).1 (s0011 g4 g5)) rfl (by (repeat' (first | exact Sub.nil _ | refine Sub.cons rfl rfl ?_ | refine Sub.cons rfl ?_ ?_))) (sei _ _ _))
    have s0010 : ∀ g4 : Nat, G 11 [true, false, false, false, false, true, false, false, false, false, true, false, false, false] [(48, .slice (some ⟨g1, 0, none⟩) 32 32), (53, .slice (some ⟨g2, 0, none⟩) 32 32), (12, .pointer (some ⟨g4, 0, none⟩)), (1, .slice (some ⟨gl, 0, none⟩) 2 2), (2, .slice a4 n4.length c4), (3, .int .i64 0), (5, .bool false), (7, .int .i64 6), (8, .pointer (some ⟨gn, 0, none⟩)), (9, .int .i64 0)] (blk g4 25 (bvs (List.replicate 32 0)) :: blk g2 25 (bvs K2) :: blk g1 25 (bvs K1) :: M0) := fun g4 => (hG _ _ _ _).2 (by
      refine va_three 1 6 11 (by kernel_rfl) rfl rfl rfl rfl rfl rfl ?_ ?_ ?_
      · refine vo_buildSlice rfl rfl rfl (by decide) (by repeat' (first | exact trivial | rfl | refine ⟨?_, ?_⟩)) (by decide) rfl ?_
        intro b1
        refine ⟨.inr (sei _ _ _), ?_⟩
        exact va_ext ((hG _ _ _ _).1 (s1010 b1 g4)) rfl (by (repeat' (first | exact Sub.nil _ | refine Sub.cons rfl rfl ?_ | refine Sub.cons rfl ?_ ?_))) (sei _ _ _)
      · refine vo_buildSlice rfl rfl rfl (by decide) (by repeat' (first | exact trivial | rfl | refine ⟨?_, ?_⟩)) (by decide) rfl ?_
        intro b2
        refine ⟨.inr (sei _ _ _), ?_⟩
        exact va_ext ((hG _ _ _ _).1 (s0110 b2 g4)) rfl (by (repeat' (first | exact Sub.nil _ | refine Sub.cons rfl rfl ?_ | refine Sub.cons rfl ?_ ?_))) (sei _ _ _)
      · refine vo_alloc rfl ?_
        intro g5
        refine ⟨.inr (sei _ _ _), ?_⟩
        exact va_ext ((hG _ _ _ _).1 (s0011 g4 g5)) rfl (by (repeat' (first | exact Sub.nil _ | refine Sub.cons rfl rfl ?_ | refine Sub.cons rfl ?_ ?_))) (sei _ _ _))
    have s0100 : ∀ b2 : Nat, G 11 [true, false, false, false, false, true, true, false, false, false, false, false, false, false] [(48, .slice (some ⟨g1, 0, none⟩) 32 32), (53, .slice (some ⟨g2, 0, none⟩) 32 32), (54, .slice (some ⟨b2, 0, none⟩) 1 1), (1, .slice (some ⟨gl, 0, none⟩) 2 2), (2, .slice a4 n4.length c4), (3, .int .i64 0), (5, .bool false), (7, .int .i64 6), (8, .pointer (some ⟨gn, 0, none⟩)), (9, .int .i64 0)] (own 5 1 (some ⟨b2, 0, none⟩) 1 1 [.int .u8 98] :: blk g2 25 (bvs K2) :: blk g1 25 (bvs K1) :: M0) := fun b2 => (hG _ _ _ _).2 (by
      refine va_four 1 7 10 11 (by kernel_rfl) rfl rfl rfl rfl rfl rfl rfl rfl ?_ ?_ ?_ ?_
      · refine vo_buildSlice rfl rfl rfl (by decide) (by repeat' (first | exact trivial | rfl | refine ⟨?_, ?_⟩)) (by decide) rfl ?_
        intro b1
        refine ⟨.inr (sei _ _ _), ?_⟩
        exact va_ext ((hG _ _ _ _).1 (s1100 b1 b2)) rfl (by (repeat' (first | exact Sub.nil _ | refine Sub.cons rfl rfl ?_ | refine Sub.cons rfl ?_ ?_))) (sei _ _ _)
      · refine vo_convRow rfl rfl ?_
        refine ⟨.inr (sei _ _ _), ?_⟩
        exact va_ext ((hG _ _ _ _).1 (s0200 b2)) rfl (by (repeat' (first | exact Sub.nil _ | refine Sub.cons rfl rfl ?_ | refine Sub.cons rfl ?_ ?_))) (sei _ _ _)
      · refine vo_alloc rfl ?_
        intro g4
        refine ⟨.inr (sei _ _ _), ?_⟩
        exact va_ext ((hG _ _ _ _).1 (s0110 b2 g4)) rfl (by (repeat' (first | exact Sub.nil _ | refine Sub.cons rfl rfl ?_ | refine Sub.cons rfl ?_ ?_))) (sei _ _ _)
      · refine vo_alloc rfl ?_
        intro g5
        refine ⟨.inr (sei _ _ _), ?_⟩
        exact va_ext ((hG _ _ _ _).1 (s0101 b2 g5)) rfl (by (repeat' (first | exact Sub.nil _ | refine Sub.cons rfl rfl ?_ | refine Sub.cons rfl ?_ ?_))) (sei _ _ _))
    have s1000 : ∀ b1 : Nat, G 11 [true, true, false, false, false, true, false, false, false, false, false, false, false, false] [(48, .slice (some ⟨g1, 0, none⟩) 32 32), (53, .slice (some ⟨g2, 0, none⟩) 32 32), (49, .slice (some ⟨b1, 0, none⟩) 1 1), (1, .slice (some ⟨gl, 0, none⟩) 2 2), (2, .slice a4 n4.length c4), (3, .int .i64 0), (5, .bool false), (7, .int .i64 6), (8, .pointer (some ⟨gn, 0, none⟩)), (9, .int .i64 0)] (own 5 1 (some ⟨b1, 0, none⟩) 1 1 [.int .u8 97] :: blk g2 25 (bvs K2) :: blk g1 25 (bvs K1) :: M0) := fun b1 => (hG _ _ _ _).2 (by
      refine va_four 2 6 10 11 (by kernel_rfl) rfl rfl rfl rfl rfl rfl rfl rfl ?_ ?_ ?_ ?_
      · refine vo_convRow rfl rfl ?_
        refine ⟨.inr (sei _ _ _), ?_⟩
        exact va_ext ((hG _ _ _ _).1 (s2000 b1)) rfl (by (repeat' (first | exact Sub.nil _ | refine Sub.cons rfl rfl ?_ | refine Sub.cons rfl ?_ ?_))) (sei _ _ _)
      · refine vo_buildSlice rfl rfl rfl (by decide) (by repeat' (first | exact trivial | rfl | refine ⟨?_, ?_⟩)) (by decide) rfl ?_
        intro b2
        refine ⟨.inr (sei _ _ _), ?_⟩
        exact va_ext ((hG _ _ _ _).1 (s1100 b1 b2)) rfl (by (repeat' (first | exact Sub.nil _ | refine Sub.cons rfl rfl ?_ | refine Sub.cons rfl ?_ ?_))) (sei _ _ _)
      · refine vo_alloc rfl ?_
        intro g4
        refine ⟨.inr (sei _ _ _), ?_⟩
        exact va_ext ((hG _ _ _ _).1 (s1010 b1 g4)) rfl (by (repeat' (first | exact Sub.nil _ | refine Sub.cons rfl rfl ?_ | refine Sub.cons rfl ?_ ?_))) (sei _ _ _)
      · refine vo_alloc rfl ?_
        intro g5
        refine ⟨.inr (sei _ _ _), ?_⟩
        exact va_ext ((hG _ _ _ _).1 (s1001 b1 g5)) rfl (by (repeat' (first | exact Sub.nil _ | refine Sub.cons rfl rfl ?_ | refine Sub.cons rfl ?_ ?_))) (sei _ _ _))
    have s0000 : G 12 [true, false, false, false, false, true, false, false, false, false, false, false, false, false] [(48, .slice (some ⟨g1, 0, none⟩) 32 32), (53, .slice (some ⟨g2, 0, none⟩) 32 32), (1, .slice (some ⟨gl, 0, none⟩) 2 2), (2, .slice a4 n4.length c4), (3, .int .i64 0), (5, .bool false), (7, .int .i64 6), (8, .pointer (some ⟨gn, 0, none⟩)), (9, .int .i64 0)] (blk g2 25 (bvs K2) :: blk g1 25 (bvs K1) :: M0) := (hG _ _ _ _).2 (by
      refine va_four 1 6 10 11 (by kernel_rfl) rfl rfl rfl rfl rfl rfl rfl rfl ?_ ?_ ?_ ?_
      · refine vo_buildSlice rfl rfl rfl (by decide) (by repeat' (first | exact trivial | rfl | refine ⟨?_, ?_⟩)) (by decide) rfl ?_
        intro b1
        refine ⟨.inr (sei _ _ _), ?_⟩
        exact va_ext ((hG _ _ _ _).1 (s1000 b1)) rfl (by (repeat' (first | exact Sub.nil _ | refine Sub.cons rfl rfl ?_ | refine Sub.cons rfl ?_ ?_))) (sei _ _ _)
      · refine vo_buildSlice rfl rfl rfl (by decide) (by repeat' (first | exact trivial | rfl | refine ⟨?_, ?_⟩)) (by decide) rfl ?_
        intro b2
        refine ⟨.inr (sei _ _ _), ?_⟩
        exact va_ext ((hG _ _ _ _).1 (s0100 b2)) rfl (by (repeat' (first | exact Sub.nil _ | refine Sub.cons rfl rfl ?_ | refine Sub.cons rfl ?_ ?_))) (sei _ _ _)
      · refine vo_alloc rfl ?_
        intro g4
        refine ⟨.inr (sei _ _ _), ?_⟩
        exact va_ext ((hG _ _ _ _).1 (s0010 g4)) rfl (by (repeat' (first | exact Sub.nil _ | refine Sub.cons rfl rfl ?_ | refine Sub.cons rfl ?_ ?_))) (sei _ _ _)
      · refine vo_alloc rfl ?_
        intro g5
        refine ⟨.inr (sei _ _ _), ?_⟩
        exact va_ext ((hG _ _ _ _).1 (s0001 g5)) rfl (by (repeat' (first | exact Sub.nil _ | refine Sub.cons rfl rfl ?_ | refine Sub.cons rfl ?_ ?_))) (sei _ _ _))
    refine (hG _ _ _ _).2 ?_
    refine va_takeA 0 rfl rfl rfl rfl ?_
    refine va_takeA 5 rfl rfl rfl rfl ?_
    exact va_ext ((hG _ _ _ _).1 s0000) rfl (by (repeat' (first | exact Sub.nil _ | refine Sub.cons rfl rfl ?_ | refine Sub.cons rfl ?_ ?_))) (sei _ _ _)
  rintro ⟨g4, g6⟩
  subst hM0
  dsimp only
  have okA : PsOk [XA] := by rw [hXA]; exact psOk_one k3 (by simp)
  have ekA : kvs [XA] = [(dk 3, [97])] := by rw [hXA]; rfl
  obtain ⟨R2, hR2⟩ : ∃ R, R = sha (tagB 2 [D1, D2]) := ⟨_, rfl⟩
  have lR2 : R2.length = 32 := by rw [hR2]; exact sha_length _
  have hr1 : rootM [(dk 3, [97])] = D1 := by rw [nm_root1, hD1, hK1]
  have hr2 : rootM [(dk 3, [97]), (dk 200, [98])] = R2 := by rw [nm_root2, hR2, hD1, hD2, hK1, hK2]
  have k5 := dk_len 5
  repeat' (first | (refine go1 ?_; intros) | (refine vl_caseG rfl rfl rfl rfl ?_ ?_ <;> (intro hb; (try simp only [decide_eq_true_eq, decide_eq_false_iff_not, Bool.not_eq_true', Bool.not_eq_false', ne_eq, Decidable.not_not, Option.isNone_iff_eq_none, not_true_eq_false, not_false_eq_true] at hb); try (exfalso; omega))) | (refine v_cond rfl ?_ ?_ <;> (intro hb; (try simp only [decide_eq_true_eq, decide_eq_false_iff_not, Bool.not_eq_true', Bool.not_eq_false', ne_eq, Decidable.not_not, Option.isNone_iff_eq_none, not_true_eq_false, not_false_eq_true] at hb); try (exfalso; omega))) | fail)
  rw [subA_0, Nat.sub_zero, Nat.sub_zero]
  refine vl_o rfl (vo_call rfl rfl ?_)
  refine vc_mono (pRoot_vc (hr := rdF_take (xs := [XA, XC]) okL.wide 1) (hv := by exact rdVs_cons1 (hvA _ inferInstance) (rdVs_nil _ _)) w0 _ (some ⟨gl, 0, none⟩) 2 [XA] rfl (by simp) okA) ?_
  rintro v L' ⟨rfl, rfl⟩
  rw [ekA, if_pos nm_map1, hr1]
  repeat' (first | (refine goE ?_; intros) | (refine vl_caseG rfl rfl rfl rfl ?_ ?_ <;> (intro hb; (try simp only [decide_eq_true_eq, decide_eq_false_iff_not, Bool.not_eq_true', Bool.not_eq_false', ne_eq, Decidable.not_not, Option.isNone_iff_eq_none, not_true_eq_false, not_false_eq_true] at hb); try (exfalso; omega))) | (refine v_cond rfl ?_ ?_ <;> (intro hb; (try simp only [decide_eq_true_eq, decide_eq_false_iff_not, Bool.not_eq_true', Bool.not_eq_false', ne_eq, Decidable.not_not, Option.isNone_iff_eq_none, not_true_eq_false, not_false_eq_true] at hb); try (exfalso; omega))) | fail)
  refine vl_o rfl (vo_call rfl rfl ?_)
  refine vc_mono (one5_vc w0 _ 3 [97] rfl) ?_
  rintro v L' ⟨gq1, cq1, rfl, rfl⟩
  have pq1 := PR.len (p := ⟨dk 3, some ⟨gq1, 0, none⟩, cq1, [97]⟩) k3
  repeat' (first | (refine goE ?_; intros) | (refine vl_caseG rfl rfl rfl rfl ?_ ?_ <;> (intro hb; (try simp only [decide_eq_true_eq, decide_eq_false_iff_not, Bool.not_eq_true', Bool.not_eq_false', ne_eq, Decidable.not_not, Option.isNone_iff_eq_none, not_true_eq_false, not_false_eq_true] at hb); try (exfalso; omega))) | (refine v_cond rfl ?_ ?_ <;> (intro hb; (try simp only [decide_eq_true_eq, decide_eq_false_iff_not, Bool.not_eq_true', Bool.not_eq_false', ne_eq, Decidable.not_not, Option.isNone_iff_eq_none, not_true_eq_false, not_false_eq_true] at hb); try (exfalso; omega))) | fail)
  refine vl_o rfl (vo_call rfl rfl ?_)
  refine vc_mono (one5_vc w0 _ 200 [98] rfl) ?_
  rintro v L' ⟨gq2, cq2, rfl, rfl⟩
  have pq2 := PR.len (p := ⟨dk 200, some ⟨gq2, 0, none⟩, cq2, [98]⟩) k200
  repeat' (first | (refine goE ?_; intros) | (refine vl_caseG rfl rfl rfl rfl ?_ ?_ <;> (intro hb; (try simp only [decide_eq_true_eq, decide_eq_false_iff_not, Bool.not_eq_true', Bool.not_eq_false', ne_eq, Decidable.not_not, Option.isNone_iff_eq_none, not_true_eq_false, not_false_eq_true] at hb); try (exfalso; omega))) | (refine v_cond rfl ?_ ?_ <;> (intro hb; (try simp only [decide_eq_true_eq, decide_eq_false_iff_not, Bool.not_eq_true', Bool.not_eq_false', ne_eq, Decidable.not_not, Option.isNone_iff_eq_none, not_true_eq_false, not_false_eq_true] at hb); try (exfalso; omega))) | fail)
  rename_i gs1
  have f1 : PR.cells ⟨dk 3, some ⟨gq1, 0, none⟩, cq1, [97]⟩ ++ (PR.cells ⟨dk 200, some ⟨gq2, 0, none⟩, cq2, [98]⟩ ++ []) = prc [⟨dk 3, some ⟨gq1, 0, none⟩, cq1, [97]⟩, ⟨dk 200, some ⟨gq2, 0, none⟩, cq2, [98]⟩] := rfl
  rw [f1]
  refine vl_o rfl (vo_call rfl rfl ?_)
  refine vc_mono (pRoot_vc (hv := by exact rdVs_cons1 inferInstance (rdVs_cons1 inferInstance (rdVs_nil _ _))) w0 _ (some ⟨gs1, 0, none⟩) 2 [⟨dk 3, some ⟨gq1, 0, none⟩, cq1, [97]⟩, ⟨dk 200, some ⟨gq2, 0, none⟩, cq2, [98]⟩] rfl (by simp) ((psOk_one k3 (by simp)).app (psOk_one k200 (by simp)) (by simp))) ?_
  rintro v L' ⟨rfl, rfl⟩
  rw [show kvs [⟨dk 3, some ⟨gq1, 0, none⟩, cq1, [97]⟩, ⟨dk 200, some ⟨gq2, 0, none⟩, cq2, [98]⟩] = [(dk 3, [97]), (dk 200, [98])] from rfl, if_pos nm_map2, hr2]
  repeat' (first | (refine goE ?_; intros) | (refine vl_caseG rfl rfl rfl rfl ?_ ?_ <;> (intro hb; (try simp only [decide_eq_true_eq, decide_eq_false_iff_not, Bool.not_eq_true', Bool.not_eq_false', ne_eq, Decidable.not_not, Option.isNone_iff_eq_none, not_true_eq_false, not_false_eq_true] at hb); try (exfalso; omega))) | (refine v_cond rfl ?_ ?_ <;> (intro hb; (try simp only [decide_eq_true_eq, decide_eq_false_iff_not, Bool.not_eq_true', Bool.not_eq_false', ne_eq, Decidable.not_not, Option.isNone_iff_eq_none, not_true_eq_false, not_false_eq_true] at hb); try (exfalso; omega))) | fail)
  refine vl_o rfl (vo_call rfl rfl ?_)
  refine vc_mono (one5_vc w0 _ 9 [99] rfl) ?_
  rintro v L' ⟨gq3, cq3, rfl, rfl⟩
  have pq3 := PR.len (p := ⟨dk 9, some ⟨gq3, 0, none⟩, cq3, [99]⟩) k9
  repeat' (first | (refine goE ?_; intros) | (refine vl_caseG rfl rfl rfl rfl ?_ ?_ <;> (intro hb; (try simp only [decide_eq_true_eq, decide_eq_false_iff_not, Bool.not_eq_true', Bool.not_eq_false', ne_eq, Decidable.not_not, Option.isNone_iff_eq_none, not_true_eq_false, not_false_eq_true] at hb); try (exfalso; omega))) | (refine v_cond rfl ?_ ?_ <;> (intro hb; (try simp only [decide_eq_true_eq, decide_eq_false_iff_not, Bool.not_eq_true', Bool.not_eq_false', ne_eq, Decidable.not_not, Option.isNone_iff_eq_none, not_true_eq_false, not_false_eq_true] at hb); try (exfalso; omega))) | fail)
  refine vl_o rfl (vo_call rfl rfl ?_)
  refine vc_mono (one5_vc w0 _ 3 [97] rfl) ?_
  rintro v L' ⟨gq4, cq4, rfl, rfl⟩
  have pq4 := PR.len (p := ⟨dk 3, some ⟨gq4, 0, none⟩, cq4, [97]⟩) k3
  repeat' (first | (refine goE ?_; intros) | (refine vl_caseG rfl rfl rfl rfl ?_ ?_ <;> (intro hb; (try simp only [decide_eq_true_eq, decide_eq_false_iff_not, Bool.not_eq_true', Bool.not_eq_false', ne_eq, Decidable.not_not, Option.isNone_iff_eq_none, not_true_eq_false, not_false_eq_true] at hb); try (exfalso; omega))) | (refine v_cond rfl ?_ ?_ <;> (intro hb; (try simp only [decide_eq_true_eq, decide_eq_false_iff_not, Bool.not_eq_true', Bool.not_eq_false', ne_eq, Decidable.not_not, Option.isNone_iff_eq_none, not_true_eq_false, not_false_eq_true] at hb); try (exfalso; omega))) | fail)
  rename_i gs2
  have f2 : PR.cells ⟨dk 9, some ⟨gq3, 0, none⟩, cq3, [99]⟩ ++ (PR.cells ⟨dk 3, some ⟨gq4, 0, none⟩, cq4, [97]⟩ ++ []) = prc [⟨dk 9, some ⟨gq3, 0, none⟩, cq3, [99]⟩, ⟨dk 3, some ⟨gq4, 0, none⟩, cq4, [97]⟩] := rfl
  rw [f2]
  refine vl_o rfl (vo_call rfl rfl ?_)
  refine vc_mono (pcheck_vc w0 _ (some ⟨gs2, 0, none⟩) 2 [⟨dk 9, some ⟨gq3, 0, none⟩, cq3, [99]⟩, ⟨dk 3, some ⟨gq4, 0, none⟩, cq4, [97]⟩] rfl ((psOk_one k9 (by simp)).app (psOk_one k3 (by simp)) (by simp))) ?_
  rintro v L' ⟨rfl, rfl⟩
  rw [show kvs [⟨dk 9, some ⟨gq3, 0, none⟩, cq3, [99]⟩, ⟨dk 3, some ⟨gq4, 0, none⟩, cq4, [97]⟩] = [(dk 9, [99]), (dk 3, [97])] from rfl, if_neg nm_bad1]
  repeat' (first | (refine goE ?_; intros) | (refine vl_caseG rfl rfl rfl rfl ?_ ?_ <;> (intro hb; (try simp only [decide_eq_true_eq, decide_eq_false_iff_not, Bool.not_eq_true', Bool.not_eq_false', ne_eq, Decidable.not_not, Option.isNone_iff_eq_none, not_true_eq_false, not_false_eq_true] at hb); try (exfalso; omega))) | (refine v_cond rfl ?_ ?_ <;> (intro hb; (try simp only [decide_eq_true_eq, decide_eq_false_iff_not, Bool.not_eq_true', Bool.not_eq_false', ne_eq, Decidable.not_not, Option.isNone_iff_eq_none, not_true_eq_false, not_false_eq_true] at hb); try (exfalso; omega))) | fail)
  refine vl_o rfl (vo_call rfl rfl ?_)
  refine vc_mono (one5_vc w0 _ 9 [] rfl) ?_
  rintro v L' ⟨gq5, cq5, rfl, rfl⟩
  have pq5 := PR.len (p := ⟨dk 9, some ⟨gq5, 0, none⟩, cq5, []⟩) k9
  repeat' (first | (refine goE ?_; intros) | (refine vl_caseG rfl rfl rfl rfl ?_ ?_ <;> (intro hb; (try simp only [decide_eq_true_eq, decide_eq_false_iff_not, Bool.not_eq_true', Bool.not_eq_false', ne_eq, Decidable.not_not, Option.isNone_iff_eq_none, not_true_eq_false, not_false_eq_true] at hb); try (exfalso; omega))) | (refine v_cond rfl ?_ ?_ <;> (intro hb; (try simp only [decide_eq_true_eq, decide_eq_false_iff_not, Bool.not_eq_true', Bool.not_eq_false', ne_eq, Decidable.not_not, Option.isNone_iff_eq_none, not_true_eq_false, not_false_eq_true] at hb); try (exfalso; omega))) | fail)
  rename_i gs3
  have f3 : PR.cells ⟨dk 9, some ⟨gq5, 0, none⟩, cq5, []⟩ ++ [] = prc [⟨dk 9, some ⟨gq5, 0, none⟩, cq5, []⟩] := rfl
  rw [f3]
  refine vl_o rfl (vo_call rfl rfl ?_)
  refine vc_mono (pcheck_vc w0 _ (some ⟨gs3, 0, none⟩) 1 [⟨dk 9, some ⟨gq5, 0, none⟩, cq5, []⟩] rfl (psOk_one k9 (by simp))) ?_
  rintro v L' ⟨rfl, rfl⟩
  rw [show kvs [⟨dk 9, some ⟨gq5, 0, none⟩, cq5, []⟩] = [(dk 9, [])] from rfl, if_neg nm_bad2]
  repeat' (first | (refine goE ?_; intros) | (refine vl_caseG rfl rfl rfl rfl ?_ ?_ <;> (intro hb; (try simp only [decide_eq_true_eq, decide_eq_false_iff_not, Bool.not_eq_true', Bool.not_eq_false', ne_eq, Decidable.not_not, Option.isNone_iff_eq_none, not_true_eq_false, not_false_eq_true] at hb); try (exfalso; omega))) | (refine v_cond rfl ?_ ?_ <;> (intro hb; (try simp only [decide_eq_true_eq, decide_eq_false_iff_not, Bool.not_eq_true', Bool.not_eq_false', ne_eq, Decidable.not_not, Option.isNone_iff_eq_none, not_true_eq_false, not_false_eq_true] at hb); try (exfalso; omega))) | fail)
  refine v_sub (selE_sub [2, 3, 5, 7, 8, 9, 12, 13, 14, 15, 16, 17, 18] _ rfl) ?_
  (refine v_draw0 [] (by kernel_rfl) ?_ <;> (refine va_takeA 0 rfl rfl rfl rfl ?_))
  refine va_oneG 1 (by kernel_rfl) rfl rfl rfl rfl rfl rfl (vo_call rfl rfl ?_)
  refine vc_mono (alive5_vc w0 _) ?_
  rintro v L' ⟨rfl, rfl⟩
  refine ⟨.inr (SE.ent (by repeat' (first | exact SE.refl _ | refine SE.cons _ ?_ | refine SE.trans (se_drop _ _) ?_)) _), ?_⟩
  ((refine va_takeA 2 rfl rfl rfl rfl ?_) <;> (refine va_takeA 3 rfl rfl rfl rfl ?_) <;> (first | refine va_takeGA 4 rfl rfl rfl rfl rfl rfl rfl rfl ?_ | refine va_passGA 4 rfl rfl rfl rfl rfl rfl rfl rfl ?_ | (refine va_caseG 4 rfl rfl rfl rfl rfl ?_ ?_ <;> (intro hb; (try simp only [decide_eq_true_eq, decide_eq_false_iff_not, Bool.not_eq_true', Bool.not_eq_false', ne_eq, Decidable.not_not, Option.isNone_iff_eq_none, not_true_eq_false, not_false_eq_true] at hb); try (exfalso; omega)) <;> first | refine va_takeGA 4 rfl rfl rfl rfl rfl rfl rfl rfl ?_ | refine va_passGA 4 rfl rfl rfl rfl rfl rfl rfl rfl ?_)) <;> (first | refine va_takeG 5 rfl rfl rfl rfl rfl rfl rfl rfl (by kernel_rfl) (fun _ _ _ _ h => h) (SE.ent (by repeat' (first | exact SE.refl _ | refine SE.cons _ ?_ | refine SE.trans (se_drop _ _) ?_)) _) (by (first | (apply vq_isBin; first | exact vq_neS rfl rfl | exact vq_neBoolS rfl rfl | (apply vq_isOp .neq; first | exact vq_neBS rfl rfl (by first | assumption | (simp; done)) | exact vq_neTxS rfl rfl (by assumption)) | (apply vq_isOp .eql; first | exact vq_eqS rfl rfl | exact vq_eqBS rfl rfl (by first | assumption | (simp; done)) | exact vq_eqTxS rfl rfl (by assumption) | exact vq_eqHdS rfl rfl (by assumption) | exact vq_eqRecS rfl rfl (by assumption) | exact vq_eqTx rfl rfl (by assumption) (by assumption))) | (apply vq_isBin; first | exact vq_lt rfl rfl | exact vq_eq rfl rfl | exact vq_ne rfl rfl | (apply vq_isOp .add; exact vq_add rfl rfl (by first | exact wr_add (by omega) | exact wu_add (by omega) | exact wr_id (by omega) (by omega) | rfl)) | (apply vq_isOp .sub; exact vq_minus rfl rfl (by first | exact wr_sub (by omega) (by omega) | exact wu_sub (by omega) (by omega) | exact wr_id (by omega) (by omega) | rfl)) | exact vq_gt rfl rfl | exact vq_le rfl rfl | exact vq_ge rfl rfl | (apply vq_isOp .mul; exact vq_mul rfl rfl (by first | exact wr_mul (by omega) | exact wr_id (by omega) (by omega) | rfl)) | (apply vq_isOp .or; exact vq_or rfl rfl (by rfl)) | (apply vq_isOp .and; exact vq_and rfl rfl (by rfl)) | (apply vq_isOp .xor; exact vq_xor rfl rfl (by rfl)) | (apply vq_isOp .shl; exact vq_shl rfl rfl (by omega) (by rfl)) | (apply vq_isOp .shr; exact vq_shr rfl rfl (by omega) (by rfl)) | (apply vq_isOp .quo; exact vq_quo rfl rfl (by decide) (by first | exact q8_i64 (by omega) | exact q2_u8 (by omega) | exact q4_i64 (by omega) | assumption | rfl)) | (apply vq_isOp .rem; exact vq_rem rfl rfl (by decide) (by first | exact r8 | exact r2 | exact r4 | exact r64 | assumption | rfl)) | exact vq_eqNil rfl rfl | exact vq_eqBool rfl rfl | (apply vq_isOp .eql; exact vq_eqB rfl rfl (by first | assumption | (simp; done)) (by first | assumption | (simp; done))) | (apply vq_isOp .neq; first | exact vq_neBool rfl rfl | exact vq_neB rfl rfl (by first | assumption | (simp; done)) (by first | assumption | (simp; done)))))) ?_ | refine va_passGA 5 rfl rfl rfl rfl rfl rfl rfl rfl ?_ | (refine va_caseG 5 rfl rfl rfl rfl rfl ?_ ?_ <;> (intro hb; (try simp only [decide_eq_true_eq, decide_eq_false_iff_not, Bool.not_eq_true', Bool.not_eq_false', ne_eq, Decidable.not_not, Option.isNone_iff_eq_none, not_true_eq_false, not_false_eq_true] at hb); try (exfalso; omega)) <;> first | refine va_takeG 5 rfl rfl rfl rfl rfl rfl rfl rfl (by kernel_rfl) (fun _ _ _ _ h => h) (SE.ent (by repeat' (first | exact SE.refl _ | refine SE.cons _ ?_ | refine SE.trans (se_drop _ _) ?_)) _) (by (first | (apply vq_isBin; first | exact vq_neS rfl rfl | exact vq_neBoolS rfl rfl | (apply vq_isOp .neq; first | exact vq_neBS rfl rfl (by first | assumption | (simp; done)) | exact vq_neTxS rfl rfl (by assumption)) | (apply vq_isOp .eql; first | exact vq_eqS rfl rfl | exact vq_eqBS rfl rfl (by first | assumption | (simp; done)) | exact vq_eqTxS rfl rfl (by assumption) | exact vq_eqHdS rfl rfl (by assumption) | exact vq_eqRecS rfl rfl (by assumption) | exact vq_eqTx rfl rfl (by assumption) (by assumption))) | (apply vq_isBin; first | exact vq_lt rfl rfl | exact vq_eq rfl rfl | exact vq_ne rfl rfl | (apply vq_isOp .add; exact vq_add rfl rfl (by first | exact wr_add (by omega) | exact wu_add (by omega) | exact wr_id (by omega) (by omega) | rfl)) | (apply vq_isOp .sub; exact vq_minus rfl rfl (by first | exact wr_sub (by omega) (by omega) | exact wu_sub (by omega) (by omega) | exact wr_id (by omega) (by omega) | rfl)) | exact vq_gt rfl rfl | exact vq_le rfl rfl | exact vq_ge rfl rfl | (apply vq_isOp .mul; exact vq_mul rfl rfl (by first | exact wr_mul (by omega) | exact wr_id (by omega) (by omega) | rfl)) | (apply vq_isOp .or; exact vq_or rfl rfl (by rfl)) | (apply vq_isOp .and; exact vq_and rfl rfl (by rfl)) | (apply vq_isOp .xor; exact vq_xor rfl rfl (by rfl)) | (apply vq_isOp .shl; exact vq_shl rfl rfl (by omega) (by rfl)) | (apply vq_isOp .shr; exact vq_shr rfl rfl (by omega) (by rfl)) | (apply vq_isOp .quo; exact vq_quo rfl rfl (by decide) (by first | exact q8_i64 (by omega) | exact q2_u8 (by omega) | exact q4_i64 (by omega) | assumption | rfl)) | (apply vq_isOp .rem; exact vq_rem rfl rfl (by decide) (by first | exact r8 | exact r2 | exact r4 | exact r64 | assumption | rfl)) | exact vq_eqNil rfl rfl | exact vq_eqBool rfl rfl | (apply vq_isOp .eql; exact vq_eqB rfl rfl (by first | assumption | (simp; done)) (by first | assumption | (simp; done))) | (apply vq_isOp .neq; first | exact vq_neBool rfl rfl | exact vq_neB rfl rfl (by first | assumption | (simp; done)) (by first | assumption | (simp; done)))))) ?_ | refine va_passGA 5 rfl rfl rfl rfl rfl rfl rfl rfl ?_)) <;> (refine va_takeA 6 rfl rfl rfl rfl ?_) <;> (refine va_takeA 7 rfl rfl rfl rfl ?_) <;> (first | refine va_takeGA 8 rfl rfl rfl rfl rfl rfl rfl rfl ?_ | refine va_passGA 8 rfl rfl rfl rfl rfl rfl rfl rfl ?_ | (refine va_caseG 8 rfl rfl rfl rfl rfl ?_ ?_ <;> (intro hb; (try simp only [decide_eq_true_eq, decide_eq_false_iff_not, Bool.not_eq_true', Bool.not_eq_false', ne_eq, Decidable.not_not, Option.isNone_iff_eq_none, not_true_eq_false, not_false_eq_true] at hb); try (exfalso; omega)) <;> first | refine va_takeGA 8 rfl rfl rfl rfl rfl rfl rfl rfl ?_ | refine va_passGA 8 rfl rfl rfl rfl rfl rfl rfl rfl ?_)))
  refine va_oneG 9 (by kernel_rfl) rfl rfl rfl rfl rfl rfl (vo_call rfl rfl ?_)
  refine vc_mono (one5_vc w0 _ 3 [120] rfl) ?_
  rintro v L' ⟨gq6, cq6, rfl, rfl⟩
  have pq6 := PR.len (p := ⟨dk 3, some ⟨gq6, 0, none⟩, cq6, [120]⟩) k3
  refine ⟨.inr (SE.ent (by repeat' (first | exact SE.refl _ | refine SE.cons _ ?_ | refine SE.trans (se_drop _ _) ?_)) _), ?_⟩
  skip
  refine va_oneG 10 (by kernel_rfl) rfl rfl rfl rfl rfl rfl (vo_call rfl rfl ?_)
  refine vc_mono (one5_vc w0 _ 9 [99] rfl) ?_
  rintro v L' ⟨gq7, cq7, rfl, rfl⟩
  have pq7 := PR.len (p := ⟨dk 9, some ⟨gq7, 0, none⟩, cq7, [99]⟩) k9
  refine ⟨.inr (SE.ent (by repeat' (first | exact SE.refl _ | refine SE.cons _ ?_ | refine SE.trans (se_drop _ _) ?_)) _), ?_⟩
  (((refine va_oneG 11 (by kernel_rfl) rfl rfl rfl rfl rfl rfl ?_); (first | (refine vo_box rfl rfl rfl ?_; intro _) | (refine vo_alloc rfl ?_; intro _) | (refine vo_isStore ?_; first | (refine vo_isPt0 rfl ?_; refine vo_stWA rfl rfl ?_) | (refine vo_isPt rfl ?_; refine vo_stBA rfl rfl ?_) | (refine vo_stO rfl rfl (by rfl) (by first | rfl | assumption) (by first | assumption | (simp; done) | (simp; omega) | omega) rfl ?_; skip)) | (refine vo_isCall ?_; first | (refine vo_isApp ?_; first | (refine vo_append0A rfl rfl rfl ?_; intro _ _ _ _) | (refine vo_appendA rfl rfl rfl ?_; intro _ _ _ _)) | (refine vo_isCopy ?_; refine vo_copyB rfl rfl rfl (by assumption) (by assumption) (by assumption) (by assumption) ?_) | refine vo_yield rfl rfl rfl rfl rfl ?_ | refine vo_callV rfl rfl rfl (vc_in rfl rfl ?_)) | refine vo_convRow rfl rfl ?_ | (refine vo_isBs ?_; refine vo_buildSlice rfl rfl rfl (by decide) (by repeat' (first | exact trivial | rfl | assumption | refine ⟨?_, ?_⟩ | (simp; done) | (simp; omega))) (by decide) rfl ?_; intro _) | (refine vo_buildSlice0 rfl ?_; intro _) | fail); refine ⟨.inr (SE.ent (by repeat' (first | exact SE.refl _ | refine SE.cons _ ?_ | refine SE.trans (se_drop _ _) ?_)) _), ?_⟩))
  rename_i gz
  have f6 : PR.cells ⟨dk 3, some ⟨gq6, 0, none⟩, cq6, [120]⟩ ++ (PR.cells ⟨dk 9, some ⟨gq7, 0, none⟩, cq7, [99]⟩ ++ []) = prc [⟨dk 3, some ⟨gq6, 0, none⟩, cq6, [120]⟩, ⟨dk 9, some ⟨gq7, 0, none⟩, cq7, [99]⟩] := rfl
  rw [f6]
  refine va_oneG 12 (by kernel_rfl) rfl rfl rfl rfl rfl rfl (vo_call rfl rfl ?_)
  refine vc_mono (rsame_vc (hv2 := by exact rdVs_cons1 inferInstance (rdVs_cons1 inferInstance (rdVs_nil _ _))) w0 _ a4 c4 n4 (some ⟨gz, 0, none⟩) 2 [⟨dk 3, some ⟨gq6, 0, none⟩, cq6, [120]⟩, ⟨dk 9, some ⟨gq7, 0, none⟩, cq7, [99]⟩] rfl rfl ok4 ((psOk_one k3 (by simp)).app (psOk_one k9 (by simp)) (by simp))) ?_
  rintro v L' ⟨rfl, rfl⟩
  rw [decide_eq_true (show kvs n4 = kvs [⟨dk 3, some ⟨gq6, 0, none⟩, cq6, [120]⟩, ⟨dk 9, some ⟨gq7, 0, none⟩, cq7, [99]⟩] from e4)]
  refine ⟨.inr (SE.ent (by repeat' (first | exact SE.refl _ | refine SE.cons _ ?_ | refine SE.trans (se_drop _ _) ?_)) _), ?_⟩
  ((refine va_takeA 13 rfl rfl rfl rfl ?_) <;> (refine va_takeA 14 rfl rfl rfl rfl ?_) <;> (first | refine va_takeGA 15 rfl rfl rfl rfl rfl rfl rfl rfl ?_ | refine va_passGA 15 rfl rfl rfl rfl rfl rfl rfl rfl ?_ | (refine va_caseG 15 rfl rfl rfl rfl rfl ?_ ?_ <;> (intro hb; (try simp only [decide_eq_true_eq, decide_eq_false_iff_not, Bool.not_eq_true', Bool.not_eq_false', ne_eq, Decidable.not_not, Option.isNone_iff_eq_none, not_true_eq_false, not_false_eq_true] at hb); try (exfalso; omega)) <;> first | refine va_takeGA 15 rfl rfl rfl rfl rfl rfl rfl rfl ?_ | refine va_passGA 15 rfl rfl rfl rfl rfl rfl rfl rfl ?_)) <;> (first | refine va_takeGA 16 rfl rfl rfl rfl rfl rfl rfl rfl ?_ | refine va_passGA 16 rfl rfl rfl rfl rfl rfl rfl rfl ?_ | (refine va_caseG 16 rfl rfl rfl rfl rfl ?_ ?_ <;> (intro hb; (try simp only [decide_eq_true_eq, decide_eq_false_iff_not, Bool.not_eq_true', Bool.not_eq_false', ne_eq, Decidable.not_not, Option.isNone_iff_eq_none, not_true_eq_false, not_false_eq_true] at hb); try (exfalso; omega)) <;> first | refine va_takeGA 16 rfl rfl rfl rfl rfl rfl rfl rfl ?_ | refine va_passGA 16 rfl rfl rfl rfl rfl rfl rfl rfl ?_)) <;> (refine va_takeA 17 rfl rfl rfl rfl ?_) <;> (refine va_takeA 18 rfl rfl rfl rfl ?_) <;> (first | refine va_takeGA 19 rfl rfl rfl rfl rfl rfl rfl rfl ?_ | refine va_passGA 19 rfl rfl rfl rfl rfl rfl rfl rfl ?_ | (refine va_caseG 19 rfl rfl rfl rfl rfl ?_ ?_ <;> (intro hb; (try simp only [decide_eq_true_eq, decide_eq_false_iff_not, Bool.not_eq_true', Bool.not_eq_false', ne_eq, Decidable.not_not, Option.isNone_iff_eq_none, not_true_eq_false, not_false_eq_true] at hb); try (exfalso; omega)) <;> first | refine va_takeGA 19 rfl rfl rfl rfl rfl rfl rfl rfl ?_ | refine va_passGA 19 rfl rfl rfl rfl rfl rfl rfl rfl ?_)) <;> (first | refine va_takeG 20 rfl rfl rfl rfl rfl rfl rfl rfl (by kernel_rfl) (fun _ _ _ _ h => h) (SE.ent (by repeat' (first | exact SE.refl _ | refine SE.cons _ ?_ | refine SE.trans (se_drop _ _) ?_)) _) (by (first | (apply vq_isBin; first | exact vq_neS rfl rfl | exact vq_neBoolS rfl rfl | (apply vq_isOp .neq; first | exact vq_neBS rfl rfl (by first | assumption | (simp; done)) | exact vq_neTxS rfl rfl (by assumption)) | (apply vq_isOp .eql; first | exact vq_eqS rfl rfl | exact vq_eqBS rfl rfl (by first | assumption | (simp; done)) | exact vq_eqTxS rfl rfl (by assumption) | exact vq_eqHdS rfl rfl (by assumption) | exact vq_eqRecS rfl rfl (by assumption) | exact vq_eqTx rfl rfl (by assumption) (by assumption))) | (apply vq_isBin; first | exact vq_lt rfl rfl | exact vq_eq rfl rfl | exact vq_ne rfl rfl | (apply vq_isOp .add; exact vq_add rfl rfl (by first | exact wr_add (by omega) | exact wu_add (by omega) | exact wr_id (by omega) (by omega) | rfl)) | (apply vq_isOp .sub; exact vq_minus rfl rfl (by first | exact wr_sub (by omega) (by omega) | exact wu_sub (by omega) (by omega) | exact wr_id (by omega) (by omega) | rfl)) | exact vq_gt rfl rfl | exact vq_le rfl rfl | exact vq_ge rfl rfl | (apply vq_isOp .mul; exact vq_mul rfl rfl (by first | exact wr_mul (by omega) | exact wr_id (by omega) (by omega) | rfl)) | (apply vq_isOp .or; exact vq_or rfl rfl (by rfl)) | (apply vq_isOp .and; exact vq_and rfl rfl (by rfl)) | (apply vq_isOp .xor; exact vq_xor rfl rfl (by rfl)) | (apply vq_isOp .shl; exact vq_shl rfl rfl (by omega) (by rfl)) | (apply vq_isOp .shr; exact vq_shr rfl rfl (by omega) (by rfl)) | (apply vq_isOp .quo; exact vq_quo rfl rfl (by decide) (by first | exact q8_i64 (by omega) | exact q2_u8 (by omega) | exact q4_i64 (by omega) | assumption | rfl)) | (apply vq_isOp .rem; exact vq_rem rfl rfl (by decide) (by first | exact r8 | exact r2 | exact r4 | exact r64 | assumption | rfl)) | exact vq_eqNil rfl rfl | exact vq_eqBool rfl rfl | (apply vq_isOp .eql; exact vq_eqB rfl rfl (by first | assumption | (simp; done)) (by first | assumption | (simp; done))) | (apply vq_isOp .neq; first | exact vq_neBool rfl rfl | exact vq_neB rfl rfl (by first | assumption | (simp; done)) (by first | assumption | (simp; done)))))) ?_ | refine va_passGA 20 rfl rfl rfl rfl rfl rfl rfl rfl ?_ | (refine va_caseG 20 rfl rfl rfl rfl rfl ?_ ?_ <;> (intro hb; (try simp only [decide_eq_true_eq, decide_eq_false_iff_not, Bool.not_eq_true', Bool.not_eq_false', ne_eq, Decidable.not_not, Option.isNone_iff_eq_none, not_true_eq_false, not_false_eq_true] at hb); try (exfalso; omega)) <;> first | refine va_takeG 20 rfl rfl rfl rfl rfl rfl rfl rfl (by kernel_rfl) (fun _ _ _ _ h => h) (SE.ent (by repeat' (first | exact SE.refl _ | refine SE.cons _ ?_ | refine SE.trans (se_drop _ _) ?_)) _) (by (first | (apply vq_isBin; first | exact vq_neS rfl rfl | exact vq_neBoolS rfl rfl | (apply vq_isOp .neq; first | exact vq_neBS rfl rfl (by first | assumption | (simp; done)) | exact vq_neTxS rfl rfl (by assumption)) | (apply vq_isOp .eql; first | exact vq_eqS rfl rfl | exact vq_eqBS rfl rfl (by first | assumption | (simp; done)) | exact vq_eqTxS rfl rfl (by assumption) | exact vq_eqHdS rfl rfl (by assumption) | exact vq_eqRecS rfl rfl (by assumption) | exact vq_eqTx rfl rfl (by assumption) (by assumption))) | (apply vq_isBin; first | exact vq_lt rfl rfl | exact vq_eq rfl rfl | exact vq_ne rfl rfl | (apply vq_isOp .add; exact vq_add rfl rfl (by first | exact wr_add (by omega) | exact wu_add (by omega) | exact wr_id (by omega) (by omega) | rfl)) | (apply vq_isOp .sub; exact vq_minus rfl rfl (by first | exact wr_sub (by omega) (by omega) | exact wu_sub (by omega) (by omega) | exact wr_id (by omega) (by omega) | rfl)) | exact vq_gt rfl rfl | exact vq_le rfl rfl | exact vq_ge rfl rfl | (apply vq_isOp .mul; exact vq_mul rfl rfl (by first | exact wr_mul (by omega) | exact wr_id (by omega) (by omega) | rfl)) | (apply vq_isOp .or; exact vq_or rfl rfl (by rfl)) | (apply vq_isOp .and; exact vq_and rfl rfl (by rfl)) | (apply vq_isOp .xor; exact vq_xor rfl rfl (by rfl)) | (apply vq_isOp .shl; exact vq_shl rfl rfl (by omega) (by rfl)) | (apply vq_isOp .shr; exact vq_shr rfl rfl (by omega) (by rfl)) | (apply vq_isOp .quo; exact vq_quo rfl rfl (by decide) (by first | exact q8_i64 (by omega) | exact q2_u8 (by omega) | exact q4_i64 (by omega) | assumption | rfl)) | (apply vq_isOp .rem; exact vq_rem rfl rfl (by decide) (by first | exact r8 | exact r2 | exact r4 | exact r64 | assumption | rfl)) | exact vq_eqNil rfl rfl | exact vq_eqBool rfl rfl | (apply vq_isOp .eql; exact vq_eqB rfl rfl (by first | assumption | (simp; done)) (by first | assumption | (simp; done))) | (apply vq_isOp .neq; first | exact vq_neBool rfl rfl | exact vq_neB rfl rfl (by first | assumption | (simp; done)) (by first | assumption | (simp; done)))))) ?_ | refine va_passGA 20 rfl rfl rfl rfl rfl rfl rfl rfl ?_)) <;> (refine va_takeA 21 rfl rfl rfl rfl ?_) <;> (refine va_takeA 22 rfl rfl rfl rfl ?_) <;> (first | refine va_takeGA 23 rfl rfl rfl rfl rfl rfl rfl rfl ?_ | refine va_passGA 23 rfl rfl rfl rfl rfl rfl rfl rfl ?_ | (refine va_caseG 23 rfl rfl rfl rfl rfl ?_ ?_ <;> (intro hb; (try simp only [decide_eq_true_eq, decide_eq_false_iff_not, Bool.not_eq_true', Bool.not_eq_false', ne_eq, Decidable.not_not, Option.isNone_iff_eq_none, not_true_eq_false, not_false_eq_true] at hb); try (exfalso; omega)) <;> first | refine va_takeGA 23 rfl rfl rfl rfl rfl rfl rfl rfl ?_ | refine va_passGA 23 rfl rfl rfl rfl rfl rfl rfl rfl ?_)) <;> (first | refine va_takeG 24 rfl rfl rfl rfl rfl rfl rfl rfl (by kernel_rfl) (fun _ _ _ _ h => h) (SE.ent (by repeat' (first | exact SE.refl _ | refine SE.cons _ ?_ | refine SE.trans (se_drop _ _) ?_)) _) (by (first | (apply vq_isBin; first | exact vq_neS rfl rfl | exact vq_neBoolS rfl rfl | (apply vq_isOp .neq; first | exact vq_neBS rfl rfl (by first | assumption | (simp; done)) | exact vq_neTxS rfl rfl (by assumption)) | (apply vq_isOp .eql; first | exact vq_eqS rfl rfl | exact vq_eqBS rfl rfl (by first | assumption | (simp; done)) | exact vq_eqTxS rfl rfl (by assumption) | exact vq_eqHdS rfl rfl (by assumption) | exact vq_eqRecS rfl rfl (by assumption) | exact vq_eqTx rfl rfl (by assumption) (by assumption))) | (apply vq_isBin; first | exact vq_lt rfl rfl | exact vq_eq rfl rfl | exact vq_ne rfl rfl | (apply vq_isOp .add; exact vq_add rfl rfl (by first | exact wr_add (by omega) | exact wu_add (by omega) | exact wr_id (by omega) (by omega) | rfl)) | (apply vq_isOp .sub; exact vq_minus rfl rfl (by first | exact wr_sub (by omega) (by omega) | exact wu_sub (by omega) (by omega) | exact wr_id (by omega) (by omega) | rfl)) | exact vq_gt rfl rfl | exact vq_le rfl rfl | exact vq_ge rfl rfl | (apply vq_isOp .mul; exact vq_mul rfl rfl (by first | exact wr_mul (by omega) | exact wr_id (by omega) (by omega) | rfl)) | (apply vq_isOp .or; exact vq_or rfl rfl (by rfl)) | (apply vq_isOp .and; exact vq_and rfl rfl (by rfl)) | (apply vq_isOp .xor; exact vq_xor rfl rfl (by rfl)) | (apply vq_isOp .shl; exact vq_shl rfl rfl (by omega) (by rfl)) | (apply vq_isOp .shr; exact vq_shr rfl rfl (by omega) (by rfl)) | (apply vq_isOp .quo; exact vq_quo rfl rfl (by decide) (by first | exact q8_i64 (by omega) | exact q2_u8 (by omega) | exact q4_i64 (by omega) | assumption | rfl)) | (apply vq_isOp .rem; exact vq_rem rfl rfl (by decide) (by first | exact r8 | exact r2 | exact r4 | exact r64 | assumption | rfl)) | exact vq_eqNil rfl rfl | exact vq_eqBool rfl rfl | (apply vq_isOp .eql; exact vq_eqB rfl rfl (by first | assumption | (simp; done)) (by first | assumption | (simp; done))) | (apply vq_isOp .neq; first | exact vq_neBool rfl rfl | exact vq_neB rfl rfl (by first | assumption | (simp; done)) (by first | assumption | (simp; done)))))) ?_ | refine va_passGA 24 rfl rfl rfl rfl rfl rfl rfl rfl ?_ | (refine va_caseG 24 rfl rfl rfl rfl rfl ?_ ?_ <;> (intro hb; (try simp only [decide_eq_true_eq, decide_eq_false_iff_not, Bool.not_eq_true', Bool.not_eq_false', ne_eq, Decidable.not_not, Option.isNone_iff_eq_none, not_true_eq_false, not_false_eq_true] at hb); try (exfalso; omega)) <;> first | refine va_takeG 24 rfl rfl rfl rfl rfl rfl rfl rfl (by kernel_rfl) (fun _ _ _ _ h => h) (SE.ent (by repeat' (first | exact SE.refl _ | refine SE.cons _ ?_ | refine SE.trans (se_drop _ _) ?_)) _) (by (first | (apply vq_isBin; first | exact vq_neS rfl rfl | exact vq_neBoolS rfl rfl | (apply vq_isOp .neq; first | exact vq_neBS rfl rfl (by first | assumption | (simp; done)) | exact vq_neTxS rfl rfl (by assumption)) | (apply vq_isOp .eql; first | exact vq_eqS rfl rfl | exact vq_eqBS rfl rfl (by first | assumption | (simp; done)) | exact vq_eqTxS rfl rfl (by assumption) | exact vq_eqHdS rfl rfl (by assumption) | exact vq_eqRecS rfl rfl (by assumption) | exact vq_eqTx rfl rfl (by assumption) (by assumption))) | (apply vq_isBin; first | exact vq_lt rfl rfl | exact vq_eq rfl rfl | exact vq_ne rfl rfl | (apply vq_isOp .add; exact vq_add rfl rfl (by first | exact wr_add (by omega) | exact wu_add (by omega) | exact wr_id (by omega) (by omega) | rfl)) | (apply vq_isOp .sub; exact vq_minus rfl rfl (by first | exact wr_sub (by omega) (by omega) | exact wu_sub (by omega) (by omega) | exact wr_id (by omega) (by omega) | rfl)) | exact vq_gt rfl rfl | exact vq_le rfl rfl | exact vq_ge rfl rfl | (apply vq_isOp .mul; exact vq_mul rfl rfl (by first | exact wr_mul (by omega) | exact wr_id (by omega) (by omega) | rfl)) | (apply vq_isOp .or; exact vq_or rfl rfl (by rfl)) | (apply vq_isOp .and; exact vq_and rfl rfl (by rfl)) | (apply vq_isOp .xor; exact vq_xor rfl rfl (by rfl)) | (apply vq_isOp .shl; exact vq_shl rfl rfl (by omega) (by rfl)) | (apply vq_isOp .shr; exact vq_shr rfl rfl (by omega) (by rfl)) | (apply vq_isOp .quo; exact vq_quo rfl rfl (by decide) (by first | exact q8_i64 (by omega) | exact q2_u8 (by omega) | exact q4_i64 (by omega) | assumption | rfl)) | (apply vq_isOp .rem; exact vq_rem rfl rfl (by decide) (by first | exact r8 | exact r2 | exact r4 | exact r64 | assumption | rfl)) | exact vq_eqNil rfl rfl | exact vq_eqBool rfl rfl | (apply vq_isOp .eql; exact vq_eqB rfl rfl (by first | assumption | (simp; done)) (by first | assumption | (simp; done))) | (apply vq_isOp .neq; first | exact vq_neBool rfl rfl | exact vq_neB rfl rfl (by first | assumption | (simp; done)) (by first | assumption | (simp; done)))))) ?_ | refine va_passGA 24 rfl rfl rfl rfl rfl rfl rfl rfl ?_)) <;> (refine va_takeA 25 rfl rfl rfl rfl ?_) <;> (refine va_takeA 26 rfl rfl rfl rfl ?_) <;> (first | refine va_takeGA 27 rfl rfl rfl rfl rfl rfl rfl rfl ?_ | refine va_passGA 27 rfl rfl rfl rfl rfl rfl rfl rfl ?_ | (refine va_caseG 27 rfl rfl rfl rfl rfl ?_ ?_ <;> (intro hb; (try simp only [decide_eq_true_eq, decide_eq_false_iff_not, Bool.not_eq_true', Bool.not_eq_false', ne_eq, Decidable.not_not, Option.isNone_iff_eq_none, not_true_eq_false, not_false_eq_true] at hb); try (exfalso; omega)) <;> first | refine va_takeGA 27 rfl rfl rfl rfl rfl rfl rfl rfl ?_ | refine va_passGA 27 rfl rfl rfl rfl rfl rfl rfl rfl ?_)))
  refine va_oneG 28 (by kernel_rfl) rfl rfl rfl rfl rfl rfl (vo_call rfl rfl ?_)
  refine vc_mono (tnone_vc w0 _) ?_
  rintro v L' ⟨rfl, rfl⟩
  rw [← hN0]
  refine ⟨.inr (SE.ent (by repeat' (first | exact SE.refl _ | refine SE.cons _ ?_ | refine SE.trans (se_drop _ _) ?_)) _), ?_⟩
  ((first | refine va_takeG 29 rfl rfl rfl rfl rfl rfl rfl rfl (by kernel_rfl) (fun _ _ _ _ h => h) (SE.ent (by repeat' (first | exact SE.refl _ | refine SE.cons _ ?_ | refine SE.trans (se_drop _ _) ?_)) _) (by (first | (apply vq_isBin; first | exact vq_neS rfl rfl | exact vq_neBoolS rfl rfl | (apply vq_isOp .neq; first | exact vq_neBS rfl rfl (by first | assumption | (simp; done)) | exact vq_neTxS rfl rfl (by assumption)) | (apply vq_isOp .eql; first | exact vq_eqS rfl rfl | exact vq_eqBS rfl rfl (by first | assumption | (simp; done)) | exact vq_eqTxS rfl rfl (by assumption) | exact vq_eqHdS rfl rfl (by assumption) | exact vq_eqRecS rfl rfl (by assumption) | exact vq_eqTx rfl rfl (by assumption) (by assumption))) | (apply vq_isBin; first | exact vq_lt rfl rfl | exact vq_eq rfl rfl | exact vq_ne rfl rfl | (apply vq_isOp .add; exact vq_add rfl rfl (by first | exact wr_add (by omega) | exact wu_add (by omega) | exact wr_id (by omega) (by omega) | rfl)) | (apply vq_isOp .sub; exact vq_minus rfl rfl (by first | exact wr_sub (by omega) (by omega) | exact wu_sub (by omega) (by omega) | exact wr_id (by omega) (by omega) | rfl)) | exact vq_gt rfl rfl | exact vq_le rfl rfl | exact vq_ge rfl rfl | (apply vq_isOp .mul; exact vq_mul rfl rfl (by first | exact wr_mul (by omega) | exact wr_id (by omega) (by omega) | rfl)) | (apply vq_isOp .or; exact vq_or rfl rfl (by rfl)) | (apply vq_isOp .and; exact vq_and rfl rfl (by rfl)) | (apply vq_isOp .xor; exact vq_xor rfl rfl (by rfl)) | (apply vq_isOp .shl; exact vq_shl rfl rfl (by omega) (by rfl)) | (apply vq_isOp .shr; exact vq_shr rfl rfl (by omega) (by rfl)) | (apply vq_isOp .quo; exact vq_quo rfl rfl (by decide) (by first | exact q8_i64 (by omega) | exact q2_u8 (by omega) | exact q4_i64 (by omega) | assumption | rfl)) | (apply vq_isOp .rem; exact vq_rem rfl rfl (by decide) (by first | exact r8 | exact r2 | exact r4 | exact r64 | assumption | rfl)) | exact vq_eqNil rfl rfl | exact vq_eqBool rfl rfl | (apply vq_isOp .eql; exact vq_eqB rfl rfl (by first | assumption | (simp; done)) (by first | assumption | (simp; done))) | (apply vq_isOp .neq; first | exact vq_neBool rfl rfl | exact vq_neB rfl rfl (by first | assumption | (simp; done)) (by first | assumption | (simp; done)))))) ?_ | refine va_passGA 29 rfl rfl rfl rfl rfl rfl rfl rfl ?_ | (refine va_caseG 29 rfl rfl rfl rfl rfl ?_ ?_ <;> (intro hb; (try simp only [decide_eq_true_eq, decide_eq_false_iff_not, Bool.not_eq_true', Bool.not_eq_false', ne_eq, Decidable.not_not, Option.isNone_iff_eq_none, not_true_eq_false, not_false_eq_true] at hb); try (exfalso; omega)) <;> first | refine va_takeG 29 rfl rfl rfl rfl rfl rfl rfl rfl (by kernel_rfl) (fun _ _ _ _ h => h) (SE.ent (by repeat' (first | exact SE.refl _ | refine SE.cons _ ?_ | refine SE.trans (se_drop _ _) ?_)) _) (by (first | (apply vq_isBin; first | exact vq_neS rfl rfl | exact vq_neBoolS rfl rfl | (apply vq_isOp .neq; first | exact vq_neBS rfl rfl (by first | assumption | (simp; done)) | exact vq_neTxS rfl rfl (by assumption)) | (apply vq_isOp .eql; first | exact vq_eqS rfl rfl | exact vq_eqBS rfl rfl (by first | assumption | (simp; done)) | exact vq_eqTxS rfl rfl (by assumption) | exact vq_eqHdS rfl rfl (by assumption) | exact vq_eqRecS rfl rfl (by assumption) | exact vq_eqTx rfl rfl (by assumption) (by assumption))) | (apply vq_isBin; first | exact vq_lt rfl rfl | exact vq_eq rfl rfl | exact vq_ne rfl rfl | (apply vq_isOp .add; exact vq_add rfl rfl (by first | exact wr_add (by omega) | exact wu_add (by omega) | exact wr_id (by omega) (by omega) | rfl)) | (apply vq_isOp .sub; exact vq_minus rfl rfl (by first | exact wr_sub (by omega) (by omega) | exact wu_sub (by omega) (by omega) | exact wr_id (by omega) (by omega) | rfl)) | exact vq_gt rfl rfl | exact vq_le rfl rfl | exact vq_ge rfl rfl | (apply vq_isOp .mul; exact vq_mul rfl rfl (by first | exact wr_mul (by omega) | exact wr_id (by omega) (by omega) | rfl)) | (apply vq_isOp .or; exact vq_or rfl rfl (by rfl)) | (apply vq_isOp .and; exact vq_and rfl rfl (by rfl)) | (apply vq_isOp .xor; exact vq_xor rfl rfl (by rfl)) | (apply vq_isOp .shl; exact vq_shl rfl rfl (by omega) (by rfl)) | (apply vq_isOp .shr; exact vq_shr rfl rfl (by omega) (by rfl)) | (apply vq_isOp .quo; exact vq_quo rfl rfl (by decide) (by first | exact q8_i64 (by omega) | exact q2_u8 (by omega) | exact q4_i64 (by omega) | assumption | rfl)) | (apply vq_isOp .rem; exact vq_rem rfl rfl (by decide) (by first | exact r8 | exact r2 | exact r4 | exact r64 | assumption | rfl)) | exact vq_eqNil rfl rfl | exact vq_eqBool rfl rfl | (apply vq_isOp .eql; exact vq_eqB rfl rfl (by first | assumption | (simp; done)) (by first | assumption | (simp; done))) | (apply vq_isOp .neq; first | exact vq_neBool rfl rfl | exact vq_neB rfl rfl (by first | assumption | (simp; done)) (by first | assumption | (simp; done)))))) ?_ | refine va_passGA 29 rfl rfl rfl rfl rfl rfl rfl rfl ?_)) <;> (refine va_takeA 30 rfl rfl rfl rfl ?_) <;> (refine va_takeA 31 rfl rfl rfl rfl ?_) <;> (first | refine va_takeGA 32 rfl rfl rfl rfl rfl rfl rfl rfl ?_ | refine va_passGA 32 rfl rfl rfl rfl rfl rfl rfl rfl ?_ | (refine va_caseG 32 rfl rfl rfl rfl rfl ?_ ?_ <;> (intro hb; (try simp only [decide_eq_true_eq, decide_eq_false_iff_not, Bool.not_eq_true', Bool.not_eq_false', ne_eq, Decidable.not_not, Option.isNone_iff_eq_none, not_true_eq_false, not_false_eq_true] at hb); try (exfalso; omega)) <;> first | refine va_takeGA 32 rfl rfl rfl rfl rfl rfl rfl rfl ?_ | refine va_passGA 32 rfl rfl rfl rfl rfl rfl rfl rfl ?_)) <;> (first | refine va_takeG 33 rfl rfl rfl rfl rfl rfl rfl rfl (by kernel_rfl) (fun _ _ _ _ h => h) (SE.ent (by repeat' (first | exact SE.refl _ | refine SE.cons _ ?_ | refine SE.trans (se_drop _ _) ?_)) _) (by (first | (apply vq_isBin; first | exact vq_neS rfl rfl | exact vq_neBoolS rfl rfl | (apply vq_isOp .neq; first | exact vq_neBS rfl rfl (by first | assumption | (simp; done)) | exact vq_neTxS rfl rfl (by assumption)) | (apply vq_isOp .eql; first | exact vq_eqS rfl rfl | exact vq_eqBS rfl rfl (by first | assumption | (simp; done)) | exact vq_eqTxS rfl rfl (by assumption) | exact vq_eqHdS rfl rfl (by assumption) | exact vq_eqRecS rfl rfl (by assumption) | exact vq_eqTx rfl rfl (by assumption) (by assumption))) | (apply vq_isBin; first | exact vq_lt rfl rfl | exact vq_eq rfl rfl | exact vq_ne rfl rfl | (apply vq_isOp .add; exact vq_add rfl rfl (by first | exact wr_add (by omega) | exact wu_add (by omega) | exact wr_id (by omega) (by omega) | rfl)) | (apply vq_isOp .sub; exact vq_minus rfl rfl (by first | exact wr_sub (by omega) (by omega) | exact wu_sub (by omega) (by omega) | exact wr_id (by omega) (by omega) | rfl)) | exact vq_gt rfl rfl | exact vq_le rfl rfl | exact vq_ge rfl rfl | (apply vq_isOp .mul; exact vq_mul rfl rfl (by first | exact wr_mul (by omega) | exact wr_id (by omega) (by omega) | rfl)) | (apply vq_isOp .or; exact vq_or rfl rfl (by rfl)) | (apply vq_isOp .and; exact vq_and rfl rfl (by rfl)) | (apply vq_isOp .xor; exact vq_xor rfl rfl (by rfl)) | (apply vq_isOp .shl; exact vq_shl rfl rfl (by omega) (by rfl)) | (apply vq_isOp .shr; exact vq_shr rfl rfl (by omega) (by rfl)) | (apply vq_isOp .quo; exact vq_quo rfl rfl (by decide) (by first | exact q8_i64 (by omega) | exact q2_u8 (by omega) | exact q4_i64 (by omega) | assumption | rfl)) | (apply vq_isOp .rem; exact vq_rem rfl rfl (by decide) (by first | exact r8 | exact r2 | exact r4 | exact r64 | assumption | rfl)) | exact vq_eqNil rfl rfl | exact vq_eqBool rfl rfl | (apply vq_isOp .eql; exact vq_eqB rfl rfl (by first | assumption | (simp; done)) (by first | assumption | (simp; done))) | (apply vq_isOp .neq; first | exact vq_neBool rfl rfl | exact vq_neB rfl rfl (by first | assumption | (simp; done)) (by first | assumption | (simp; done)))))) ?_ | refine va_passGA 33 rfl rfl rfl rfl rfl rfl rfl rfl ?_ | (refine va_caseG 33 rfl rfl rfl rfl rfl ?_ ?_ <;> (intro hb; (try simp only [decide_eq_true_eq, decide_eq_false_iff_not, Bool.not_eq_true', Bool.not_eq_false', ne_eq, Decidable.not_not, Option.isNone_iff_eq_none, not_true_eq_false, not_false_eq_true] at hb); try (exfalso; omega)) <;> first | refine va_takeG 33 rfl rfl rfl rfl rfl rfl rfl rfl (by kernel_rfl) (fun _ _ _ _ h => h) (SE.ent (by repeat' (first | exact SE.refl _ | refine SE.cons _ ?_ | refine SE.trans (se_drop _ _) ?_)) _) (by (first | (apply vq_isBin; first | exact vq_neS rfl rfl | exact vq_neBoolS rfl rfl | (apply vq_isOp .neq; first | exact vq_neBS rfl rfl (by first | assumption | (simp; done)) | exact vq_neTxS rfl rfl (by assumption)) | (apply vq_isOp .eql; first | exact vq_eqS rfl rfl | exact vq_eqBS rfl rfl (by first | assumption | (simp; done)) | exact vq_eqTxS rfl rfl (by assumption) | exact vq_eqHdS rfl rfl (by assumption) | exact vq_eqRecS rfl rfl (by assumption) | exact vq_eqTx rfl rfl (by assumption) (by assumption))) | (apply vq_isBin; first | exact vq_lt rfl rfl | exact vq_eq rfl rfl | exact vq_ne rfl rfl | (apply vq_isOp .add; exact vq_add rfl rfl (by first | exact wr_add (by omega) | exact wu_add (by omega) | exact wr_id (by omega) (by omega) | rfl)) | (apply vq_isOp .sub; exact vq_minus rfl rfl (by first | exact wr_sub (by omega) (by omega) | exact wu_sub (by omega) (by omega) | exact wr_id (by omega) (by omega) | rfl)) | exact vq_gt rfl rfl | exact vq_le rfl rfl | exact vq_ge rfl rfl | (apply vq_isOp .mul; exact vq_mul rfl rfl (by first | exact wr_mul (by omega) | exact wr_id (by omega) (by omega) | rfl)) | (apply vq_isOp .or; exact vq_or rfl rfl (by rfl)) | (apply vq_isOp .and; exact vq_and rfl rfl (by rfl)) | (apply vq_isOp .xor; exact vq_xor rfl rfl (by rfl)) | (apply vq_isOp .shl; exact vq_shl rfl rfl (by omega) (by rfl)) | (apply vq_isOp .shr; exact vq_shr rfl rfl (by omega) (by rfl)) | (apply vq_isOp .quo; exact vq_quo rfl rfl (by decide) (by first | exact q8_i64 (by omega) | exact q2_u8 (by omega) | exact q4_i64 (by omega) | assumption | rfl)) | (apply vq_isOp .rem; exact vq_rem rfl rfl (by decide) (by first | exact r8 | exact r2 | exact r4 | exact r64 | assumption | rfl)) | exact vq_eqNil rfl rfl | exact vq_eqBool rfl rfl | (apply vq_isOp .eql; exact vq_eqB rfl rfl (by first | assumption | (simp; done)) (by first | assumption | (simp; done))) | (apply vq_isOp .neq; first | exact vq_neBool rfl rfl | exact vq_neB rfl rfl (by first | assumption | (simp; done)) (by first | assumption | (simp; done)))))) ?_ | refine va_passGA 33 rfl rfl rfl rfl rfl rfl rfl rfl ?_)) <;> (refine va_takeA 34 rfl rfl rfl rfl ?_) <;> (refine va_takeA 35 rfl rfl rfl rfl ?_) <;> (first | refine va_takeGA 36 rfl rfl rfl rfl rfl rfl rfl rfl ?_ | refine va_passGA 36 rfl rfl rfl rfl rfl rfl rfl rfl ?_ | (refine va_caseG 36 rfl rfl rfl rfl rfl ?_ ?_ <;> (intro hb; (try simp only [decide_eq_true_eq, decide_eq_false_iff_not, Bool.not_eq_true', Bool.not_eq_false', ne_eq, Decidable.not_not, Option.isNone_iff_eq_none, not_true_eq_false, not_false_eq_true] at hb); try (exfalso; omega)) <;> first | refine va_takeGA 36 rfl rfl rfl rfl rfl rfl rfl rfl ?_ | refine va_passGA 36 rfl rfl rfl rfl rfl rfl rfl rfl ?_)) <;> (first | refine va_takeGA 37 rfl rfl rfl rfl rfl rfl rfl rfl ?_ | refine va_passGA 37 rfl rfl rfl rfl rfl rfl rfl rfl ?_ | (refine va_caseG 37 rfl rfl rfl rfl rfl ?_ ?_ <;> (intro hb; (try simp only [decide_eq_true_eq, decide_eq_false_iff_not, Bool.not_eq_true', Bool.not_eq_false', ne_eq, Decidable.not_not, Option.isNone_iff_eq_none, not_true_eq_false, not_false_eq_true] at hb); try (exfalso; omega)) <;> first | refine va_takeGA 37 rfl rfl rfl rfl rfl rfl rfl rfl ?_ | refine va_passGA 37 rfl rfl rfl rfl rfl rfl rfl rfl ?_)) <;> (first | refine va_takeG 38 rfl rfl rfl rfl rfl rfl rfl rfl (by kernel_rfl) (fun _ _ _ _ h => h) (SE.ent (by repeat' (first | exact SE.refl _ | refine SE.cons _ ?_ | refine SE.trans (se_drop _ _) ?_)) _) (by (first | (apply vq_isBin; first | exact vq_neS rfl rfl | exact vq_neBoolS rfl rfl | (apply vq_isOp .neq; first | exact vq_neBS rfl rfl (by first | assumption | (simp; done)) | exact vq_neTxS rfl rfl (by assumption)) | (apply vq_isOp .eql; first | exact vq_eqS rfl rfl | exact vq_eqBS rfl rfl (by first | assumption | (simp; done)) | exact vq_eqTxS rfl rfl (by assumption) | exact vq_eqHdS rfl rfl (by assumption) | exact vq_eqRecS rfl rfl (by assumption) | exact vq_eqTx rfl rfl (by assumption) (by assumption))) | (apply vq_isBin; first | exact vq_lt rfl rfl | exact vq_eq rfl rfl | exact vq_ne rfl rfl | (apply vq_isOp .add; exact vq_add rfl rfl (by first | exact wr_add (by omega) | exact wu_add (by omega) | exact wr_id (by omega) (by omega) | rfl)) | (apply vq_isOp .sub; exact vq_minus rfl rfl (by first | exact wr_sub (by omega) (by omega) | exact wu_sub (by omega) (by omega) | exact wr_id (by omega) (by omega) | rfl)) | exact vq_gt rfl rfl | exact vq_le rfl rfl | exact vq_ge rfl rfl | (apply vq_isOp .mul; exact vq_mul rfl rfl (by first | exact wr_mul (by omega) | exact wr_id (by omega) (by omega) | rfl)) | (apply vq_isOp .or; exact vq_or rfl rfl (by rfl)) | (apply vq_isOp .and; exact vq_and rfl rfl (by rfl)) | (apply vq_isOp .xor; exact vq_xor rfl rfl (by rfl)) | (apply vq_isOp .shl; exact vq_shl rfl rfl (by omega) (by rfl)) | (apply vq_isOp .shr; exact vq_shr rfl rfl (by omega) (by rfl)) | (apply vq_isOp .quo; exact vq_quo rfl rfl (by decide) (by first | exact q8_i64 (by omega) | exact q2_u8 (by omega) | exact q4_i64 (by omega) | assumption | rfl)) | (apply vq_isOp .rem; exact vq_rem rfl rfl (by decide) (by first | exact r8 | exact r2 | exact r4 | exact r64 | assumption | rfl)) | exact vq_eqNil rfl rfl | exact vq_eqBool rfl rfl | (apply vq_isOp .eql; exact vq_eqB rfl rfl (by first | assumption | (simp; done)) (by first | assumption | (simp; done))) | (apply vq_isOp .neq; first | exact vq_neBool rfl rfl | exact vq_neB rfl rfl (by first | assumption | (simp; done)) (by first | assumption | (simp; done)))))) ?_ | refine va_passGA 38 rfl rfl rfl rfl rfl rfl rfl rfl ?_ | (refine va_caseG 38 rfl rfl rfl rfl rfl ?_ ?_ <;> (intro hb; (try simp only [decide_eq_true_eq, decide_eq_false_iff_not, Bool.not_eq_true', Bool.not_eq_false', ne_eq, Decidable.not_not, Option.isNone_iff_eq_none, not_true_eq_false, not_false_eq_true] at hb); try (exfalso; omega)) <;> first | refine va_takeG 38 rfl rfl rfl rfl rfl rfl rfl rfl (by kernel_rfl) (fun _ _ _ _ h => h) (SE.ent (by repeat' (first | exact SE.refl _ | refine SE.cons _ ?_ | refine SE.trans (se_drop _ _) ?_)) _) (by (first | (apply vq_isBin; first | exact vq_neS rfl rfl | exact vq_neBoolS rfl rfl | (apply vq_isOp .neq; first | exact vq_neBS rfl rfl (by first | assumption | (simp; done)) | exact vq_neTxS rfl rfl (by assumption)) | (apply vq_isOp .eql; first | exact vq_eqS rfl rfl | exact vq_eqBS rfl rfl (by first | assumption | (simp; done)) | exact vq_eqTxS rfl rfl (by assumption) | exact vq_eqHdS rfl rfl (by assumption) | exact vq_eqRecS rfl rfl (by assumption) | exact vq_eqTx rfl rfl (by assumption) (by assumption))) | (apply vq_isBin; first | exact vq_lt rfl rfl | exact vq_eq rfl rfl | exact vq_ne rfl rfl | (apply vq_isOp .add; exact vq_add rfl rfl (by first | exact wr_add (by omega) | exact wu_add (by omega) | exact wr_id (by omega) (by omega) | rfl)) | (apply vq_isOp .sub; exact vq_minus rfl rfl (by first | exact wr_sub (by omega) (by omega) | exact wu_sub (by omega) (by omega) | exact wr_id (by omega) (by omega) | rfl)) | exact vq_gt rfl rfl | exact vq_le rfl rfl | exact vq_ge rfl rfl | (apply vq_isOp .mul; exact vq_mul rfl rfl (by first | exact wr_mul (by omega) | exact wr_id (by omega) (by omega) | rfl)) | (apply vq_isOp .or; exact vq_or rfl rfl (by rfl)) | (apply vq_isOp .and; exact vq_and rfl rfl (by rfl)) | (apply vq_isOp .xor; exact vq_xor rfl rfl (by rfl)) | (apply vq_isOp .shl; exact vq_shl rfl rfl (by omega) (by rfl)) | (apply vq_isOp .shr; exact vq_shr rfl rfl (by omega) (by rfl)) | (apply vq_isOp .quo; exact vq_quo rfl rfl (by decide) (by first | exact q8_i64 (by omega) | exact q2_u8 (by omega) | exact q4_i64 (by omega) | assumption | rfl)) | (apply vq_isOp .rem; exact vq_rem rfl rfl (by decide) (by first | exact r8 | exact r2 | exact r4 | exact r64 | assumption | rfl)) | exact vq_eqNil rfl rfl | exact vq_eqBool rfl rfl | (apply vq_isOp .eql; exact vq_eqB rfl rfl (by first | assumption | (simp; done)) (by first | assumption | (simp; done))) | (apply vq_isOp .neq; first | exact vq_neBool rfl rfl | exact vq_neB rfl rfl (by first | assumption | (simp; done)) (by first | assumption | (simp; done)))))) ?_ | refine va_passGA 38 rfl rfl rfl rfl rfl rfl rfl rfl ?_)) <;> (refine va_takeA 39 rfl rfl rfl rfl ?_) <;> (refine va_takeA 40 rfl rfl rfl rfl ?_) <;> (first | refine va_takeGA 41 rfl rfl rfl rfl rfl rfl rfl rfl ?_ | refine va_passGA 41 rfl rfl rfl rfl rfl rfl rfl rfl ?_ | (refine va_caseG 41 rfl rfl rfl rfl rfl ?_ ?_ <;> (intro hb; (try simp only [decide_eq_true_eq, decide_eq_false_iff_not, Bool.not_eq_true', Bool.not_eq_false', ne_eq, Decidable.not_not, Option.isNone_iff_eq_none, not_true_eq_false, not_false_eq_true] at hb); try (exfalso; omega)) <;> first | refine va_takeGA 41 rfl rfl rfl rfl rfl rfl rfl rfl ?_ | refine va_passGA 41 rfl rfl rfl rfl rfl rfl rfl rfl ?_)) <;> (first | refine va_takeG 42 rfl rfl rfl rfl rfl rfl rfl rfl (by kernel_rfl) (fun _ _ _ _ h => h) (SE.ent (by repeat' (first | exact SE.refl _ | refine SE.cons _ ?_ | refine SE.trans (se_drop _ _) ?_)) _) (by (first | (apply vq_isBin; first | exact vq_neS rfl rfl | exact vq_neBoolS rfl rfl | (apply vq_isOp .neq; first | exact vq_neBS rfl rfl (by first | assumption | (simp; done)) | exact vq_neTxS rfl rfl (by assumption)) | (apply vq_isOp .eql; first | exact vq_eqS rfl rfl | exact vq_eqBS rfl rfl (by first | assumption | (simp; done)) | exact vq_eqTxS rfl rfl (by assumption) | exact vq_eqHdS rfl rfl (by assumption) | exact vq_eqRecS rfl rfl (by assumption) | exact vq_eqTx rfl rfl (by assumption) (by assumption))) | (apply vq_isBin; first | exact vq_lt rfl rfl | exact vq_eq rfl rfl | exact vq_ne rfl rfl | (apply vq_isOp .add; exact vq_add rfl rfl (by first | exact wr_add (by omega) | exact wu_add (by omega) | exact wr_id (by omega) (by omega) | rfl)) | (apply vq_isOp .sub; exact vq_minus rfl rfl (by first | exact wr_sub (by omega) (by omega) | exact wu_sub (by omega) (by omega) | exact wr_id (by omega) (by omega) | rfl)) | exact vq_gt rfl rfl | exact vq_le rfl rfl | exact vq_ge rfl rfl | (apply vq_isOp .mul; exact vq_mul rfl rfl (by first | exact wr_mul (by omega) | exact wr_id (by omega) (by omega) | rfl)) | (apply vq_isOp .or; exact vq_or rfl rfl (by rfl)) | (apply vq_isOp .and; exact vq_and rfl rfl (by rfl)) | (apply vq_isOp .xor; exact vq_xor rfl rfl (by rfl)) | (apply vq_isOp .shl; exact vq_shl rfl rfl (by omega) (by rfl)) | (apply vq_isOp .shr; exact vq_shr rfl rfl (by omega) (by rfl)) | (apply vq_isOp .quo; exact vq_quo rfl rfl (by decide) (by first | exact q8_i64 (by omega) | exact q2_u8 (by omega) | exact q4_i64 (by omega) | assumption | rfl)) | (apply vq_isOp .rem; exact vq_rem rfl rfl (by decide) (by first | exact r8 | exact r2 | exact r4 | exact r64 | assumption | rfl)) | exact vq_eqNil rfl rfl | exact vq_eqBool rfl rfl | (apply vq_isOp .eql; exact vq_eqB rfl rfl (by first | assumption | (simp; done)) (by first | assumption | (simp; done))) | (apply vq_isOp .neq; first | exact vq_neBool rfl rfl | exact vq_neB rfl rfl (by first | assumption | (simp; done)) (by first | assumption | (simp; done)))))) ?_ | refine va_passGA 42 rfl rfl rfl rfl rfl rfl rfl rfl ?_ | (refine va_caseG 42 rfl rfl rfl rfl rfl ?_ ?_ <;> (intro hb; (try simp only [decide_eq_true_eq, decide_eq_false_iff_not, Bool.not_eq_true', Bool.not_eq_false', ne_eq, Decidable.not_not, Option.isNone_iff_eq_none, not_true_eq_false, not_false_eq_true] at hb); try (exfalso; omega)) <;> first | refine va_takeG 42 rfl rfl rfl rfl rfl rfl rfl rfl (by kernel_rfl) (fun _ _ _ _ h => h) (SE.ent (by repeat' (first | exact SE.refl _ | refine SE.cons _ ?_ | refine SE.trans (se_drop _ _) ?_)) _) (by (first | (apply vq_isBin; first | exact vq_neS rfl rfl | exact vq_neBoolS rfl rfl | (apply vq_isOp .neq; first | exact vq_neBS rfl rfl (by first | assumption | (simp; done)) | exact vq_neTxS rfl rfl (by assumption)) | (apply vq_isOp .eql; first | exact vq_eqS rfl rfl | exact vq_eqBS rfl rfl (by first | assumption | (simp; done)) | exact vq_eqTxS rfl rfl (by assumption) | exact vq_eqHdS rfl rfl (by assumption) | exact vq_eqRecS rfl rfl (by assumption) | exact vq_eqTx rfl rfl (by assumption) (by assumption))) | (apply vq_isBin; first | exact vq_lt rfl rfl | exact vq_eq rfl rfl | exact vq_ne rfl rfl | (apply vq_isOp .add; exact vq_add rfl rfl (by first | exact wr_add (by omega) | exact wu_add (by omega) | exact wr_id (by omega) (by omega) | rfl)) | (apply vq_isOp .sub; exact vq_minus rfl rfl (by first | exact wr_sub (by omega) (by omega) | exact wu_sub (by omega) (by omega) | exact wr_id (by omega) (by omega) | rfl)) | exact vq_gt rfl rfl | exact vq_le rfl rfl | exact vq_ge rfl rfl | (apply vq_isOp .mul; exact vq_mul rfl rfl (by first | exact wr_mul (by omega) | exact wr_id (by omega) (by omega) | rfl)) | (apply vq_isOp .or; exact vq_or rfl rfl (by rfl)) | (apply vq_isOp .and; exact vq_and rfl rfl (by rfl)) | (apply vq_isOp .xor; exact vq_xor rfl rfl (by rfl)) | (apply vq_isOp .shl; exact vq_shl rfl rfl (by omega) (by rfl)) | (apply vq_isOp .shr; exact vq_shr rfl rfl (by omega) (by rfl)) | (apply vq_isOp .quo; exact vq_quo rfl rfl (by decide) (by first | exact q8_i64 (by omega) | exact q2_u8 (by omega) | exact q4_i64 (by omega) | assumption | rfl)) | (apply vq_isOp .rem; exact vq_rem rfl rfl (by decide) (by first | exact r8 | exact r2 | exact r4 | exact r64 | assumption | rfl)) | exact vq_eqNil rfl rfl | exact vq_eqBool rfl rfl | (apply vq_isOp .eql; exact vq_eqB rfl rfl (by first | assumption | (simp; done)) (by first | assumption | (simp; done))) | (apply vq_isOp .neq; first | exact vq_neBool rfl rfl | exact vq_neB rfl rfl (by first | assumption | (simp; done)) (by first | assumption | (simp; done)))))) ?_ | refine va_passGA 42 rfl rfl rfl rfl rfl rfl rfl rfl ?_)) <;> (refine va_takeA 43 rfl rfl rfl rfl ?_) <;> (refine va_takeA 44 rfl rfl rfl rfl ?_) <;> (first | refine va_takeGA 45 rfl rfl rfl rfl rfl rfl rfl rfl ?_ | refine va_passGA 45 rfl rfl rfl rfl rfl rfl rfl rfl ?_ | (refine va_caseG 45 rfl rfl rfl rfl rfl ?_ ?_ <;> (intro hb; (try simp only [decide_eq_true_eq, decide_eq_false_iff_not, Bool.not_eq_true', Bool.not_eq_false', ne_eq, Decidable.not_not, Option.isNone_iff_eq_none, not_true_eq_false, not_false_eq_true] at hb); try (exfalso; omega)) <;> first | refine va_takeGA 45 rfl rfl rfl rfl rfl rfl rfl rfl ?_ | refine va_passGA 45 rfl rfl rfl rfl rfl rfl rfl rfl ?_)) <;> (first | refine va_takeGA 46 rfl rfl rfl rfl rfl rfl rfl rfl ?_ | refine va_passGA 46 rfl rfl rfl rfl rfl rfl rfl rfl ?_ | (refine va_caseG 46 rfl rfl rfl rfl rfl ?_ ?_ <;> (intro hb; (try simp only [decide_eq_true_eq, decide_eq_false_iff_not, Bool.not_eq_true', Bool.not_eq_false', ne_eq, Decidable.not_not, Option.isNone_iff_eq_none, not_true_eq_false, not_false_eq_true] at hb); try (exfalso; omega)) <;> first | refine va_takeGA 46 rfl rfl rfl rfl rfl rfl rfl rfl ?_ | refine va_passGA 46 rfl rfl rfl rfl rfl rfl rfl rfl ?_)) <;> (first | refine va_takeGA 47 rfl rfl rfl rfl rfl rfl rfl rfl ?_ | refine va_passGA 47 rfl rfl rfl rfl rfl rfl rfl rfl ?_ | (refine va_caseG 47 rfl rfl rfl rfl rfl ?_ ?_ <;> (intro hb; (try simp only [decide_eq_true_eq, decide_eq_false_iff_not, Bool.not_eq_true', Bool.not_eq_false', ne_eq, Decidable.not_not, Option.isNone_iff_eq_none, not_true_eq_false, not_false_eq_true] at hb); try (exfalso; omega)) <;> first | refine va_takeGA 47 rfl rfl rfl rfl rfl rfl rfl rfl ?_ | refine va_passGA 47 rfl rfl rfl rfl rfl rfl rfl rfl ?_)) <;> ((refine va_oneG 48 (by kernel_rfl) rfl rfl rfl rfl rfl rfl ?_); (first | (refine vo_box rfl rfl rfl ?_; intro _) | (refine vo_alloc rfl ?_; intro _) | (refine vo_isStore ?_; first | (refine vo_isPt0 rfl ?_; refine vo_stWA rfl rfl ?_) | (refine vo_isPt rfl ?_; refine vo_stBA rfl rfl ?_) | (refine vo_stO rfl rfl (by rfl) (by first | rfl | assumption) (by first | assumption | (simp; done) | (simp; omega) | omega) rfl ?_; skip)) | (refine vo_isCall ?_; first | (refine vo_isApp ?_; first | (refine vo_append0A rfl rfl rfl ?_; intro _ _ _ _) | (refine vo_appendA rfl rfl rfl ?_; intro _ _ _ _)) | (refine vo_isCopy ?_; refine vo_copyB rfl rfl rfl (by assumption) (by assumption) (by assumption) (by assumption) ?_) | refine vo_yield rfl rfl rfl rfl rfl ?_ | refine vo_callV rfl rfl rfl (vc_in rfl rfl ?_)) | refine vo_convRow rfl rfl ?_ | (refine vo_isBs ?_; refine vo_buildSlice rfl rfl rfl (by decide) (by repeat' (first | exact trivial | rfl | assumption | refine ⟨?_, ?_⟩ | (simp; done) | (simp; omega))) (by decide) rfl ?_; intro _) | (refine vo_buildSlice0 rfl ?_; intro _) | fail); refine ⟨.inr (SE.ent (by repeat' (first | exact SE.refl _ | refine SE.cons _ ?_ | refine SE.trans (se_drop _ _) ?_)) _), ?_⟩))
  rename_i gy
  refine va_oneG 49 (by kernel_rfl) rfl rfl rfl rfl rfl rfl (vo_call rfl rfl ?_)
  refine vc_mono (tof2_vc w0 _ 2 (by decide) gy (some ⟨g4, 0, none⟩) 32 D1 (some ⟨g6, 0, none⟩) 32 D2 lD1.symm lD2.symm hB3) ?_
  rintro v L' ⟨rfl, rfl⟩
  rw [← hR2]
  refine ⟨.inr (SE.ent (by repeat' (first | exact SE.refl _ | refine SE.cons _ ?_ | refine SE.trans (se_drop _ _) ?_)) _), ?_⟩
  ((first | refine va_takeG 50 rfl rfl rfl rfl rfl rfl rfl rfl (by kernel_rfl) (fun _ _ _ _ h => h) (SE.ent (by repeat' (first | exact SE.refl _ | refine SE.cons _ ?_ | refine SE.trans (se_drop _ _) ?_)) _) (by (first | (apply vq_isBin; first | exact vq_neS rfl rfl | exact vq_neBoolS rfl rfl | (apply vq_isOp .neq; first | exact vq_neBS rfl rfl (by first | assumption | (simp; done)) | exact vq_neTxS rfl rfl (by assumption)) | (apply vq_isOp .eql; first | exact vq_eqS rfl rfl | exact vq_eqBS rfl rfl (by first | assumption | (simp; done)) | exact vq_eqTxS rfl rfl (by assumption) | exact vq_eqHdS rfl rfl (by assumption) | exact vq_eqRecS rfl rfl (by assumption) | exact vq_eqTx rfl rfl (by assumption) (by assumption))) | (apply vq_isBin; first | exact vq_lt rfl rfl | exact vq_eq rfl rfl | exact vq_ne rfl rfl | (apply vq_isOp .add; exact vq_add rfl rfl (by first | exact wr_add (by omega) | exact wu_add (by omega) | exact wr_id (by omega) (by omega) | rfl)) | (apply vq_isOp .sub; exact vq_minus rfl rfl (by first | exact wr_sub (by omega) (by omega) | exact wu_sub (by omega) (by omega) | exact wr_id (by omega) (by omega) | rfl)) | exact vq_gt rfl rfl | exact vq_le rfl rfl | exact vq_ge rfl rfl | (apply vq_isOp .mul; exact vq_mul rfl rfl (by first | exact wr_mul (by omega) | exact wr_id (by omega) (by omega) | rfl)) | (apply vq_isOp .or; exact vq_or rfl rfl (by rfl)) | (apply vq_isOp .and; exact vq_and rfl rfl (by rfl)) | (apply vq_isOp .xor; exact vq_xor rfl rfl (by rfl)) | (apply vq_isOp .shl; exact vq_shl rfl rfl (by omega) (by rfl)) | (apply vq_isOp .shr; exact vq_shr rfl rfl (by omega) (by rfl)) | (apply vq_isOp .quo; exact vq_quo rfl rfl (by decide) (by first | exact q8_i64 (by omega) | exact q2_u8 (by omega) | exact q4_i64 (by omega) | assumption | rfl)) | (apply vq_isOp .rem; exact vq_rem rfl rfl (by decide) (by first | exact r8 | exact r2 | exact r4 | exact r64 | assumption | rfl)) | exact vq_eqNil rfl rfl | exact vq_eqBool rfl rfl | (apply vq_isOp .eql; exact vq_eqB rfl rfl (by first | assumption | (simp; done)) (by first | assumption | (simp; done))) | (apply vq_isOp .neq; first | exact vq_neBool rfl rfl | exact vq_neB rfl rfl (by first | assumption | (simp; done)) (by first | assumption | (simp; done)))))) ?_ | refine va_passGA 50 rfl rfl rfl rfl rfl rfl rfl rfl ?_ | (refine va_caseG 50 rfl rfl rfl rfl rfl ?_ ?_ <;> (intro hb; (try simp only [decide_eq_true_eq, decide_eq_false_iff_not, Bool.not_eq_true', Bool.not_eq_false', ne_eq, Decidable.not_not, Option.isNone_iff_eq_none, not_true_eq_false, not_false_eq_true] at hb); try (exfalso; omega)) <;> first | refine va_takeG 50 rfl rfl rfl rfl rfl rfl rfl rfl (by kernel_rfl) (fun _ _ _ _ h => h) (SE.ent (by repeat' (first | exact SE.refl _ | refine SE.cons _ ?_ | refine SE.trans (se_drop _ _) ?_)) _) (by (first | (apply vq_isBin; first | exact vq_neS rfl rfl | exact vq_neBoolS rfl rfl | (apply vq_isOp .neq; first | exact vq_neBS rfl rfl (by first | assumption | (simp; done)) | exact vq_neTxS rfl rfl (by assumption)) | (apply vq_isOp .eql; first | exact vq_eqS rfl rfl | exact vq_eqBS rfl rfl (by first | assumption | (simp; done)) | exact vq_eqTxS rfl rfl (by assumption) | exact vq_eqHdS rfl rfl (by assumption) | exact vq_eqRecS rfl rfl (by assumption) | exact vq_eqTx rfl rfl (by assumption) (by assumption))) | (apply vq_isBin; first | exact vq_lt rfl rfl | exact vq_eq rfl rfl | exact vq_ne rfl rfl | (apply vq_isOp .add; exact vq_add rfl rfl (by first | exact wr_add (by omega) | exact wu_add (by omega) | exact wr_id (by omega) (by omega) | rfl)) | (apply vq_isOp .sub; exact vq_minus rfl rfl (by first | exact wr_sub (by omega) (by omega) | exact wu_sub (by omega) (by omega) | exact wr_id (by omega) (by omega) | rfl)) | exact vq_gt rfl rfl | exact vq_le rfl rfl | exact vq_ge rfl rfl | (apply vq_isOp .mul; exact vq_mul rfl rfl (by first | exact wr_mul (by omega) | exact wr_id (by omega) (by omega) | rfl)) | (apply vq_isOp .or; exact vq_or rfl rfl (by rfl)) | (apply vq_isOp .and; exact vq_and rfl rfl (by rfl)) | (apply vq_isOp .xor; exact vq_xor rfl rfl (by rfl)) | (apply vq_isOp .shl; exact vq_shl rfl rfl (by omega) (by rfl)) | (apply vq_isOp .shr; exact vq_shr rfl rfl (by omega) (by rfl)) | (apply vq_isOp .quo; exact vq_quo rfl rfl (by decide) (by first | exact q8_i64 (by omega) | exact q2_u8 (by omega) | exact q4_i64 (by omega) | assumption | rfl)) | (apply vq_isOp .rem; exact vq_rem rfl rfl (by decide) (by first | exact r8 | exact r2 | exact r4 | exact r64 | assumption | rfl)) | exact vq_eqNil rfl rfl | exact vq_eqBool rfl rfl | (apply vq_isOp .eql; exact vq_eqB rfl rfl (by first | assumption | (simp; done)) (by first | assumption | (simp; done))) | (apply vq_isOp .neq; first | exact vq_neBool rfl rfl | exact vq_neB rfl rfl (by first | assumption | (simp; done)) (by first | assumption | (simp; done)))))) ?_ | refine va_passGA 50 rfl rfl rfl rfl rfl rfl rfl rfl ?_)) <;> (refine va_takeA 51 rfl rfl rfl rfl ?_) <;> (refine va_takeA 52 rfl rfl rfl rfl ?_) <;> (first | refine va_takeGA 53 rfl rfl rfl rfl rfl rfl rfl rfl ?_ | refine va_passGA 53 rfl rfl rfl rfl rfl rfl rfl rfl ?_ | (refine va_caseG 53 rfl rfl rfl rfl rfl ?_ ?_ <;> (intro hb; (try simp only [decide_eq_true_eq, decide_eq_false_iff_not, Bool.not_eq_true', Bool.not_eq_false', ne_eq, Decidable.not_not, Option.isNone_iff_eq_none, not_true_eq_false, not_false_eq_true] at hb); try (exfalso; omega)) <;> first | refine va_takeGA 53 rfl rfl rfl rfl rfl rfl rfl rfl ?_ | refine va_passGA 53 rfl rfl rfl rfl rfl rfl rfl rfl ?_)) <;> (refine va_takeA 54 rfl rfl rfl rfl ?_) <;> (refine va_takeA 55 rfl rfl rfl rfl ?_) <;> (refine va_done (by kernel_rfl) ?_))
  repeat' (first | (refine goE ?_; intros) | (refine vl_caseG rfl rfl rfl rfl ?_ ?_ <;> (intro hb; (try simp only [decide_eq_true_eq, decide_eq_false_iff_not, Bool.not_eq_true', Bool.not_eq_false', ne_eq, Decidable.not_not, Option.isNone_iff_eq_none, not_true_eq_false, not_false_eq_true] at hb); try (exfalso; omega))) | (refine v_cond rfl ?_ ?_ <;> (intro hb; (try simp only [decide_eq_true_eq, decide_eq_false_iff_not, Bool.not_eq_true', Bool.not_eq_false', ne_eq, Decidable.not_not, Option.isNone_iff_eq_none, not_true_eq_false, not_false_eq_true] at hb); try (exfalso; omega))) | fail)
  exact rfl
end Go.Proofs.YtmfpiodcioakhaaDoor
