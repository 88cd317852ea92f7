/-
  The chapter's examples of proofs: the law.
-/
import Derived.Test.YtmfpiodcioakhaaDoorGV
import Derived.Test.YtmfpiodcioakhaaDoorVStates
set_option linter.unusedVariables false
set_option linter.unusedSimpArgs false
namespace Go.Proofs.YtmfpiodcioakhaaDoor
open Go Go.RowKit
set_option linter.unusedVariables false
set_option linter.unusedSimpArgs false
open Classical

/-- A proof of one side, its own end. -/
def prfV (K : List UInt8) (b s : Nat) (S : List UInt8) : Prf := ⟨K, 1, zero32, some ⟨b, 0, none⟩, 1, [97], some ⟨s, 0, none⟩, 1, [S]⟩
theorem prfV_ok {K : List UInt8} {b s : Nat} {S : List UInt8} (hK : K.length = 32) (hS : S.length = 32) : (prfV K b s S).ok := ⟨hK, (show (1 : Nat) < 256 by decide), by simp [prfV, zero32], fun x hx => by simp only [prfV, List.mem_singleton] at hx; rw [hx]; exact hS, by simp [prfV], by simp [prfV]⟩
theorem prfV_may (K : List UInt8) (b s : Nat) (S : List UInt8) : (prfV K b s S).may = true := by simp [Prf.may, Prf.may1, prfV, okVal]
theorem prfV_root (K : List UInt8) (b s : Nat) (S : List UInt8) : (prfV K b s S).root = sha (if bitAt K 0 = 0 then tagB 2 [sha (tagB 1 [K, [97]]), S] else tagB 2 [S, sha (tagB 1 [K, [97]])]) := by
  rw [Prf.root, if_pos (prfV_may K b s S)]
  rfl
def prfX : Prf := ⟨zero32, 3, zero32, none, 0, [], none, 0, []⟩
theorem prfX_ok : prfX.ok := ⟨by simp [prfX, zero32], by decide, by simp [prfX, zero32], fun x hx => by simp [prfX] at hx, by simp [prfX], by simp [prfX]⟩
theorem prfX_may : prfX.may = false := by simp [Prf.may, Prf.may1, prfX]
theorem bit_3 : bitAt (dig1 3) 0 = 0 := by decide
theorem bit_200 : ¬ bitAt (dig1 200) 0 = 0 := by decide
set_option maxRecDepth 100000 in
set_option maxHeartbeats 8000000 in
theorem verifyNames_vc (w0 : World) [hK : RdA w0 (some ⟨0, 0, none⟩) (wds K64)] :
    VC Tryd.prog w0 7 [] [] fun v L' => v = .bool true := by
  refine vc_in rfl rfl ?_
  repeat' (first | (refine goB ?_; intros) | (refine vl_caseG rfl rfl rfl rfl ?_ ?_ <;> (intro hb; (try simp only [decide_eq_true_eq, decide_eq_false_iff_not, Bool.not_eq_true', Bool.not_eq_false', ne_eq, Decidable.not_not, Option.isNone_iff_eq_none, not_true_eq_false, not_false_eq_true] at hb); try (exfalso; omega))) | (refine v_cond rfl ?_ ?_ <;> (intro hb; (try simp only [decide_eq_true_eq, decide_eq_false_iff_not, Bool.not_eq_true', Bool.not_eq_false', ne_eq, Decidable.not_not, Option.isNone_iff_eq_none, not_true_eq_false, not_false_eq_true] at hb); try (exfalso; omega))) | fail)
  refine vl_q rfl rfl rfl rfl (vq_dig1 (c := 3) rfl) ?_
  repeat' (first | (refine goB ?_; intros) | (refine vl_caseG rfl rfl rfl rfl ?_ ?_ <;> (intro hb; (try simp only [decide_eq_true_eq, decide_eq_false_iff_not, Bool.not_eq_true', Bool.not_eq_false', ne_eq, Decidable.not_not, Option.isNone_iff_eq_none, not_true_eq_false, not_false_eq_true] at hb); try (exfalso; omega))) | (refine v_cond rfl ?_ ?_ <;> (intro hb; (try simp only [decide_eq_true_eq, decide_eq_false_iff_not, Bool.not_eq_true', Bool.not_eq_false', ne_eq, Decidable.not_not, Option.isNone_iff_eq_none, not_true_eq_false, not_false_eq_true] at hb); try (exfalso; omega))) | fail)
  refine vl_q rfl rfl rfl rfl (vq_dig1 (c := 200) rfl) ?_
  have hk1 : (dig1 3).length = 32 := rfl
  have hk2 : (dig1 200).length = 32 := rfl
  obtain ⟨K1, hK1⟩ : ∃ K, K = dig1 3 := ⟨_, rfl⟩
  obtain ⟨K2, hK2⟩ : ∃ K, K = dig1 200 := ⟨_, rfl⟩
  rw [← hK1] at hk1 ⊢
  rw [← hK2] at hk2 ⊢
  repeat' (first | (refine go1 ?_; intros) | (refine vl_caseG rfl rfl rfl rfl ?_ ?_ <;> (intro hb; (try simp only [decide_eq_true_eq, decide_eq_false_iff_not, Bool.not_eq_true', Bool.not_eq_false', ne_eq, Decidable.not_not, Option.isNone_iff_eq_none, not_true_eq_false, not_false_eq_true] at hb); try (exfalso; omega))) | (refine v_cond rfl ?_ ?_ <;> (intro hb; (try simp only [decide_eq_true_eq, decide_eq_false_iff_not, Bool.not_eq_true', Bool.not_eq_false', ne_eq, Decidable.not_not, Option.isNone_iff_eq_none, not_true_eq_false, not_false_eq_true] at hb); try (exfalso; omega))) | fail)
  refine vl_o rfl (vo_call rfl rfl ?_)
  refine vc_mono (tof_vc (hr := rdC_nil _ _ _) (hp := ⟨fun p hp => by cases hp⟩) w0 _ 9 (by decide) none 0 [] rfl (by decide)) ?_
  rintro v L' ⟨rfl, rfl⟩
  rw [show ls [] = [] from rfl]
  obtain ⟨S, hSd⟩ : ∃ S, S = sha (tagB 9 []) := ⟨_, rfl⟩
  have hS : S.length = 32 := by rw [hSd]; exact sha_length _
  rw [← hSd]
  repeat' (first | (refine go1 ?_; intros) | (refine vl_caseG rfl rfl rfl rfl ?_ ?_ <;> (intro hb; (try simp only [decide_eq_true_eq, decide_eq_false_iff_not, Bool.not_eq_true', Bool.not_eq_false', ne_eq, Decidable.not_not, Option.isNone_iff_eq_none, not_true_eq_false, not_false_eq_true] at hb); try (exfalso; omega))) | (refine v_cond rfl ?_ ?_ <;> (intro hb; (try simp only [decide_eq_true_eq, decide_eq_false_iff_not, Bool.not_eq_true', Bool.not_eq_false', ne_eq, Decidable.not_not, Option.isNone_iff_eq_none, not_true_eq_false, not_false_eq_true] at hb); try (exfalso; omega))) | fail)
  rename_i g1 g2 g3
  obtain ⟨D1, hD1⟩ : ∃ D, D = sha (tagB 1 [K1, [97]]) := ⟨_, rfl⟩
  obtain ⟨D2, hD2⟩ : ∃ D, D = sha (tagB 1 [K2, [97]]) := ⟨_, rfl⟩
  have lD1 : D1.length = 32 := by rw [hD1]; exact sha_length _
  have lD2 : D2.length = 32 := by rw [hD2]; exact sha_length _
  have hB1 : (tagB 1 [K1, [97]]).length ≤ 1000000000 := by simp [tagB, hk1, digs_length]
  have hB2 : (tagB 1 [K2, [97]]).length ≤ 1000000000 := by simp [tagB, hk2, digs_length]
  refine v_cut (Nat × Nat) [1, 2, 3] rfl (fun x => [(4, .pointer (some ⟨x.1, 0, none⟩)), (5, .pointer (some ⟨x.2, 0, none⟩))]) (fun x => blk x.1 25 (bvs D1) :: blk x.2 25 (bvs D2) :: blk g3 25 (bvs S) :: blk g2 25 (bvs K2) :: blk g1 25 (bvs K1) :: []) ?_ ?_
  · refine v_id ?_
    refine v_draw0 [] (by kernel_rfl) ?_
    refine va_states (fun G hG => ?_)
    have s4411 : ∀ g4 g5 : Nat, G 2 [true, true, true, true, true, true, true, true, true, true, true, true, false, false] [(15, .slice (some ⟨g1, 0, none⟩) 32 32), (20, .slice (some ⟨g2, 0, none⟩) 32 32), (19, .agg (bvs D1).toArray), (24, .agg (bvs D2).toArray), (4, .pointer (some ⟨g4, 0, none⟩)), (5, .pointer (some ⟨g5, 0, none⟩)), (1, .pointer (some ⟨g1, 0, none⟩)), (2, .pointer (some ⟨g2, 0, none⟩)), (3, .pointer (some ⟨g3, 0, none⟩))] (blk g4 25 (bvs (List.replicate 32 0)) :: blk g5 25 (bvs (List.replicate 32 0)) :: blk g3 25 (bvs S) :: blk g2 25 (bvs K2) :: blk g1 25 (bvs K1) :: []) := fun g4 g5 => (hG _ _ _ _).2 (by
      refine va_one 12 (by kernel_rfl) rfl rfl ?_
      (first | (refine vo_box rfl rfl rfl ?_; intro _) | (refine vo_alloc rfl ?_; intro _) | (refine vo_isStore ?_; first | (refine vo_isPt0 rfl ?_; refine vo_stWA rfl rfl ?_) | (refine vo_isPt rfl ?_; refine vo_stBA rfl rfl ?_) | (refine vo_stO rfl rfl (by rfl) (by first | rfl | assumption) (by first | assumption | (simp; done) | (simp; omega) | omega) rfl ?_; skip)) | (refine vo_isCall ?_; first | (refine vo_isApp ?_; first | (refine vo_append0A rfl rfl rfl ?_; intro _ _ _ _) | (refine vo_appendA rfl rfl rfl ?_; intro _ _ _ _)) | (refine vo_isCopy ?_; refine vo_copyB rfl rfl rfl (by assumption) (by assumption) (by assumption) (by assumption) ?_) | refine vo_yield rfl rfl rfl rfl rfl ?_ | refine vo_callV rfl rfl rfl (vc_in rfl rfl ?_)) | refine vo_convRow rfl rfl ?_ | (refine vo_isBs ?_; refine vo_buildSlice rfl rfl rfl (by decide) (by repeat' (first | exact trivial | rfl | assumption | refine ⟨?_, ?_⟩ | (simp; done) | (simp; omega))) (by decide) rfl ?_; intro _) | (refine vo_buildSlice0 rfl ?_; intro _) | fail)
      refine ⟨.inr (sei _ _ _), ?_⟩
      refine va_one 13 (by kernel_rfl) rfl rfl ?_
      (first | (refine vo_box rfl rfl rfl ?_; intro _) | (refine vo_alloc rfl ?_; intro _) | (refine vo_isStore ?_; first | (refine vo_isPt0 rfl ?_; refine vo_stWA rfl rfl ?_) | (refine vo_isPt rfl ?_; refine vo_stBA rfl rfl ?_) | (refine vo_stO rfl rfl (by rfl) (by first | rfl | assumption) (by first | assumption | (simp; done) | (simp; omega) | omega) rfl ?_; skip)) | (refine vo_isCall ?_; first | (refine vo_isApp ?_; first | (refine vo_append0A rfl rfl rfl ?_; intro _ _ _ _) | (refine vo_appendA rfl rfl rfl ?_; intro _ _ _ _)) | (refine vo_isCopy ?_; refine vo_copyB rfl rfl rfl (by assumption) (by assumption) (by assumption) (by assumption) ?_) | refine vo_yield rfl rfl rfl rfl rfl ?_ | refine vo_callV rfl rfl rfl (vc_in rfl rfl ?_)) | refine vo_convRow rfl rfl ?_ | (refine vo_isBs ?_; refine vo_buildSlice rfl rfl rfl (by decide) (by repeat' (first | exact trivial | rfl | assumption | refine ⟨?_, ?_⟩ | (simp; done) | (simp; omega))) (by decide) rfl ?_; intro _) | (refine vo_buildSlice0 rfl ?_; intro _) | fail)
      refine ⟨.inr (sei _ _ _), ?_⟩
      refine va_done (by kernel_rfl) ?_
      exact ⟨rfl, (g4, g5), by (repeat' (first | exact Sub.nil _ | refine Sub.cons rfl rfl ?_ | refine Sub.cons rfl ?_ ?_)), sei _ _ _⟩)
    have s4311 : ∀ b2 s2 g4 g5 : Nat, G 3 [true, true, true, true, true, true, true, true, true, false, true, true, false, false] [(15, .slice (some ⟨g1, 0, none⟩) 32 32), (20, .slice (some ⟨g2, 0, none⟩) 32 32), (19, .agg (bvs D1).toArray), (23, .slice (some ⟨s2, 0, none⟩) 2 2), (4, .pointer (some ⟨g4, 0, none⟩)), (5, .pointer (some ⟨g5, 0, none⟩)), (1, .pointer (some ⟨g1, 0, none⟩)), (2, .pointer (some ⟨g2, 0, none⟩)), (3, .pointer (some ⟨g3, 0, none⟩))] (rd (some ⟨b2, 0, none⟩) [.int .u8 97] :: own 32 1 (some ⟨s2, 0, none⟩) 2 2 [.slice (some ⟨g2, 0, none⟩) 32 32, .slice (some ⟨b2, 0, none⟩) 1 1] :: blk g4 25 (bvs (List.replicate 32 0)) :: blk g5 25 (bvs (List.replicate 32 0)) :: blk g3 25 (bvs S) :: blk g2 25 (bvs K2) :: blk g1 25 (bvs K1) :: []) := fun b2 s2 g4 g5 => (hG _ _ _ _).2 (by
      refine va_one 9 (by kernel_rfl) rfl rfl ?_
      · refine vo_call rfl rfl ?_
        refine vc_mono (tof2_vc (h2 := (inferInstance : RdC w0 _ (some ⟨b2, 0, none⟩) [.int .u8 97])) w0 _ 1 (by decide) s2 (some ⟨g2, 0, none⟩) 32 K2 (some ⟨b2, 0, none⟩) 1 [97] hk2.symm rfl hB2) ?_
        rintro v L' ⟨rfl, rfl⟩
        rw [← hD2]
        refine ⟨.inr (sei _ _ _), ?_⟩
        exact va_ext ((hG _ _ _ _).1 (s4411 g4 g5)) rfl (by (repeat' (first | exact Sub.nil _ | refine Sub.cons rfl rfl ?_ | refine Sub.cons rfl ?_ ?_))) (sei _ _ _))
    have s4401 : ∀ g5 : Nat, G 3 [true, true, true, true, true, true, true, true, true, true, false, true, false, false] [(15, .slice (some ⟨g1, 0, none⟩) 32 32), (20, .slice (some ⟨g2, 0, none⟩) 32 32), (19, .agg (bvs D1).toArray), (24, .agg (bvs D2).toArray), (5, .pointer (some ⟨g5, 0, none⟩)), (1, .pointer (some ⟨g1, 0, none⟩)), (2, .pointer (some ⟨g2, 0, none⟩)), (3, .pointer (some ⟨g3, 0, none⟩))] (blk g5 25 (bvs (List.replicate 32 0)) :: blk g3 25 (bvs S) :: blk g2 25 (bvs K2) :: blk g1 25 (bvs K1) :: []) := fun g5 => (hG _ _ _ _).2 (by
      refine va_one 10 (by kernel_rfl) rfl rfl ?_
      · refine vo_alloc rfl ?_
        intro g4
        refine ⟨.inr (sei _ _ _), ?_⟩
        exact va_ext ((hG _ _ _ _).1 (s4411 g4 g5)) rfl (by (repeat' (first | exact Sub.nil _ | refine Sub.cons rfl rfl ?_ | refine Sub.cons rfl ?_ ?_))) (sei _ _ _))
    have s4410 : ∀ g4 : Nat, G 3 [true, true, true, true, true, true, true, true, true, true, true, false, false, false] [(15, .slice (some ⟨g1, 0, none⟩) 32 32), (20, .slice (some ⟨g2, 0, none⟩) 32 32), (19, .agg (bvs D1).toArray), (24, .agg (bvs D2).toArray), (4, .pointer (some ⟨g4, 0, none⟩)), (1, .pointer (some ⟨g1, 0, none⟩)), (2, .pointer (some ⟨g2, 0, none⟩)), (3, .pointer (some ⟨g3, 0, none⟩))] (blk g4 25 (bvs (List.replicate 32 0)) :: blk g3 25 (bvs S) :: blk g2 25 (bvs K2) :: blk g1 25 (bvs K1) :: []) := fun g4 => (hG _ _ _ _).2 (by
      refine va_one 11 (by kernel_rfl) rfl rfl ?_
      · refine vo_alloc rfl ?_
        intro g5
        refine ⟨.inr (sei _ _ _), ?_⟩
        exact va_ext ((hG _ _ _ _).1 (s4411 g4 g5)) rfl (by (repeat' (first | exact Sub.nil _ | refine Sub.cons rfl rfl ?_ | refine Sub.cons rfl ?_ ?_))) (sei _ _ _))
    have s3311 : ∀ b1 s1 b2 s2 g4 g5 : Nat, G 4 [true, true, true, true, false, true, true, true, true, false, true, true, false, false] [(15, .slice (some ⟨g1, 0, none⟩) 32 32), (20, .slice (some ⟨g2, 0, none⟩) 32 32), (18, .slice (some ⟨s1, 0, none⟩) 2 2), (23, .slice (some ⟨s2, 0, none⟩) 2 2), (4, .pointer (some ⟨g4, 0, none⟩)), (5, .pointer (some ⟨g5, 0, none⟩)), (1, .pointer (some ⟨g1, 0, none⟩)), (2, .pointer (some ⟨g2, 0, none⟩)), (3, .pointer (some ⟨g3, 0, none⟩))] (rd (some ⟨b1, 0, none⟩) [.int .u8 97] :: own 32 1 (some ⟨s1, 0, none⟩) 2 2 [.slice (some ⟨g1, 0, none⟩) 32 32, .slice (some ⟨b1, 0, none⟩) 1 1] :: rd (some ⟨b2, 0, none⟩) [.int .u8 97] :: own 32 1 (some ⟨s2, 0, none⟩) 2 2 [.slice (some ⟨g2, 0, none⟩) 32 32, .slice (some ⟨b2, 0, none⟩) 1 1] :: blk g4 25 (bvs (List.replicate 32 0)) :: blk g5 25 (bvs (List.replicate 32 0)) :: blk g3 25 (bvs S) :: blk g2 25 (bvs K2) :: blk g1 25 (bvs K1) :: []) := fun b1 s1 b2 s2 g4 g5 => (hG _ _ _ _).2 (by
      refine va_one 4 (by kernel_rfl) rfl rfl ?_
      · refine vo_call rfl rfl ?_
        refine vc_mono (tof2_vc (h2 := (inferInstance : RdC w0 _ (some ⟨b1, 0, none⟩) [.int .u8 97])) w0 _ 1 (by decide) s1 (some ⟨g1, 0, none⟩) 32 K1 (some ⟨b1, 0, none⟩) 1 [97] hk1.symm rfl hB1) ?_
        rintro v L' ⟨rfl, rfl⟩
        rw [← hD1]
        refine ⟨.inr (sei _ _ _), ?_⟩
        exact va_ext ((hG _ _ _ _).1 (s4311 b2 s2 g4 g5)) rfl (by (repeat' (first | exact Sub.nil _ | refine Sub.cons rfl rfl ?_ | refine Sub.cons rfl ?_ ?_))) (sei _ _ _))
    have s4211 : ∀ b2 g4 g5 : Nat, G 4 [true, true, true, true, true, true, true, true, false, false, true, true, false, false] [(15, .slice (some ⟨g1, 0, none⟩) 32 32), (20, .slice (some ⟨g2, 0, none⟩) 32 32), (19, .agg (bvs D1).toArray), (22, .slice (some ⟨b2, 0, none⟩) 1 1), (4, .pointer (some ⟨g4, 0, none⟩)), (5, .pointer (some ⟨g5, 0, none⟩)), (1, .pointer (some ⟨g1, 0, none⟩)), (2, .pointer (some ⟨g2, 0, none⟩)), (3, .pointer (some ⟨g3, 0, none⟩))] (rd (some ⟨b2, 0, none⟩) [.int .u8 97] :: blk g4 25 (bvs (List.replicate 32 0)) :: blk g5 25 (bvs (List.replicate 32 0)) :: blk g3 25 (bvs S) :: blk g2 25 (bvs K2) :: blk g1 25 (bvs K1) :: []) := fun b2 g4 g5 => (hG _ _ _ _).2 (by
      refine va_one 8 (by kernel_rfl) rfl rfl ?_
      · refine vo_buildSlice rfl rfl rfl (by decide) (by repeat' (first | exact trivial | rfl | refine ⟨?_, ?_⟩)) (by decide) rfl ?_
        intro s2
        refine ⟨.inr (sei _ _ _), ?_⟩
        exact va_ext ((hG _ _ _ _).1 (s4311 b2 s2 g4 g5)) rfl (by (repeat' (first | exact Sub.nil _ | refine Sub.cons rfl rfl ?_ | refine Sub.cons rfl ?_ ?_))) (sei _ _ _))
    have s4301 : ∀ b2 s2 g5 : Nat, G 4 [true, true, true, true, true, true, true, true, true, false, false, true, false, false] [(15, .slice (some ⟨g1, 0, none⟩) 32 32), (20, .slice (some ⟨g2, 0, none⟩) 32 32), (19, .agg (bvs D1).toArray), (23, .slice (some ⟨s2, 0, none⟩) 2 2), (5, .pointer (some ⟨g5, 0, none⟩)), (1, .pointer (some ⟨g1, 0, none⟩)), (2, .pointer (some ⟨g2, 0, none⟩)), (3, .pointer (some ⟨g3, 0, none⟩))] (rd (some ⟨b2, 0, none⟩) [.int .u8 97] :: own 32 1 (some ⟨s2, 0, none⟩) 2 2 [.slice (some ⟨g2, 0, none⟩) 32 32, .slice (some ⟨b2, 0, none⟩) 1 1] :: blk g5 25 (bvs (List.replicate 32 0)) :: blk g3 25 (bvs S) :: blk g2 25 (bvs K2) :: blk g1 25 (bvs K1) :: []) := fun b2 s2 g5 => (hG _ _ _ _).2 (by
      refine va_two 9 10 (by kernel_rfl) rfl rfl rfl rfl ?_ ?_
      · refine vo_call rfl rfl ?_
        refine vc_mono (tof2_vc (h2 := (inferInstance : RdC w0 _ (some ⟨b2, 0, none⟩) [.int .u8 97])) w0 _ 1 (by decide) s2 (some ⟨g2, 0, none⟩) 32 K2 (some ⟨b2, 0, none⟩) 1 [97] hk2.symm rfl hB2) ?_
        rintro v L' ⟨rfl, rfl⟩
        rw [← hD2]
        refine ⟨.inr (sei _ _ _), ?_⟩
        exact va_ext ((hG _ _ _ _).1 (s4401 g5)) rfl (by (repeat' (first | exact Sub.nil _ | refine Sub.cons rfl rfl ?_ | refine Sub.cons rfl ?_ ?_))) (sei _ _ _)
      · refine vo_alloc rfl ?_
        intro g4
        refine ⟨.inr (sei _ _ _), ?_⟩
        exact va_ext ((hG _ _ _ _).1 (s4311 b2 s2 g4 g5)) rfl (by (repeat' (first | exact Sub.nil _ | refine Sub.cons rfl rfl ?_ | refine Sub.cons rfl ?_ ?_))) (sei _ _ _))
    have s4310 : ∀ b2 s2 g4 : Nat, G 4 [true, true, true, true, true, true, true, true, true, false, true, false, false, false] [(15, .slice (some ⟨g1, 0, none⟩) 32 32), (20, .slice (some ⟨g2, 0, none⟩) 32 32), (19, .agg (bvs D1).toArray), (23, .slice (some ⟨s2, 0, none⟩) 2 2), (4, .pointer (some ⟨g4, 0, none⟩)), (1, .pointer (some ⟨g1, 0, none⟩)), (2, .pointer (some ⟨g2, 0, none⟩)), (3, .pointer (some ⟨g3, 0, none⟩))] (rd (some ⟨b2, 0, none⟩) [.int .u8 97] :: own 32 1 (some ⟨s2, 0, none⟩) 2 2 [.slice (some ⟨g2, 0, none⟩) 32 32, .slice (some ⟨b2, 0, none⟩) 1 1] :: blk g4 25 (bvs (List.replicate 32 0)) :: blk g3 25 (bvs S) :: blk g2 25 (bvs K2) :: blk g1 25 (bvs K1) :: []) := fun b2 s2 g4 => (hG _ _ _ _).2 (by
      refine va_two 9 11 (by kernel_rfl) rfl rfl rfl rfl ?_ ?_
      · refine vo_call rfl rfl ?_
        refine vc_mono (tof2_vc (h2 := (inferInstance : RdC w0 _ (some ⟨b2, 0, none⟩) [.int .u8 97])) w0 _ 1 (by decide) s2 (some ⟨g2, 0, none⟩) 32 K2 (some ⟨b2, 0, none⟩) 1 [97] hk2.symm rfl hB2) ?_
        rintro v L' ⟨rfl, rfl⟩
        rw [← hD2]
        refine ⟨.inr (sei _ _ _), ?_⟩
        exact va_ext ((hG _ _ _ _).1 (s4410 g4)) rfl (by (repeat' (first | exact Sub.nil _ | refine Sub.cons rfl rfl ?_ | refine Sub.cons rfl ?_ ?_))) (sei _ _ _)
      · refine vo_alloc rfl ?_
        intro g5
        refine ⟨.inr (sei _ _ _), ?_⟩
        exact va_ext ((hG _ _ _ _).1 (s4311 b2 s2 g4 g5)) rfl (by (repeat' (first | exact Sub.nil _ | refine Sub.cons rfl rfl ?_ | refine Sub.cons rfl ?_ ?_))) (sei _ _ _))
    have s4400 : G 4 [true, true, true, true, true, true, true, true, true, true, false, false, false, false] [(15, .slice (some ⟨g1, 0, none⟩) 32 32), (20, .slice (some ⟨g2, 0, none⟩) 32 32), (19, .agg (bvs D1).toArray), (24, .agg (bvs D2).toArray), (1, .pointer (some ⟨g1, 0, none⟩)), (2, .pointer (some ⟨g2, 0, none⟩)), (3, .pointer (some ⟨g3, 0, none⟩))] (blk g3 25 (bvs S) :: blk g2 25 (bvs K2) :: blk g1 25 (bvs K1) :: []) := (hG _ _ _ _).2 (by
      refine va_two 10 11 (by kernel_rfl) rfl rfl rfl rfl ?_ ?_
      · refine vo_alloc rfl ?_
        intro g4
        refine ⟨.inr (sei _ _ _), ?_⟩
        exact va_ext ((hG _ _ _ _).1 (s4410 g4)) rfl (by (repeat' (first | exact Sub.nil _ | refine Sub.cons rfl rfl ?_ | refine Sub.cons rfl ?_ ?_))) (sei _ _ _)
      · refine vo_alloc rfl ?_
        intro g5
        refine ⟨.inr (sei _ _ _), ?_⟩
        exact va_ext ((hG _ _ _ _).1 (s4401 g5)) rfl (by (repeat' (first | exact Sub.nil _ | refine Sub.cons rfl rfl ?_ | refine Sub.cons rfl ?_ ?_))) (sei _ _ _))
    have s2311 : ∀ b1 b2 s2 g4 g5 : Nat, G 5 [true, true, true, false, false, true, true, true, true, false, true, true, false, false] [(15, .slice (some ⟨g1, 0, none⟩) 32 32), (20, .slice (some ⟨g2, 0, none⟩) 32 32), (17, .slice (some ⟨b1, 0, none⟩) 1 1), (23, .slice (some ⟨s2, 0, none⟩) 2 2), (4, .pointer (some ⟨g4, 0, none⟩)), (5, .pointer (some ⟨g5, 0, none⟩)), (1, .pointer (some ⟨g1, 0, none⟩)), (2, .pointer (some ⟨g2, 0, none⟩)), (3, .pointer (some ⟨g3, 0, none⟩))] (rd (some ⟨b1, 0, none⟩) [.int .u8 97] :: rd (some ⟨b2, 0, none⟩) [.int .u8 97] :: own 32 1 (some ⟨s2, 0, none⟩) 2 2 [.slice (some ⟨g2, 0, none⟩) 32 32, .slice (some ⟨b2, 0, none⟩) 1 1] :: blk g4 25 (bvs (List.replicate 32 0)) :: blk g5 25 (bvs (List.replicate 32 0)) :: blk g3 25 (bvs S) :: blk g2 25 (bvs K2) :: blk g1 25 (bvs K1) :: []) := fun b1 b2 s2 g4 g5 => (hG _ _ _ _).2 (by
      refine va_one 3 (by kernel_rfl) rfl rfl ?_
      · refine vo_buildSlice rfl rfl rfl (by decide) (by repeat' (first | exact trivial | rfl | refine ⟨?_, ?_⟩)) (by decide) rfl ?_
        intro s1
        refine ⟨.inr (sei _ _ _), ?_⟩
        exact va_ext ((hG _ _ _ _).1 (s3311 b1 s1 b2 s2 g4 g5)) rfl (by (repeat' (first | exact Sub.nil _ | refine Sub.cons rfl rfl ?_ | refine Sub.cons rfl ?_ ?_))) (sei _ _ _))
    have s3211 : ∀ b1 s1 b2 g4 g5 : Nat, G 5 [true, true, true, true, false, true, true, true, false, false, true, true, false, false] [(15, .slice (some ⟨g1, 0, none⟩) 32 32), (20, .slice (some ⟨g2, 0, none⟩) 32 32), (18, .slice (some ⟨s1, 0, none⟩) 2 2), (22, .slice (some ⟨b2, 0, none⟩) 1 1), (4, .pointer (some ⟨g4, 0, none⟩)), (5, .pointer (some ⟨g5, 0, none⟩)), (1, .pointer (some ⟨g1, 0, none⟩)), (2, .pointer (some ⟨g2, 0, none⟩)), (3, .pointer (some ⟨g3, 0, none⟩))] (rd (some ⟨b1, 0, none⟩) [.int .u8 97] :: own 32 1 (some ⟨s1, 0, none⟩) 2 2 [.slice (some ⟨g1, 0, none⟩) 32 32, .slice (some ⟨b1, 0, none⟩) 1 1] :: rd (some ⟨b2, 0, none⟩) [.int .u8 97] :: blk g4 25 (bvs (List.replicate 32 0)) :: blk g5 25 (bvs (List.replicate 32 0)) :: blk g3 25 (bvs S) :: blk g2 25 (bvs K2) :: blk g1 25 (bvs K1) :: []) := fun b1 s1 b2 g4 g5 => (hG _ _ _ _).2 (by
      refine va_two 4 8 (by kernel_rfl) rfl rfl rfl rfl ?_ ?_
      · refine vo_call rfl rfl ?_
        refine vc_mono (tof2_vc (h2 := (inferInstance : RdC w0 _ (some ⟨b1, 0, none⟩) [.int .u8 97])) w0 _ 1 (by decide) s1 (some ⟨g1, 0, none⟩) 32 K1 (some ⟨b1, 0, none⟩) 1 [97] hk1.symm rfl hB1) ?_
        rintro v L' ⟨rfl, rfl⟩
        rw [← hD1]
        refine ⟨.inr (sei _ _ _), ?_⟩
        exact va_ext ((hG _ _ _ _).1 (s4211 b2 g4 g5)) rfl (by (repeat' (first | exact Sub.nil _ | refine Sub.cons rfl rfl ?_ | refine Sub.cons rfl ?_ ?_))) (sei _ _ _)
      · refine vo_buildSlice rfl rfl rfl (by decide) (by repeat' (first | exact trivial | rfl | refine ⟨?_, ?_⟩)) (by decide) rfl ?_
        intro s2
        refine ⟨.inr (sei _ _ _), ?_⟩
        exact va_ext ((hG _ _ _ _).1 (s3311 b1 s1 b2 s2 g4 g5)) rfl (by (repeat' (first | exact Sub.nil _ | refine Sub.cons rfl rfl ?_ | refine Sub.cons rfl ?_ ?_))) (sei _ _ _))
    have s3301 : ∀ b1 s1 b2 s2 g5 : Nat, G 5 [true, true, true, true, false, true, true, true, true, false, false, true, false, false] [(15, .slice (some ⟨g1, 0, none⟩) 32 32), (20, .slice (some ⟨g2, 0, none⟩) 32 32), (18, .slice (some ⟨s1, 0, none⟩) 2 2), (23, .slice (some ⟨s2, 0, none⟩) 2 2), (5, .pointer (some ⟨g5, 0, none⟩)), (1, .pointer (some ⟨g1, 0, none⟩)), (2, .pointer (some ⟨g2, 0, none⟩)), (3, .pointer (some ⟨g3, 0, none⟩))] (rd (some ⟨b1, 0, none⟩) [.int .u8 97] :: own 32 1 (some ⟨s1, 0, none⟩) 2 2 [.slice (some ⟨g1, 0, none⟩) 32 32, .slice (some ⟨b1, 0, none⟩) 1 1] :: rd (some ⟨b2, 0, none⟩) [.int .u8 97] :: own 32 1 (some ⟨s2, 0, none⟩) 2 2 [.slice (some ⟨g2, 0, none⟩) 32 32, .slice (some ⟨b2, 0, none⟩) 1 1] :: blk g5 25 (bvs (List.replicate 32 0)) :: blk g3 25 (bvs S) :: blk g2 25 (bvs K2) :: blk g1 25 (bvs K1) :: []) := fun b1 s1 b2 s2 g5 => (hG _ _ _ _).2 (by
      refine va_two 4 10 (by kernel_rfl) rfl rfl rfl rfl ?_ ?_
      · refine vo_call rfl rfl ?_
        refine vc_mono (tof2_vc (h2 := (inferInstance : RdC w0 _ (some ⟨b1, 0, none⟩) [.int .u8 97])) w0 _ 1 (by decide) s1 (some ⟨g1, 0, none⟩) 32 K1 (some ⟨b1, 0, none⟩) 1 [97] hk1.symm rfl hB1) ?_
        rintro v L' ⟨rfl, rfl⟩
        rw [← hD1]
        refine ⟨.inr (sei _ _ _), ?_⟩
        exact va_ext ((hG _ _ _ _).1 (s4301 b2 s2 g5)) rfl (by (repeat' (first | exact Sub.nil _ | refine Sub.cons rfl rfl ?_ | refine Sub.cons rfl ?_ ?_))) (sei _ _ _)
      · refine vo_alloc rfl ?_
        intro g4
        refine ⟨.inr (sei _ _ _), ?_⟩
        exact va_ext ((hG _ _ _ _).1 (s3311 b1 s1 b2 s2 g4 g5)) rfl (by (repeat' (first | exact Sub.nil _ | refine Sub.cons rfl rfl ?_ | refine Sub.cons rfl ?_ ?_))) (sei _ _ _))
    have s3310 : ∀ b1 s1 b2 s2 g4 : Nat, G 5 [true, true, true, true, false, true, true, true, true, false, true, false, false, false] [(15, .slice (some ⟨g1, 0, none⟩) 32 32), (20, .slice (some ⟨g2, 0, none⟩) 32 32), (18, .slice (some ⟨s1, 0, none⟩) 2 2), (23, .slice (some ⟨s2, 0, none⟩) 2 2), (4, .pointer (some ⟨g4, 0, none⟩)), (1, .pointer (some ⟨g1, 0, none⟩)), (2, .pointer (some ⟨g2, 0, none⟩)), (3, .pointer (some ⟨g3, 0, none⟩))] (rd (some ⟨b1, 0, none⟩) [.int .u8 97] :: own 32 1 (some ⟨s1, 0, none⟩) 2 2 [.slice (some ⟨g1, 0, none⟩) 32 32, .slice (some ⟨b1, 0, none⟩) 1 1] :: rd (some ⟨b2, 0, none⟩) [.int .u8 97] :: own 32 1 (some ⟨s2, 0, none⟩) 2 2 [.slice (some ⟨g2, 0, none⟩) 32 32, .slice (some ⟨b2, 0, none⟩) 1 1] :: blk g4 25 (bvs (List.replicate 32 0)) :: blk g3 25 (bvs S) :: blk g2 25 (bvs K2) :: blk g1 25 (bvs K1) :: []) := fun b1 s1 b2 s2 g4 => (hG _ _ _ _).2 (by
      refine va_two 4 11 (by kernel_rfl) rfl rfl rfl rfl ?_ ?_
      · refine vo_call rfl rfl ?_
        refine vc_mono (tof2_vc (h2 := (inferInstance : RdC w0 _ (some ⟨b1, 0, none⟩) [.int .u8 97])) w0 _ 1 (by decide) s1 (some ⟨g1, 0, none⟩) 32 K1 (some ⟨b1, 0, none⟩) 1 [97] hk1.symm rfl hB1) ?_
        rintro v L' ⟨rfl, rfl⟩
        rw [← hD1]
        refine ⟨.inr (sei _ _ _), ?_⟩
        exact va_ext ((hG _ _ _ _).1 (s4310 b2 s2 g4)) rfl (by (repeat' (first | exact Sub.nil _ | refine Sub.cons rfl rfl ?_ | refine Sub.cons rfl ?_ ?_))) (sei _ _ _)
      · refine vo_alloc rfl ?_
        intro g5
        refine ⟨.inr (sei _ _ _), ?_⟩
        exact va_ext ((hG _ _ _ _).1 (s3311 b1 s1 b2 s2 g4 g5)) rfl (by (repeat' (first | exact Sub.nil _ | refine Sub.cons rfl rfl ?_ | refine Sub.cons rfl ?_ ?_))) (sei _ _ _))
    have s4111 : ∀ b2 g4 g5 : Nat, G 5 [true, true, true, true, true, true, true, false, false, false, true, true, false, false] [(15, .slice (some ⟨g1, 0, none⟩) 32 32), (20, .slice (some ⟨g2, 0, none⟩) 32 32), (19, .agg (bvs D1).toArray), (21, .slice (some ⟨b2, 0, none⟩) 1 1), (4, .pointer (some ⟨g4, 0, none⟩)), (5, .pointer (some ⟨g5, 0, none⟩)), (1, .pointer (some ⟨g1, 0, none⟩)), (2, .pointer (some ⟨g2, 0, none⟩)), (3, .pointer (some ⟨g3, 0, none⟩))] (own 5 1 (some ⟨b2, 0, none⟩) 1 1 [.int .u8 97] :: blk g4 25 (bvs (List.replicate 32 0)) :: blk g5 25 (bvs (List.replicate 32 0)) :: blk g3 25 (bvs S) :: blk g2 25 (bvs K2) :: blk g1 25 (bvs K1) :: []) := fun b2 g4 g5 => (hG _ _ _ _).2 (by
      refine va_one 7 (by kernel_rfl) rfl rfl ?_
      · refine vo_convRow rfl rfl ?_
        refine ⟨.inr (sei _ _ _), ?_⟩
        exact va_ext ((hG _ _ _ _).1 (s4211 b2 g4 g5)) rfl (by (repeat' (first | exact Sub.nil _ | refine Sub.cons rfl rfl ?_ | refine Sub.cons rfl ?_ ?_))) (sei _ _ _))
    have s4201 : ∀ b2 g5 : Nat, G 5 [true, true, true, true, true, true, true, true, false, false, false, true, false, false] [(15, .slice (some ⟨g1, 0, none⟩) 32 32), (20, .slice (some ⟨g2, 0, none⟩) 32 32), (19, .agg (bvs D1).toArray), (22, .slice (some ⟨b2, 0, none⟩) 1 1), (5, .pointer (some ⟨g5, 0, none⟩)), (1, .pointer (some ⟨g1, 0, none⟩)), (2, .pointer (some ⟨g2, 0, none⟩)), (3, .pointer (some ⟨g3, 0, none⟩))] (rd (some ⟨b2, 0, none⟩) [.int .u8 97] :: blk g5 25 (bvs (List.replicate 32 0)) :: blk g3 25 (bvs S) :: blk g2 25 (bvs K2) :: blk g1 25 (bvs K1) :: []) := fun b2 g5 => (hG _ _ _ _).2 (by
      refine va_two 8 10 (by kernel_rfl) rfl rfl rfl rfl ?_ ?_
      · refine vo_buildSlice rfl rfl rfl (by decide) (by repeat' (first | exact trivial | rfl | refine ⟨?_, ?_⟩)) (by decide) rfl ?_
        intro s2
        refine ⟨.inr (sei _ _ _), ?_⟩
        exact va_ext ((hG _ _ _ _).1 (s4301 b2 s2 g5)) rfl (by (repeat' (first | exact Sub.nil _ | refine Sub.cons rfl rfl ?_ | refine Sub.cons rfl ?_ ?_))) (sei _ _ _)
      · refine vo_alloc rfl ?_
        intro g4
        refine ⟨.inr (sei _ _ _), ?_⟩
        exact va_ext ((hG _ _ _ _).1 (s4211 b2 g4 g5)) rfl (by (repeat' (first | exact Sub.nil _ | refine Sub.cons rfl rfl ?_ | refine Sub.cons rfl ?_ ?_))) (sei _ _ _))
    have s4210 : ∀ b2 g4 : Nat, G 5 [true, true, true, true, true, true, true, true, false, false, true, false, false, false] [(15, .slice (some ⟨g1, 0, none⟩) 32 32), (20, .slice (some ⟨g2, 0, none⟩) 32 32), (19, .agg (bvs D1).toArray), (22, .slice (some ⟨b2, 0, none⟩) 1 1), (4, .pointer (some ⟨g4, 0, none⟩)), (1, .pointer (some ⟨g1, 0, none⟩)), (2, .pointer (some ⟨g2, 0, none⟩)), (3, .pointer (some ⟨g3, 0, none⟩))] (rd (some ⟨b2, 0, none⟩) [.int .u8 97] :: blk g4 25 (bvs (List.replicate 32 0)) :: blk g3 25 (bvs S) :: blk g2 25 (bvs K2) :: blk g1 25 (bvs K1) :: []) := fun b2 g4 => (hG _ _ _ _).2 (by
      refine va_two 8 11 (by kernel_rfl) rfl rfl rfl rfl ?_ ?_
      · refine vo_buildSlice rfl rfl rfl (by decide) (by repeat' (first | exact trivial | rfl | refine ⟨?_, ?_⟩)) (by decide) rfl ?_
        intro s2
        refine ⟨.inr (sei _ _ _), ?_⟩
        exact va_ext ((hG _ _ _ _).1 (s4310 b2 s2 g4)) rfl (by (repeat' (first | exact Sub.nil _ | refine Sub.cons rfl rfl ?_ | refine Sub.cons rfl ?_ ?_))) (sei _ _ _)
      · refine vo_alloc rfl ?_
        intro g5
        refine ⟨.inr (sei _ _ _), ?_⟩
        exact va_ext ((hG _ _ _ _).1 (s4211 b2 g4 g5)) rfl (by (repeat' (first | exact Sub.nil _ | refine Sub.cons rfl rfl ?_ | refine Sub.cons rfl ?_ ?_))) (sei _ _ _))
    have s4300 : ∀ b2 s2 : Nat, G 5 [true, true, true, true, true, true, true, true, true, false, false, false, false, false] [(15, .slice (some ⟨g1, 0, none⟩) 32 32), (20, .slice (some ⟨g2, 0, none⟩) 32 32), (19, .agg (bvs D1).toArray), (23, .slice (some ⟨s2, 0, none⟩) 2 2), (1, .pointer (some ⟨g1, 0, none⟩)), (2, .pointer (some ⟨g2, 0, none⟩)), (3, .pointer (some ⟨g3, 0, none⟩))] (rd (some ⟨b2, 0, none⟩) [.int .u8 97] :: own 32 1 (some ⟨s2, 0, none⟩) 2 2 [.slice (some ⟨g2, 0, none⟩) 32 32, .slice (some ⟨b2, 0, none⟩) 1 1] :: blk g3 25 (bvs S) :: blk g2 25 (bvs K2) :: blk g1 25 (bvs K1) :: []) := fun b2 s2 => (hG _ _ _ _).2 (by
      refine va_three 9 10 11 (by kernel_rfl) rfl rfl rfl rfl rfl rfl ?_ ?_ ?_
      · refine vo_call rfl rfl ?_
        refine vc_mono (tof2_vc (h2 := (inferInstance : RdC w0 _ (some ⟨b2, 0, none⟩) [.int .u8 97])) w0 _ 1 (by decide) s2 (some ⟨g2, 0, none⟩) 32 K2 (some ⟨b2, 0, none⟩) 1 [97] hk2.symm rfl hB2) ?_
        rintro v L' ⟨rfl, rfl⟩
        rw [← hD2]
        refine ⟨.inr (sei _ _ _), ?_⟩
        exact va_ext ((hG _ _ _ _).1 s4400) rfl (by (repeat' (first | exact Sub.nil _ | refine Sub.cons rfl rfl ?_ | refine Sub.cons rfl ?_ ?_))) (sei _ _ _)
      · refine vo_alloc rfl ?_
        intro g4
        refine ⟨.inr (sei _ _ _), ?_⟩
        exact va_ext ((hG _ _ _ _).1 (s4310 b2 s2 g4)) rfl (by (repeat' (first | exact Sub.nil _ | refine Sub.cons rfl rfl ?_ | refine Sub.cons rfl ?_ ?_))) (sei _ _ _)
      · refine vo_alloc rfl ?_
        intro g5
        refine ⟨.inr (sei _ _ _), ?_⟩
        exact va_ext ((hG _ _ _ _).1 (s4301 b2 s2 g5)) rfl (by (repeat' (first | exact Sub.nil _ | refine Sub.cons rfl rfl ?_ | refine Sub.cons rfl ?_ ?_))) (sei _ _ _))
    have s1311 : ∀ b1 b2 s2 g4 g5 : Nat, G 6 [true, true, false, false, false, true, true, true, true, false, true, true, false, false] [(15, .slice (some ⟨g1, 0, none⟩) 32 32), (20, .slice (some ⟨g2, 0, none⟩) 32 32), (16, .slice (some ⟨b1, 0, none⟩) 1 1), (23, .slice (some ⟨s2, 0, none⟩) 2 2), (4, .pointer (some ⟨g4, 0, none⟩)), (5, .pointer (some ⟨g5, 0, none⟩)), (1, .pointer (some ⟨g1, 0, none⟩)), (2, .pointer (some ⟨g2, 0, none⟩)), (3, .pointer (some ⟨g3, 0, none⟩))] (own 5 1 (some ⟨b1, 0, none⟩) 1 1 [.int .u8 97] :: rd (some ⟨b2, 0, none⟩) [.int .u8 97] :: own 32 1 (some ⟨s2, 0, none⟩) 2 2 [.slice (some ⟨g2, 0, none⟩) 32 32, .slice (some ⟨b2, 0, none⟩) 1 1] :: blk g4 25 (bvs (List.replicate 32 0)) :: blk g5 25 (bvs (List.replicate 32 0)) :: blk g3 25 (bvs S) :: blk g2 25 (bvs K2) :: blk g1 25 (bvs K1) :: []) := fun b1 b2 s2 g4 g5 => (hG _ _ _ _).2 (by
      refine va_one 2 (by kernel_rfl) rfl rfl ?_
      · refine vo_convRow rfl rfl ?_
        refine ⟨.inr (sei _ _ _), ?_⟩
        exact va_ext ((hG _ _ _ _).1 (s2311 b1 b2 s2 g4 g5)) rfl (by (repeat' (first | exact Sub.nil _ | refine Sub.cons rfl rfl ?_ | refine Sub.cons rfl ?_ ?_))) (sei _ _ _))
    have s2211 : ∀ b1 b2 g4 g5 : Nat, G 6 [true, true, true, false, false, true, true, true, false, false, true, true, false, false] [(15, .slice (some ⟨g1, 0, none⟩) 32 32), (20, .slice (some ⟨g2, 0, none⟩) 32 32), (17, .slice (some ⟨b1, 0, none⟩) 1 1), (22, .slice (some ⟨b2, 0, none⟩) 1 1), (4, .pointer (some ⟨g4, 0, none⟩)), (5, .pointer (some ⟨g5, 0, none⟩)), (1, .pointer (some ⟨g1, 0, none⟩)), (2, .pointer (some ⟨g2, 0, none⟩)), (3, .pointer (some ⟨g3, 0, none⟩))] (rd (some ⟨b1, 0, none⟩) [.int .u8 97] :: rd (some ⟨b2, 0, none⟩) [.int .u8 97] :: blk g4 25 (bvs (List.replicate 32 0)) :: blk g5 25 (bvs (List.replicate 32 0)) :: blk g3 25 (bvs S) :: blk g2 25 (bvs K2) :: blk g1 25 (bvs K1) :: []) := fun b1 b2 g4 g5 => (hG _ _ _ _).2 (by
      refine va_two 3 8 (by kernel_rfl) rfl rfl rfl rfl ?_ ?_
      · refine vo_buildSlice rfl rfl rfl (by decide) (by repeat' (first | exact trivial | rfl | refine ⟨?_, ?_⟩)) (by decide) rfl ?_
        intro s1
        refine ⟨.inr (sei _ _ _), ?_⟩
        exact va_ext ((hG _ _ _ _).1 (s3211 b1 s1 b2 g4 g5)) rfl (by (repeat' (first | exact Sub.nil _ | refine Sub.cons rfl rfl ?_ | refine Sub.cons rfl ?_ ?_))) (sei _ _ _)
      · refine vo_buildSlice rfl rfl rfl (by decide) (by repeat' (first | exact trivial | rfl | refine ⟨?_, ?_⟩)) (by decide) rfl ?_
        intro s2
        refine ⟨.inr (sei _ _ _), ?_⟩
        exact va_ext ((hG _ _ _ _).1 (s2311 b1 b2 s2 g4 g5)) rfl (by (repeat' (first | exact Sub.nil _ | refine Sub.cons rfl rfl ?_ | refine Sub.cons rfl ?_ ?_))) (sei _ _ _))
    have s2301 : ∀ b1 b2 s2 g5 : Nat, G 6 [true, true, true, false, false, true, true, true, true, false, false, true, false, false] [(15, .slice (some ⟨g1, 0, none⟩) 32 32), (20, .slice (some ⟨g2, 0, none⟩) 32 32), (17, .slice (some ⟨b1, 0, none⟩) 1 1), (23, .slice (some ⟨s2, 0, none⟩) 2 2), (5, .pointer (some ⟨g5, 0, none⟩)), (1, .pointer (some ⟨g1, 0, none⟩)), (2, .pointer (some ⟨g2, 0, none⟩)), (3, .pointer (some ⟨g3, 0, none⟩))] (rd (some ⟨b1, 0, none⟩) [.int .u8 97] :: rd (some ⟨b2, 0, none⟩) [.int .u8 97] :: own 32 1 (some ⟨s2, 0, none⟩) 2 2 [.slice (some ⟨g2, 0, none⟩) 32 32, .slice (some ⟨b2, 0, none⟩) 1 1] :: blk g5 25 (bvs (List.replicate 32 0)) :: blk g3 25 (bvs S) :: blk g2 25 (bvs K2) :: blk g1 25 (bvs K1) :: []) := fun b1 b2 s2 g5 => (hG _ _ _ _).2 (by
      refine va_two 3 10 (by kernel_rfl) rfl rfl rfl rfl ?_ ?_
      · refine vo_buildSlice rfl rfl rfl (by decide) (by repeat' (first | exact trivial | rfl | refine ⟨?_, ?_⟩)) (by decide) rfl ?_
        intro s1
        refine ⟨.inr (sei _ _ _), ?_⟩
        exact va_ext ((hG _ _ _ _).1 (s3301 b1 s1 b2 s2 g5)) rfl (by (repeat' (first | exact Sub.nil _ | refine Sub.cons rfl rfl ?_ | refine Sub.cons rfl ?_ ?_))) (sei _ _ _)
      · refine vo_alloc rfl ?_
        intro g4
        refine ⟨.inr (sei _ _ _), ?_⟩
        exact va_ext ((hG _ _ _ _).1 (s2311 b1 b2 s2 g4 g5)) rfl (by (repeat' (first | exact Sub.nil _ | refine Sub.cons rfl rfl ?_ | refine Sub.cons rfl ?_ ?_))) (sei _ _ _))
    have s2310 : ∀ b1 b2 s2 g4 : Nat, G 6 [true, true, true, false, false, true, true, true, true, false, true, false, false, false] [(15, .slice (some ⟨g1, 0, none⟩) 32 32), (20, .slice (some ⟨g2, 0, none⟩) 32 32), (17, .slice (some ⟨b1, 0, none⟩) 1 1), (23, .slice (some ⟨s2, 0, none⟩) 2 2), (4, .pointer (some ⟨g4, 0, none⟩)), (1, .pointer (some ⟨g1, 0, none⟩)), (2, .pointer (some ⟨g2, 0, none⟩)), (3, .pointer (some ⟨g3, 0, none⟩))] (rd (some ⟨b1, 0, none⟩) [.int .u8 97] :: rd (some ⟨b2, 0, none⟩) [.int .u8 97] :: own 32 1 (some ⟨s2, 0, none⟩) 2 2 [.slice (some ⟨g2, 0, none⟩) 32 32, .slice (some ⟨b2, 0, none⟩) 1 1] :: blk g4 25 (bvs (List.replicate 32 0)) :: blk g3 25 (bvs S) :: blk g2 25 (bvs K2) :: blk g1 25 (bvs K1) :: []) := fun b1 b2 s2 g4 => (hG _ _ _ _).2 (by
      refine va_two 3 11 (by kernel_rfl) rfl rfl rfl rfl ?_ ?_
      · refine vo_buildSlice rfl rfl rfl (by decide) (by repeat' (first | exact trivial | rfl | refine ⟨?_, ?_⟩)) (by decide) rfl ?_
        intro s1
        refine ⟨.inr (sei _ _ _), ?_⟩
        exact va_ext ((hG _ _ _ _).1 (s3310 b1 s1 b2 s2 g4)) rfl (by (repeat' (first | exact Sub.nil _ | refine Sub.cons rfl rfl ?_ | refine Sub.cons rfl ?_ ?_))) (sei _ _ _)
      · refine vo_alloc rfl ?_
        intro g5
        refine ⟨.inr (sei _ _ _), ?_⟩
        exact va_ext ((hG _ _ _ _).1 (s2311 b1 b2 s2 g4 g5)) rfl (by (repeat' (first | exact Sub.nil _ | refine Sub.cons rfl rfl ?_ | refine Sub.cons rfl ?_ ?_))) (sei _ _ _))
    have s3111 : ∀ b1 s1 b2 g4 g5 : Nat, G 6 [true, true, true, true, false, true, true, false, false, false, true, true, false, false] [(15, .slice (some ⟨g1, 0, none⟩) 32 32), (20, .slice (some ⟨g2, 0, none⟩) 32 32), (18, .slice (some ⟨s1, 0, none⟩) 2 2), (21, .slice (some ⟨b2, 0, none⟩) 1 1), (4, .pointer (some ⟨g4, 0, none⟩)), (5, .pointer (some ⟨g5, 0, none⟩)), (1, .pointer (some ⟨g1, 0, none⟩)), (2, .pointer (some ⟨g2, 0, none⟩)), (3, .pointer (some ⟨g3, 0, none⟩))] (rd (some ⟨b1, 0, none⟩) [.int .u8 97] :: own 32 1 (some ⟨s1, 0, none⟩) 2 2 [.slice (some ⟨g1, 0, none⟩) 32 32, .slice (some ⟨b1, 0, none⟩) 1 1] :: own 5 1 (some ⟨b2, 0, none⟩) 1 1 [.int .u8 97] :: blk g4 25 (bvs (List.replicate 32 0)) :: blk g5 25 (bvs (List.replicate 32 0)) :: blk g3 25 (bvs S) :: blk g2 25 (bvs K2) :: blk g1 25 (bvs K1) :: []) := fun b1 s1 b2 g4 g5 => (hG _ _ _ _).2 (by
      refine va_two 4 7 (by kernel_rfl) rfl rfl rfl rfl ?_ ?_
      · refine vo_call rfl rfl ?_
        refine vc_mono (tof2_vc (h2 := (inferInstance : RdC w0 _ (some ⟨b1, 0, none⟩) [.int .u8 97])) w0 _ 1 (by decide) s1 (some ⟨g1, 0, none⟩) 32 K1 (some ⟨b1, 0, none⟩) 1 [97] hk1.symm rfl hB1) ?_
        rintro v L' ⟨rfl, rfl⟩
        rw [← hD1]
        refine ⟨.inr (sei _ _ _), ?_⟩
        exact va_ext ((hG _ _ _ _).1 (s4111 b2 g4 g5)) rfl (by (repeat' (first | exact Sub.nil _ | refine Sub.cons rfl rfl ?_ | refine Sub.cons rfl ?_ ?_))) (sei _ _ _)
      · refine vo_convRow rfl rfl ?_
        refine ⟨.inr (sei _ _ _), ?_⟩
        exact va_ext ((hG _ _ _ _).1 (s3211 b1 s1 b2 g4 g5)) rfl (by (repeat' (first | exact Sub.nil _ | refine Sub.cons rfl rfl ?_ | refine Sub.cons rfl ?_ ?_))) (sei _ _ _))
    have s3201 : ∀ b1 s1 b2 g5 : Nat, G 6 [true, true, true, true, false, true, true, true, false, false, false, true, false, false] [(15, .slice (some ⟨g1, 0, none⟩) 32 32), (20, .slice (some ⟨g2, 0, none⟩) 32 32), (18, .slice (some ⟨s1, 0, none⟩) 2 2), (22, .slice (some ⟨b2, 0, none⟩) 1 1), (5, .pointer (some ⟨g5, 0, none⟩)), (1, .pointer (some ⟨g1, 0, none⟩)), (2, .pointer (some ⟨g2, 0, none⟩)), (3, .pointer (some ⟨g3, 0, none⟩))] (rd (some ⟨b1, 0, none⟩) [.int .u8 97] :: own 32 1 (some ⟨s1, 0, none⟩) 2 2 [.slice (some ⟨g1, 0, none⟩) 32 32, .slice (some ⟨b1, 0, none⟩) 1 1] :: rd (some ⟨b2, 0, none⟩) [.int .u8 97] :: blk g5 25 (bvs (List.replicate 32 0)) :: blk g3 25 (bvs S) :: blk g2 25 (bvs K2) :: blk g1 25 (bvs K1) :: []) := fun b1 s1 b2 g5 => (hG _ _ _ _).2 (by
      refine va_three 4 8 10 (by kernel_rfl) rfl rfl rfl rfl rfl rfl ?_ ?_ ?_
      · refine vo_call rfl rfl ?_
        refine vc_mono (tof2_vc (h2 := (inferInstance : RdC w0 _ (some ⟨b1, 0, none⟩) [.int .u8 97])) w0 _ 1 (by decide) s1 (some ⟨g1, 0, none⟩) 32 K1 (some ⟨b1, 0, none⟩) 1 [97] hk1.symm rfl hB1) ?_
        rintro v L' ⟨rfl, rfl⟩
        rw [← hD1]
        refine ⟨.inr (sei _ _ _), ?_⟩
        exact va_ext ((hG _ _ _ _).1 (s4201 b2 g5)) rfl (by (repeat' (first | exact Sub.nil _ | refine Sub.cons rfl rfl ?_ | refine Sub.cons rfl ?_ ?_))) (sei _ _ _)
      · refine vo_buildSlice rfl rfl rfl (by decide) (by repeat' (first | exact trivial | rfl | refine ⟨?_, ?_⟩)) (by decide) rfl ?_
        intro s2
        refine ⟨.inr (sei _ _ _), ?_⟩
        exact va_ext ((hG _ _ _ _).1 (s3301 b1 s1 b2 s2 g5)) rfl (by (repeat' (first | exact Sub.nil _ | refine Sub.cons rfl rfl ?_ | refine Sub.cons rfl ?_ ?_))) (sei _ _ _)
      · refine vo_alloc rfl ?_
        intro g4
        refine ⟨.inr (sei _ _ _), ?_⟩
        exact va_ext ((hG _ _ _ _).1 (s3211 b1 s1 b2 g4 g5)) rfl (by (repeat' (first | exact Sub.nil _ | refine Sub.cons rfl rfl ?_ | refine Sub.cons rfl ?_ ?_))) (sei _ _ _))
    have s3210 : ∀ b1 s1 b2 g4 : Nat, G 6 [true, true, true, true, false, true, true, true, false, false, true, false, false, false] [(15, .slice (some ⟨g1, 0, none⟩) 32 32), (20, .slice (some ⟨g2, 0, none⟩) 32 32), (18, .slice (some ⟨s1, 0, none⟩) 2 2), (22, .slice (some ⟨b2, 0, none⟩) 1 1), (4, .pointer (some ⟨g4, 0, none⟩)), (1, .pointer (some ⟨g1, 0, none⟩)), (2, .pointer (some ⟨g2, 0, none⟩)), (3, .pointer (some ⟨g3, 0, none⟩))] (rd (some ⟨b1, 0, none⟩) [.int .u8 97] :: own 32 1 (some ⟨s1, 0, none⟩) 2 2 [.slice (some ⟨g1, 0, none⟩) 32 32, .slice (some ⟨b1, 0, none⟩) 1 1] :: rd (some ⟨b2, 0, none⟩) [.int .u8 97] :: blk g4 25 (bvs (List.replicate 32 0)) :: blk g3 25 (bvs S) :: blk g2 25 (bvs K2) :: blk g1 25 (bvs K1) :: []) := fun b1 s1 b2 g4 => (hG _ _ _ _).2 (by
      refine va_three 4 8 11 (by kernel_rfl) rfl rfl rfl rfl rfl rfl ?_ ?_ ?_
      · refine vo_call rfl rfl ?_
        refine vc_mono (tof2_vc (h2 := (inferInstance : RdC w0 _ (some ⟨b1, 0, none⟩) [.int .u8 97])) w0 _ 1 (by decide) s1 (some ⟨g1, 0, none⟩) 32 K1 (some ⟨b1, 0, none⟩) 1 [97] hk1.symm rfl hB1) ?_
        rintro v L' ⟨rfl, rfl⟩
        rw [← hD1]
        refine ⟨.inr (sei _ _ _), ?_⟩
        exact va_ext ((hG _ _ _ _).1 (s4210 b2 g4)) rfl (by (repeat' (first | exact Sub.nil _ | refine Sub.cons rfl rfl ?_ | refine Sub.cons rfl ?_ ?_))) (sei _ _ _)
      · refine vo_buildSlice rfl rfl rfl (by decide) (by repeat' (first | exact trivial | rfl | refine ⟨?_, ?_⟩)) (by decide) rfl ?_
        intro s2
        refine ⟨.inr (sei _ _ _), ?_⟩
        exact va_ext ((hG _ _ _ _).1 (s3310 b1 s1 b2 s2 g4)) rfl (by (repeat' (first | exact Sub.nil _ | refine Sub.cons rfl rfl ?_ | refine Sub.cons rfl ?_ ?_))) (sei _ _ _)
      · refine vo_alloc rfl ?_
        intro g5
        refine ⟨.inr (sei _ _ _), ?_⟩
        exact va_ext ((hG _ _ _ _).1 (s3211 b1 s1 b2 g4 g5)) rfl (by (repeat' (first | exact Sub.nil _ | refine Sub.cons rfl rfl ?_ | refine Sub.cons rfl ?_ ?_))) (sei _ _ _))
    have s3300 : ∀ b1 s1 b2 s2 : Nat, G 6 [true, true, true, true, false, true, true, true, true, false, false, false, false, false] [(15, .slice (some ⟨g1, 0, none⟩) 32 32), (20, .slice (some ⟨g2, 0, none⟩) 32 32), (18, .slice (some ⟨s1, 0, none⟩) 2 2), (23, .slice (some ⟨s2, 0, none⟩) 2 2), (1, .pointer (some ⟨g1, 0, none⟩)), (2, .pointer (some ⟨g2, 0, none⟩)), (3, .pointer (some ⟨g3, 0, none⟩))] (rd (some ⟨b1, 0, none⟩) [.int .u8 97] :: own 32 1 (some ⟨s1, 0, none⟩) 2 2 [.slice (some ⟨g1, 0, none⟩) 32 32, .slice (some ⟨b1, 0, none⟩) 1 1] :: rd (some ⟨b2, 0, none⟩) [.int .u8 97] :: own 32 1 (some ⟨s2, 0, none⟩) 2 2 [.slice (some ⟨g2, 0, none⟩) 32 32, .slice (some ⟨b2, 0, none⟩) 1 1] :: blk g3 25 (bvs S) :: blk g2 25 (bvs K2) :: blk g1 25 (bvs K1) :: []) := fun b1 s1 b2 s2 => (hG _ _ _ _).2 (by
      refine va_three 4 10 11 (by kernel_rfl) rfl rfl rfl rfl rfl rfl ?_ ?_ ?_
      · refine vo_call rfl rfl ?_
        refine vc_mono (tof2_vc (h2 := (inferInstance : RdC w0 _ (some ⟨b1, 0, none⟩) [.int .u8 97])) w0 _ 1 (by decide) s1 (some ⟨g1, 0, none⟩) 32 K1 (some ⟨b1, 0, none⟩) 1 [97] hk1.symm rfl hB1) ?_
        rintro v L' ⟨rfl, rfl⟩
        rw [← hD1]
        refine ⟨.inr (sei _ _ _), ?_⟩
        exact va_ext ((hG _ _ _ _).1 (s4300 b2 s2)) rfl (by (repeat' (first | exact Sub.nil _ | refine Sub.cons rfl rfl ?_ | refine Sub.cons rfl ?_ ?_))) (sei _ _ _)
      · refine vo_alloc rfl ?_
        intro g4
        refine ⟨.inr (sei _ _ _), ?_⟩
        exact va_ext ((hG _ _ _ _).1 (s3310 b1 s1 b2 s2 g4)) rfl (by (repeat' (first | exact Sub.nil _ | refine Sub.cons rfl rfl ?_ | refine Sub.cons rfl ?_ ?_))) (sei _ _ _)
      · refine vo_alloc rfl ?_
        intro g5
        refine ⟨.inr (sei _ _ _), ?_⟩
        exact va_ext ((hG _ _ _ _).1 (s3301 b1 s1 b2 s2 g5)) rfl (by (repeat' (first | exact Sub.nil _ | refine Sub.cons rfl rfl ?_ | refine Sub.cons rfl ?_ ?_))) (sei _ _ _))
    have s4011 : ∀ g4 g5 : Nat, G 6 [true, true, true, true, true, true, false, false, false, false, true, true, false, false] [(15, .slice (some ⟨g1, 0, none⟩) 32 32), (20, .slice (some ⟨g2, 0, none⟩) 32 32), (19, .agg (bvs D1).toArray), (4, .pointer (some ⟨g4, 0, none⟩)), (5, .pointer (some ⟨g5, 0, none⟩)), (1, .pointer (some ⟨g1, 0, none⟩)), (2, .pointer (some ⟨g2, 0, none⟩)), (3, .pointer (some ⟨g3, 0, none⟩))] (blk g4 25 (bvs (List.replicate 32 0)) :: blk g5 25 (bvs (List.replicate 32 0)) :: blk g3 25 (bvs S) :: blk g2 25 (bvs K2) :: blk g1 25 (bvs K1) :: []) := fun g4 g5 => (hG _ _ _ _).2 (by
      refine va_one 6 (by kernel_rfl) rfl rfl ?_
      · refine vo_buildSlice rfl rfl rfl (by decide) (by repeat' (first | exact trivial | rfl | refine ⟨?_, ?_⟩)) (by decide) rfl ?_
        intro b2
        refine ⟨.inr (sei _ _ _), ?_⟩
        exact va_ext ((hG _ _ _ _).1 (s4111 b2 g4 g5)) rfl (by (repeat' (first | exact Sub.nil _ | refine Sub.cons rfl rfl ?_ | refine Sub.cons rfl ?_ ?_))) (sei _ _ _))
    have s4101 : ∀ b2 g5 : Nat, G 6 [true, true, true, true, true, true, true, false, false, false, false, true, false, false] [(15, .slice (some ⟨g1, 0, none⟩) 32 32), (20, .slice (some ⟨g2, 0, none⟩) 32 32), (19, .agg (bvs D1).toArray), (21, .slice (some ⟨b2, 0, none⟩) 1 1), (5, .pointer (some ⟨g5, 0, none⟩)), (1, .pointer (some ⟨g1, 0, none⟩)), (2, .pointer (some ⟨g2, 0, none⟩)), (3, .pointer (some ⟨g3, 0, none⟩))] (own 5 1 (some ⟨b2, 0, none⟩) 1 1 [.int .u8 97] :: blk g5 25 (bvs (List.replicate 32 0)) :: blk g3 25 (bvs S) :: blk g2 25 (bvs K2) :: blk g1 25 (bvs K1) :: []) := fun b2 g5 => (hG _ _ _ _).2 (by
      refine va_two 7 10 (by kernel_rfl) rfl rfl rfl rfl ?_ ?_
      · refine vo_convRow rfl rfl ?_
        refine ⟨.inr (sei _ _ _), ?_⟩
        exact va_ext ((hG _ _ _ _).1 (s4201 b2 g5)) rfl (by (repeat' (first | exact Sub.nil _ | refine Sub.cons rfl rfl ?_ | refine Sub.cons rfl ?_ ?_))) (sei _ _ _)
      · refine vo_alloc rfl ?_
        intro g4
        refine ⟨.inr (sei _ _ _), ?_⟩
        exact va_ext ((hG _ _ _ _).1 (s4111 b2 g4 g5)) rfl (by (repeat' (first | exact Sub.nil _ | refine Sub.cons rfl rfl ?_ | refine Sub.cons rfl ?_ ?_))) (sei _ _ _))
    have s4110 : ∀ b2 g4 : Nat, G 6 [true, true, true, true, true, true, true, false, false, false, true, false, false, false] [(15, .slice (some ⟨g1, 0, none⟩) 32 32), (20, .slice (some ⟨g2, 0, none⟩) 32 32), (19, .agg (bvs D1).toArray), (21, .slice (some ⟨b2, 0, none⟩) 1 1), (4, .pointer (some ⟨g4, 0, none⟩)), (1, .pointer (some ⟨g1, 0, none⟩)), (2, .pointer (some ⟨g2, 0, none⟩)), (3, .pointer (some ⟨g3, 0, none⟩))] (own 5 1 (some ⟨b2, 0, none⟩) 1 1 [.int .u8 97] :: blk g4 25 (bvs (List.replicate 32 0)) :: blk g3 25 (bvs S) :: blk g2 25 (bvs K2) :: blk g1 25 (bvs K1) :: []) := fun b2 g4 => (hG _ _ _ _).2 (by
      refine va_two 7 11 (by kernel_rfl) rfl rfl rfl rfl ?_ ?_
      · refine vo_convRow rfl rfl ?_
        refine ⟨.inr (sei _ _ _), ?_⟩
        exact va_ext ((hG _ _ _ _).1 (s4210 b2 g4)) rfl (by (repeat' (first | exact Sub.nil _ | refine Sub.cons rfl rfl ?_ | refine Sub.cons rfl ?_ ?_))) (sei _ _ _)
      · refine vo_alloc rfl ?_
        intro g5
        refine ⟨.inr (sei _ _ _), ?_⟩
        exact va_ext ((hG _ _ _ _).1 (s4111 b2 g4 g5)) rfl (by (repeat' (first | exact Sub.nil _ | refine Sub.cons rfl rfl ?_ | refine Sub.cons rfl ?_ ?_))) (sei _ _ _))
    have s4200 : ∀ b2 : Nat, G 6 [true, true, true, true, true, true, true, true, false, false, false, false, false, false] [(15, .slice (some ⟨g1, 0, none⟩) 32 32), (20, .slice (some ⟨g2, 0, none⟩) 32 32), (19, .agg (bvs D1).toArray), (22, .slice (some ⟨b2, 0, none⟩) 1 1), (1, .pointer (some ⟨g1, 0, none⟩)), (2, .pointer (some ⟨g2, 0, none⟩)), (3, .pointer (some ⟨g3, 0, none⟩))] (rd (some ⟨b2, 0, none⟩) [.int .u8 97] :: blk g3 25 (bvs S) :: blk g2 25 (bvs K2) :: blk g1 25 (bvs K1) :: []) := fun b2 => (hG _ _ _ _).2 (by
      refine va_three 8 10 11 (by kernel_rfl) rfl rfl rfl rfl rfl rfl ?_ ?_ ?_
      · refine vo_buildSlice rfl rfl rfl (by decide) (by repeat' (first | exact trivial | rfl | refine ⟨?_, ?_⟩)) (by decide) rfl ?_
        intro s2
        refine ⟨.inr (sei _ _ _), ?_⟩
        exact va_ext ((hG _ _ _ _).1 (s4300 b2 s2)) rfl (by (repeat' (first | exact Sub.nil _ | refine Sub.cons rfl rfl ?_ | refine Sub.cons rfl ?_ ?_))) (sei _ _ _)
      · refine vo_alloc rfl ?_
        intro g4
        refine ⟨.inr (sei _ _ _), ?_⟩
        exact va_ext ((hG _ _ _ _).1 (s4210 b2 g4)) rfl (by (repeat' (first | exact Sub.nil _ | refine Sub.cons rfl rfl ?_ | refine Sub.cons rfl ?_ ?_))) (sei _ _ _)
      · refine vo_alloc rfl ?_
        intro g5
        refine ⟨.inr (sei _ _ _), ?_⟩
        exact va_ext ((hG _ _ _ _).1 (s4201 b2 g5)) rfl (by (repeat' (first | exact Sub.nil _ | refine Sub.cons rfl rfl ?_ | refine Sub.cons rfl ?_ ?_))) (sei _ _ _))
    have s0311 : ∀ b2 s2 g4 g5 : Nat, G 7 [true, false, false, false, false, true, true, true, true, false, true, true, false, false] [(15, .slice (some ⟨g1, 0, none⟩) 32 32), (20, .slice (some ⟨g2, 0, none⟩) 32 32), (23, .slice (some ⟨s2, 0, none⟩) 2 2), (4, .pointer (some ⟨g4, 0, none⟩)), (5, .pointer (some ⟨g5, 0, none⟩)), (1, .pointer (some ⟨g1, 0, none⟩)), (2, .pointer (some ⟨g2, 0, none⟩)), (3, .pointer (some ⟨g3, 0, none⟩))] (rd (some ⟨b2, 0, none⟩) [.int .u8 97] :: own 32 1 (some ⟨s2, 0, none⟩) 2 2 [.slice (some ⟨g2, 0, none⟩) 32 32, .slice (some ⟨b2, 0, none⟩) 1 1] :: blk g4 25 (bvs (List.replicate 32 0)) :: blk g5 25 (bvs (List.replicate 32 0)) :: blk g3 25 (bvs S) :: blk g2 25 (bvs K2) :: blk g1 25 (bvs K1) :: []) := fun b2 s2 g4 g5 => (hG _ _ _ _).2 (by
      refine va_one 1 (by kernel_rfl) rfl rfl ?_
      · refine vo_buildSlice rfl rfl rfl (by decide) (by repeat' (first | exact trivial | rfl | refine ⟨?_, ?_⟩)) (by decide) rfl ?_
        intro b1
        refine ⟨.inr (sei _ _ _), ?_⟩
        exact va_ext ((hG _ _ _ _).1 (s1311 b1 b2 s2 g4 g5)) rfl (by (repeat' (first | exact Sub.nil _ | refine Sub.cons rfl rfl ?_ | refine Sub.cons rfl ?_ ?_))) (sei _ _ _))
    have s1211 : ∀ b1 b2 g4 g5 : Nat, G 7 [true, true, false, false, false, true, true, true, false, false, true, true, false, false] [(15, .slice (some ⟨g1, 0, none⟩) 32 32), (20, .slice (some ⟨g2, 0, none⟩) 32 32), (16, .slice (some ⟨b1, 0, none⟩) 1 1), (22, .slice (some ⟨b2, 0, none⟩) 1 1), (4, .pointer (some ⟨g4, 0, none⟩)), (5, .pointer (some ⟨g5, 0, none⟩)), (1, .pointer (some ⟨g1, 0, none⟩)), (2, .pointer (some ⟨g2, 0, none⟩)), (3, .pointer (some ⟨g3, 0, none⟩))] (own 5 1 (some ⟨b1, 0, none⟩) 1 1 [.int .u8 97] :: rd (some ⟨b2, 0, none⟩) [.int .u8 97] :: blk g4 25 (bvs (List.replicate 32 0)) :: blk g5 25 (bvs (List.replicate 32 0)) :: blk g3 25 (bvs S) :: blk g2 25 (bvs K2) :: blk g1 25 (bvs K1) :: []) := fun b1 b2 g4 g5 => (hG _ _ _ _).2 (by
      refine va_two 2 8 (by kernel_rfl) rfl rfl rfl rfl ?_ ?_
      · refine vo_convRow rfl rfl ?_
        refine ⟨.inr (sei _ _ _), ?_⟩
        exact va_ext ((hG _ _ _ _).1 (s2211 b1 b2 g4 g5)) rfl (by (repeat' (first | exact Sub.nil _ | refine Sub.cons rfl rfl ?_ | refine Sub.cons rfl ?_ ?_))) (sei _ _ _)
      · refine vo_buildSlice rfl rfl rfl (by decide) (by repeat' (first | exact trivial | rfl | refine ⟨?_, ?_⟩)) (by decide) rfl ?_
        intro s2
        refine ⟨.inr (sei _ _ _), ?_⟩
        exact va_ext ((hG _ _ _ _).1 (s1311 b1 b2 s2 g4 g5)) rfl (by (repeat' (first | exact Sub.nil _ | refine Sub.cons rfl rfl ?_ | refine Sub.cons rfl ?_ ?_))) (sei _ _ _))
    have s1301 : ∀ b1 b2 s2 g5 : Nat, G 7 [true, true, false, false, false, true, true, true, true, false, false, true, false, false] [(15, .slice (some ⟨g1, 0, none⟩) 32 32), (20, .slice (some ⟨g2, 0, none⟩) 32 32), (16, .slice (some ⟨b1, 0, none⟩) 1 1), (23, .slice (some ⟨s2, 0, none⟩) 2 2), (5, .pointer (some ⟨g5, 0, none⟩)), (1, .pointer (some ⟨g1, 0, none⟩)), (2, .pointer (some ⟨g2, 0, none⟩)), (3, .pointer (some ⟨g3, 0, none⟩))] (own 5 1 (some ⟨b1, 0, none⟩) 1 1 [.int .u8 97] :: rd (some ⟨b2, 0, none⟩) [.int .u8 97] :: own 32 1 (some ⟨s2, 0, none⟩) 2 2 [.slice (some ⟨g2, 0, none⟩) 32 32, .slice (some ⟨b2, 0, none⟩) 1 1] :: blk g5 25 (bvs (List.replicate 32 0)) :: blk g3 25 (bvs S) :: blk g2 25 (bvs K2) :: blk g1 25 (bvs K1) :: []) := fun b1 b2 s2 g5 => (hG _ _ _ _).2 (by
      refine va_two 2 10 (by kernel_rfl) rfl rfl rfl rfl ?_ ?_
      · refine vo_convRow rfl rfl ?_
        refine ⟨.inr (sei _ _ _), ?_⟩
        exact va_ext ((hG _ _ _ _).1 (s2301 b1 b2 s2 g5)) rfl (by (repeat' (first | exact Sub.nil _ | refine Sub.cons rfl rfl ?_ | refine Sub.cons rfl ?_ ?_))) (sei _ _ _)
      · refine vo_alloc rfl ?_
        intro g4
        refine ⟨.inr (sei _ _ _), ?_⟩
        exact va_ext ((hG _ _ _ _).1 (s1311 b1 b2 s2 g4 g5)) rfl (by (repeat' (first | exact Sub.nil _ | refine Sub.cons rfl rfl ?_ | refine Sub.cons rfl ?_ ?_))) (sei _ _ _))
    have s1310 : ∀ b1 b2 s2 g4 : Nat, G 7 [true, true, false, false, false, true, true, true, true, false, true, false, false, false] [(15, .slice (some ⟨g1, 0, none⟩) 32 32), (20, .slice (some ⟨g2, 0, none⟩) 32 32), (16, .slice (some ⟨b1, 0, none⟩) 1 1), (23, .slice (some ⟨s2, 0, none⟩) 2 2), (4, .pointer (some ⟨g4, 0, none⟩)), (1, .pointer (some ⟨g1, 0, none⟩)), (2, .pointer (some ⟨g2, 0, none⟩)), (3, .pointer (some ⟨g3, 0, none⟩))] (own 5 1 (some ⟨b1, 0, none⟩) 1 1 [.int .u8 97] :: rd (some ⟨b2, 0, none⟩) [.int .u8 97] :: own 32 1 (some ⟨s2, 0, none⟩) 2 2 [.slice (some ⟨g2, 0, none⟩) 32 32, .slice (some ⟨b2, 0, none⟩) 1 1] :: blk g4 25 (bvs (List.replicate 32 0)) :: blk g3 25 (bvs S) :: blk g2 25 (bvs K2) :: blk g1 25 (bvs K1) :: []) := fun b1 b2 s2 g4 => (hG _ _ _ _).2 (by
      refine va_two 2 11 (by kernel_rfl) rfl rfl rfl rfl ?_ ?_
      · refine vo_convRow rfl rfl ?_
        refine ⟨.inr (sei _ _ _), ?_⟩
        exact va_ext ((hG _ _ _ _).1 (s2310 b1 b2 s2 g4)) rfl (by (repeat' (first | exact Sub.nil _ | refine Sub.cons rfl rfl ?_ | refine Sub.cons rfl ?_ ?_))) (sei _ _ _)
      · refine vo_alloc rfl ?_
        intro g5
        refine ⟨.inr (sei _ _ _), ?_⟩
        exact va_ext ((hG _ _ _ _).1 (s1311 b1 b2 s2 g4 g5)) rfl (by (repeat' (first | exact Sub.nil _ | refine Sub.cons rfl rfl ?_ | refine Sub.cons rfl ?_ ?_))) (sei _ _ _))
    have s2111 : ∀ b1 b2 g4 g5 : Nat, G 7 [true, true, true, false, false, true, true, false, false, false, true, true, false, false] [(15, .slice (some ⟨g1, 0, none⟩) 32 32), (20, .slice (some ⟨g2, 0, none⟩) 32 32), (17, .slice (some ⟨b1, 0, none⟩) 1 1), (21, .slice (some ⟨b2, 0, none⟩) 1 1), (4, .pointer (some ⟨g4, 0, none⟩)), (5, .pointer (some ⟨g5, 0, none⟩)), (1, .pointer (some ⟨g1, 0, none⟩)), (2, .pointer (some ⟨g2, 0, none⟩)), (3, .pointer (some ⟨g3, 0, none⟩))] (rd (some ⟨b1, 0, none⟩) [.int .u8 97] :: own 5 1 (some ⟨b2, 0, none⟩) 1 1 [.int .u8 97] :: blk g4 25 (bvs (List.replicate 32 0)) :: blk g5 25 (bvs (List.replicate 32 0)) :: blk g3 25 (bvs S) :: blk g2 25 (bvs K2) :: blk g1 25 (bvs K1) :: []) := fun b1 b2 g4 g5 => (hG _ _ _ _).2 (by
      refine va_two 3 7 (by kernel_rfl) rfl rfl rfl rfl ?_ ?_
      · refine vo_buildSlice rfl rfl rfl (by decide) (by repeat' (first | exact trivial | rfl | refine ⟨?_, ?_⟩)) (by decide) rfl ?_
        intro s1
        refine ⟨.inr (sei _ _ _), ?_⟩
        exact va_ext ((hG _ _ _ _).1 (s3111 b1 s1 b2 g4 g5)) rfl (by (repeat' (first | exact Sub.nil _ | refine Sub.cons rfl rfl ?_ | refine Sub.cons rfl ?_ ?_))) (sei _ _ _)
      · refine vo_convRow rfl rfl ?_
        refine ⟨.inr (sei _ _ _), ?_⟩
        exact va_ext ((hG _ _ _ _).1 (s2211 b1 b2 g4 g5)) rfl (by (repeat' (first | exact Sub.nil _ | refine Sub.cons rfl rfl ?_ | refine Sub.cons rfl ?_ ?_))) (sei _ _ _))
    have s2201 : ∀ b1 b2 g5 : Nat, G 7 [true, true, true, false, false, true, true, true, false, false, false, true, false, false] [(15, .slice (some ⟨g1, 0, none⟩) 32 32), (20, .slice (some ⟨g2, 0, none⟩) 32 32), (17, .slice (some ⟨b1, 0, none⟩) 1 1), (22, .slice (some ⟨b2, 0, none⟩) 1 1), (5, .pointer (some ⟨g5, 0, none⟩)), (1, .pointer (some ⟨g1, 0, none⟩)), (2, .pointer (some ⟨g2, 0, none⟩)), (3, .pointer (some ⟨g3, 0, none⟩))] (rd (some ⟨b1, 0, none⟩) [.int .u8 97] :: rd (some ⟨b2, 0, none⟩) [.int .u8 97] :: blk g5 25 (bvs (List.replicate 32 0)) :: blk g3 25 (bvs S) :: blk g2 25 (bvs K2) :: blk g1 25 (bvs K1) :: []) := fun b1 b2 g5 => (hG _ _ _ _).2 (by
      refine va_three 3 8 10 (by kernel_rfl) rfl rfl rfl rfl rfl rfl ?_ ?_ ?_
      · refine vo_buildSlice rfl rfl rfl (by decide) (by repeat' (first | exact trivial | rfl | refine ⟨?_, ?_⟩)) (by decide) rfl ?_
        intro s1
        refine ⟨.inr (sei _ _ _), ?_⟩
        exact va_ext ((hG _ _ _ _).1 (s3201 b1 s1 b2 g5)) rfl (by (repeat' (first | exact Sub.nil _ | refine Sub.cons rfl rfl ?_ | refine Sub.cons rfl ?_ ?_))) (sei _ _ _)
      · refine vo_buildSlice rfl rfl rfl (by decide) (by repeat' (first | exact trivial | rfl | refine ⟨?_, ?_⟩)) (by decide) rfl ?_
        intro s2
        refine ⟨.inr (sei _ _ _), ?_⟩
        exact va_ext ((hG _ _ _ _).1 (s2301 b1 b2 s2 g5)) rfl (by (repeat' (first | exact Sub.nil _ | refine Sub.cons rfl rfl ?_ | refine Sub.cons rfl ?_ ?_))) (sei _ _ _)
      · refine vo_alloc rfl ?_
        intro g4
        refine ⟨.inr (sei _ _ _), ?_⟩
        exact va_ext ((hG _ _ _ _).1 (s2211 b1 b2 g4 g5)) rfl (by (repeat' (first | exact Sub.nil _ | refine Sub.cons rfl rfl ?_ | refine Sub.cons rfl ?_ ?_))) (sei _ _ _))
    have s2210 : ∀ b1 b2 g4 : Nat, G 7 [true, true, true, false, false, true, true, true, false, false, true, false, false, false] [(15, .slice (some ⟨g1, 0, none⟩) 32 32), (20, .slice (some ⟨g2, 0, none⟩) 32 32), (17, .slice (some ⟨b1, 0, none⟩) 1 1), (22, .slice (some ⟨b2, 0, none⟩) 1 1), (4, .pointer (some ⟨g4, 0, none⟩)), (1, .pointer (some ⟨g1, 0, none⟩)), (2, .pointer (some ⟨g2, 0, none⟩)), (3, .pointer (some ⟨g3, 0, none⟩))] (rd (some ⟨b1, 0, none⟩) [.int .u8 97] :: rd (some ⟨b2, 0, none⟩) [.int .u8 97] :: blk g4 25 (bvs (List.replicate 32 0)) :: blk g3 25 (bvs S) :: blk g2 25 (bvs K2) :: blk g1 25 (bvs K1) :: []) := fun b1 b2 g4 => (hG _ _ _ _).2 (by
      refine va_three 3 8 11 (by kernel_rfl) rfl rfl rfl rfl rfl rfl ?_ ?_ ?_
      · refine vo_buildSlice rfl rfl rfl (by decide) (by repeat' (first | exact trivial | rfl | refine ⟨?_, ?_⟩)) (by decide) rfl ?_
        intro s1
        refine ⟨.inr (sei _ _ _), ?_⟩
        exact va_ext ((hG _ _ _ _).1 (s3210 b1 s1 b2 g4)) rfl (by (repeat' (first | exact Sub.nil _ | refine Sub.cons rfl rfl ?_ | refine Sub.cons rfl ?_ ?_))) (sei _ _ _)
      · refine vo_buildSlice rfl rfl rfl (by decide) (by repeat' (first | exact trivial | rfl | refine ⟨?_, ?_⟩)) (by decide) rfl ?_
        intro s2
        refine ⟨.inr (sei _ _ _), ?_⟩
        exact va_ext ((hG _ _ _ _).1 (s2310 b1 b2 s2 g4)) rfl (by (repeat' (first | exact Sub.nil _ | refine Sub.cons rfl rfl ?_ | refine Sub.cons rfl ?_ ?_))) (sei _ _ _)
      · refine vo_alloc rfl ?_
        intro g5
        refine ⟨.inr (sei _ _ _), ?_⟩
        exact va_ext ((hG _ _ _ _).1 (s2211 b1 b2 g4 g5)) rfl (by (repeat' (first | exact Sub.nil _ | refine Sub.cons rfl rfl ?_ | refine Sub.cons rfl ?_ ?_))) (sei _ _ _))
    have s2300 : ∀ b1 b2 s2 : Nat, G 7 [true, true, true, false, false, true, true, true, true, false, false, false, false, false] [(15, .slice (some ⟨g1, 0, none⟩) 32 32), (20, .slice (some ⟨g2, 0, none⟩) 32 32), (17, .slice (some ⟨b1, 0, none⟩) 1 1), (23, .slice (some ⟨s2, 0, none⟩) 2 2), (1, .pointer (some ⟨g1, 0, none⟩)), (2, .pointer (some ⟨g2, 0, none⟩)), (3, .pointer (some ⟨g3, 0, none⟩))] (rd (some ⟨b1, 0, none⟩) [.int .u8 97] :: rd (some ⟨b2, 0, none⟩) [.int .u8 97] :: own 32 1 (some ⟨s2, 0, none⟩) 2 2 [.slice (some ⟨g2, 0, none⟩) 32 32, .slice (some ⟨b2, 0, none⟩) 1 1] :: blk g3 25 (bvs S) :: blk g2 25 (bvs K2) :: blk g1 25 (bvs K1) :: []) := fun b1 b2 s2 => (hG _ _ _ _).2 (by
      refine va_three 3 10 11 (by kernel_rfl) rfl rfl rfl rfl rfl rfl ?_ ?_ ?_
      · refine vo_buildSlice rfl rfl rfl (by decide) (by repeat' (first | exact trivial | rfl | refine ⟨?_, ?_⟩)) (by decide) rfl ?_
        intro s1
        refine ⟨.inr (sei _ _ _), ?_⟩
        exact va_ext ((hG _ _ _ _).1 (s3300 b1 s1 b2 s2)) rfl (by (repeat' (first | exact Sub.nil _ | refine Sub.cons rfl rfl ?_ | refine Sub.cons rfl ?_ ?_))) (sei _ _ _)
      · refine vo_alloc rfl ?_
        intro g4
        refine ⟨.inr (sei _ _ _), ?_⟩
        exact va_ext ((hG _ _ _ _).1 (s2310 b1 b2 s2 g4)) rfl (by (repeat' (first | exact Sub.nil _ | refine Sub.cons rfl rfl ?_ | refine Sub.cons rfl ?_ ?_))) (sei _ _ _)
      · refine vo_alloc rfl ?_
        intro g5
        refine ⟨.inr (sei _ _ _), ?_⟩
        exact va_ext ((hG _ _ _ _).1 (s2301 b1 b2 s2 g5)) rfl (by (repeat' (first | exact Sub.nil _ | refine Sub.cons rfl rfl ?_ | refine Sub.cons rfl ?_ ?_))) (sei _ _ _))
    have s3011 : ∀ b1 s1 g4 g5 : Nat, G 7 [true, true, true, true, false, true, false, false, false, false, true, true, false, false] [(15, .slice (some ⟨g1, 0, none⟩) 32 32), (20, .slice (some ⟨g2, 0, none⟩) 32 32), (18, .slice (some ⟨s1, 0, none⟩) 2 2), (4, .pointer (some ⟨g4, 0, none⟩)), (5, .pointer (some ⟨g5, 0, none⟩)), (1, .pointer (some ⟨g1, 0, none⟩)), (2, .pointer (some ⟨g2, 0, none⟩)), (3, .pointer (some ⟨g3, 0, none⟩))] (rd (some ⟨b1, 0, none⟩) [.int .u8 97] :: own 32 1 (some ⟨s1, 0, none⟩) 2 2 [.slice (some ⟨g1, 0, none⟩) 32 32, .slice (some ⟨b1, 0, none⟩) 1 1] :: blk g4 25 (bvs (List.replicate 32 0)) :: blk g5 25 (bvs (List.replicate 32 0)) :: blk g3 25 (bvs S) :: blk g2 25 (bvs K2) :: blk g1 25 (bvs K1) :: []) := fun b1 s1 g4 g5 => (hG _ _ _ _).2 (by
      refine va_two 4 6 (by kernel_rfl) rfl rfl rfl rfl ?_ ?_
      · refine vo_call rfl rfl ?_
        refine vc_mono (tof2_vc (h2 := (inferInstance : RdC w0 _ (some ⟨b1, 0, none⟩) [.int .u8 97])) w0 _ 1 (by decide) s1 (some ⟨g1, 0, none⟩) 32 K1 (some ⟨b1, 0, none⟩) 1 [97] hk1.symm rfl hB1) ?_
        rintro v L' ⟨rfl, rfl⟩
        rw [← hD1]
        refine ⟨.inr (sei _ _ _), ?_⟩
        exact va_ext ((hG _ _ _ _).1 (s4011 g4 g5)) rfl (by (repeat' (first | exact Sub.nil _ | refine Sub.cons rfl rfl ?_ | refine Sub.cons rfl ?_ ?_))) (sei _ _ _)
      · refine vo_buildSlice rfl rfl rfl (by decide) (by repeat' (first | exact trivial | rfl | refine ⟨?_, ?_⟩)) (by decide) rfl ?_
        intro b2
        refine ⟨.inr (sei _ _ _), ?_⟩
        exact va_ext ((hG _ _ _ _).1 (s3111 b1 s1 b2 g4 g5)) rfl (by (repeat' (first | exact Sub.nil _ | refine Sub.cons rfl rfl ?_ | refine Sub.cons rfl ?_ ?_))) (sei _ _ _))
    have s3101 : ∀ b1 s1 b2 g5 : Nat, G 7 [true, true, true, true, false, true, true, false, false, false, false, true, false, false] [(15, .slice (some ⟨g1, 0, none⟩) 32 32), (20, .slice (some ⟨g2, 0, none⟩) 32 32), (18, .slice (some ⟨s1, 0, none⟩) 2 2), (21, .slice (some ⟨b2, 0, none⟩) 1 1), (5, .pointer (some ⟨g5, 0, none⟩)), (1, .pointer (some ⟨g1, 0, none⟩)), (2, .pointer (some ⟨g2, 0, none⟩)), (3, .pointer (some ⟨g3, 0, none⟩))] (rd (some ⟨b1, 0, none⟩) [.int .u8 97] :: own 32 1 (some ⟨s1, 0, none⟩) 2 2 [.slice (some ⟨g1, 0, none⟩) 32 32, .slice (some ⟨b1, 0, none⟩) 1 1] :: own 5 1 (some ⟨b2, 0, none⟩) 1 1 [.int .u8 97] :: blk g5 25 (bvs (List.replicate 32 0)) :: blk g3 25 (bvs S) :: blk g2 25 (bvs K2) :: blk g1 25 (bvs K1) :: []) := fun b1 s1 b2 g5 => (hG _ _ _ _).2 (by
      refine va_three 4 7 10 (by kernel_rfl) rfl rfl rfl rfl rfl rfl ?_ ?_ ?_
      · refine vo_call rfl rfl ?_
        refine vc_mono (tof2_vc (h2 := (inferInstance : RdC w0 _ (some ⟨b1, 0, none⟩) [.int .u8 97])) w0 _ 1 (by decide) s1 (some ⟨g1, 0, none⟩) 32 K1 (some ⟨b1, 0, none⟩) 1 [97] hk1.symm rfl hB1) ?_
        rintro v L' ⟨rfl, rfl⟩
        rw [← hD1]
        refine ⟨.inr (sei _ _ _), ?_⟩
        exact va_ext ((hG _ _ _ _).1 (s4101 b2 g5)) rfl (by (repeat' (first | exact Sub.nil _ | refine Sub.cons rfl rfl ?_ | refine Sub.cons rfl ?_ ?_))) (sei _ _ _)
      · refine vo_convRow rfl rfl ?_
        refine ⟨.inr (sei _ _ _), ?_⟩
        exact va_ext ((hG _ _ _ _).1 (s3201 b1 s1 b2 g5)) rfl (by (repeat' (first | exact Sub.nil _ | refine Sub.cons rfl rfl ?_ | refine Sub.cons rfl ?_ ?_))) (sei _ _ _)
      · refine vo_alloc rfl ?_
        intro g4
        refine ⟨.inr (sei _ _ _), ?_⟩
        exact va_ext ((hG _ _ _ _).1 (s3111 b1 s1 b2 g4 g5)) rfl (by (repeat' (first | exact Sub.nil _ | refine Sub.cons rfl rfl ?_ | refine Sub.cons rfl ?_ ?_))) (sei _ _ _))
    have s3110 : ∀ b1 s1 b2 g4 : Nat, G 7 [true, true, true, true, false, true, true, false, false, false, true, false, false, false] [(15, .slice (some ⟨g1, 0, none⟩) 32 32), (20, .slice (some ⟨g2, 0, none⟩) 32 32), (18, .slice (some ⟨s1, 0, none⟩) 2 2), (21, .slice (some ⟨b2, 0, none⟩) 1 1), (4, .pointer (some ⟨g4, 0, none⟩)), (1, .pointer (some ⟨g1, 0, none⟩)), (2, .pointer (some ⟨g2, 0, none⟩)), (3, .pointer (some ⟨g3, 0, none⟩))] (rd (some ⟨b1, 0, none⟩) [.int .u8 97] :: own 32 1 (some ⟨s1, 0, none⟩) 2 2 [.slice (some ⟨g1, 0, none⟩) 32 32, .slice (some ⟨b1, 0, none⟩) 1 1] :: own 5 1 (some ⟨b2, 0, none⟩) 1 1 [.int .u8 97] :: blk g4 25 (bvs (List.replicate 32 0)) :: blk g3 25 (bvs S) :: blk g2 25 (bvs K2) :: blk g1 25 (bvs K1) :: []) := fun b1 s1 b2 g4 => (hG _ _ _ _).2 (by
      refine va_three 4 7 11 (by kernel_rfl) rfl rfl rfl rfl rfl rfl ?_ ?_ ?_
      · refine vo_call rfl rfl ?_
        refine vc_mono (tof2_vc (h2 := (inferInstance : RdC w0 _ (some ⟨b1, 0, none⟩) [.int .u8 97])) w0 _ 1 (by decide) s1 (some ⟨g1, 0, none⟩) 32 K1 (some ⟨b1, 0, none⟩) 1 [97] hk1.symm rfl hB1) ?_
        rintro v L' ⟨rfl, rfl⟩
        rw [← hD1]
        refine ⟨.inr (sei _ _ _), ?_⟩
        exact va_ext ((hG _ _ _ _).1 (s4110 b2 g4)) rfl (by (repeat' (first | exact Sub.nil _ | refine Sub.cons rfl rfl ?_ | refine Sub.cons rfl ?_ ?_))) (sei _ _ _)
      · refine vo_convRow rfl rfl ?_
        refine ⟨.inr (sei _ _ _), ?_⟩
        exact va_ext ((hG _ _ _ _).1 (s3210 b1 s1 b2 g4)) rfl (by (repeat' (first | exact Sub.nil _ | refine Sub.cons rfl rfl ?_ | refine Sub.cons rfl ?_ ?_))) (sei _ _ _)
      · refine vo_alloc rfl ?_
        intro g5
        refine ⟨.inr (sei _ _ _), ?_⟩
        exact va_ext ((hG _ _ _ _).1 (s3111 b1 s1 b2 g4 g5)) rfl (by (repeat' (first | exact Sub.nil _ | refine Sub.cons rfl rfl ?_ | refine Sub.cons rfl ?_ ?_))) (sei _ _ _))
    have s3200 : ∀ b1 s1 b2 : Nat, G 7 [true, true, true, true, false, true, true, true, false, false, false, false, false, false] [(15, .slice (some ⟨g1, 0, none⟩) 32 32), (20, .slice (some ⟨g2, 0, none⟩) 32 32), (18, .slice (some ⟨s1, 0, none⟩) 2 2), (22, .slice (some ⟨b2, 0, none⟩) 1 1), (1, .pointer (some ⟨g1, 0, none⟩)), (2, .pointer (some ⟨g2, 0, none⟩)), (3, .pointer (some ⟨g3, 0, none⟩))] (rd (some ⟨b1, 0, none⟩) [.int .u8 97] :: own 32 1 (some ⟨s1, 0, none⟩) 2 2 [.slice (some ⟨g1, 0, none⟩) 32 32, .slice (some ⟨b1, 0, none⟩) 1 1] :: rd (some ⟨b2, 0, none⟩) [.int .u8 97] :: blk g3 25 (bvs S) :: blk g2 25 (bvs K2) :: blk g1 25 (bvs K1) :: []) := fun b1 s1 b2 => (hG _ _ _ _).2 (by
      refine va_four 4 8 10 11 (by kernel_rfl) rfl rfl rfl rfl rfl rfl rfl rfl ?_ ?_ ?_ ?_
      · refine vo_call rfl rfl ?_
        refine vc_mono (tof2_vc (h2 := (inferInstance : RdC w0 _ (some ⟨b1, 0, none⟩) [.int .u8 97])) w0 _ 1 (by decide) s1 (some ⟨g1, 0, none⟩) 32 K1 (some ⟨b1, 0, none⟩) 1 [97] hk1.symm rfl hB1) ?_
        rintro v L' ⟨rfl, rfl⟩
        rw [← hD1]
        refine ⟨.inr (sei _ _ _), ?_⟩
        exact va_ext ((hG _ _ _ _).1 (s4200 b2)) rfl (by (repeat' (first | exact Sub.nil _ | refine Sub.cons rfl rfl ?_ | refine Sub.cons rfl ?_ ?_))) (sei _ _ _)
      · refine vo_buildSlice rfl rfl rfl (by decide) (by repeat' (first | exact trivial | rfl | refine ⟨?_, ?_⟩)) (by decide) rfl ?_
        intro s2
        refine ⟨.inr (sei _ _ _), ?_⟩
        exact va_ext ((hG _ _ _ _).1 (s3300 b1 s1 b2 s2)) rfl (by (repeat' (first | exact Sub.nil _ | refine Sub.cons rfl rfl ?_ | refine Sub.cons rfl ?_ ?_))) (sei _ _ _)
      · refine vo_alloc rfl ?_
        intro g4
        refine ⟨.inr (sei _ _ _), ?_⟩
        exact va_ext ((hG _ _ _ _).1 (s3210 b1 s1 b2 g4)) rfl (by (repeat' (first | exact Sub.nil _ | refine Sub.cons rfl rfl ?_ | refine Sub.cons rfl ?_ ?_))) (sei _ _ _)
      · refine vo_alloc rfl ?_
        intro g5
        refine ⟨.inr (sei _ _ _), ?_⟩
        exact va_ext ((hG _ _ _ _).1 (s3201 b1 s1 b2 g5)) rfl (by (repeat' (first | exact Sub.nil _ | refine Sub.cons rfl rfl ?_ | refine Sub.cons rfl ?_ ?_))) (sei _ _ _))
    have s4001 : ∀ g5 : Nat, G 7 [true, true, true, true, true, true, false, false, false, false, false, true, false, false] [(15, .slice (some ⟨g1, 0, none⟩) 32 32), (20, .slice (some ⟨g2, 0, none⟩) 32 32), (19, .agg (bvs D1).toArray), (5, .pointer (some ⟨g5, 0, none⟩)), (1, .pointer (some ⟨g1, 0, none⟩)), (2, .pointer (some ⟨g2, 0, none⟩)), (3, .pointer (some ⟨g3, 0, none⟩))] (blk g5 25 (bvs (List.replicate 32 0)) :: blk g3 25 (bvs S) :: blk g2 25 (bvs K2) :: blk g1 25 (bvs K1) :: []) := fun g5 => (hG _ _ _ _).2 (by
      refine va_two 6 10 (by kernel_rfl) rfl rfl rfl rfl ?_ ?_
      · refine vo_buildSlice rfl rfl rfl (by decide) (by repeat' (first | exact trivial | rfl | refine ⟨?_, ?_⟩)) (by decide) rfl ?_
        intro b2
        refine ⟨.inr (sei _ _ _), ?_⟩
        exact va_ext ((hG _ _ _ _).1 (s4101 b2 g5)) rfl (by (repeat' (first | exact Sub.nil _ | refine Sub.cons rfl rfl ?_ | refine Sub.cons rfl ?_ ?_))) (sei _ _ _)
      · refine vo_alloc rfl ?_
        intro g4
        refine ⟨.inr (sei _ _ _), ?_⟩
        exact va_ext ((hG _ _ _ _).1 (s4011 g4 g5)) rfl (by (repeat' (first | exact Sub.nil _ | refine Sub.cons rfl rfl ?_ | refine Sub.cons rfl ?_ ?_))) (sei _ _ _))
    have s4010 : ∀ g4 : Nat, G 7 [true, true, true, true, true, true, false, false, false, false, true, false, false, false] [(15, .slice (some ⟨g1, 0, none⟩) 32 32), (20, .slice (some ⟨g2, 0, none⟩) 32 32), (19, .agg (bvs D1).toArray), (4, .pointer (some ⟨g4, 0, none⟩)), (1, .pointer (some ⟨g1, 0, none⟩)), (2, .pointer (some ⟨g2, 0, none⟩)), (3, .pointer (some ⟨g3, 0, none⟩))] (blk g4 25 (bvs (List.replicate 32 0)) :: blk g3 25 (bvs S) :: blk g2 25 (bvs K2) :: blk g1 25 (bvs K1) :: []) := fun g4 => (hG _ _ _ _).2 (by
      refine va_two 6 11 (by kernel_rfl) rfl rfl rfl rfl ?_ ?_
      · refine vo_buildSlice rfl rfl rfl (by decide) (by repeat' (first | exact trivial | rfl | refine ⟨?_, ?_⟩)) (by decide) rfl ?_
        intro b2
        refine ⟨.inr (sei _ _ _), ?_⟩
        exact va_ext ((hG _ _ _ _).1 (s4110 b2 g4)) rfl (by (repeat' (first | exact Sub.nil _ | refine Sub.cons rfl rfl ?_ | refine Sub.cons rfl ?_ ?_))) (sei _ _ _)
      · refine vo_alloc rfl ?_
        intro g5
        refine ⟨.inr (sei _ _ _), ?_⟩
        exact va_ext ((hG _ _ _ _).1 (s4011 g4 g5)) rfl (by (repeat' (first | exact Sub.nil _ | refine Sub.cons rfl rfl ?_ | refine Sub.cons rfl ?_ ?_))) (sei _ _ _))
    have s4100 : ∀ b2 : Nat, G 7 [true, true, true, true, true, true, true, false, false, false, false, false, false, false] [(15, .slice (some ⟨g1, 0, none⟩) 32 32), (20, .slice (some ⟨g2, 0, none⟩) 32 32), (19, .agg (bvs D1).toArray), (21, .slice (some ⟨b2, 0, none⟩) 1 1), (1, .pointer (some ⟨g1, 0, none⟩)), (2, .pointer (some ⟨g2, 0, none⟩)), (3, .pointer (some ⟨g3, 0, none⟩))] (own 5 1 (some ⟨b2, 0, none⟩) 1 1 [.int .u8 97] :: blk g3 25 (bvs S) :: blk g2 25 (bvs K2) :: blk g1 25 (bvs K1) :: []) := fun b2 => (hG _ _ _ _).2 (by
      refine va_three 7 10 11 (by kernel_rfl) rfl rfl rfl rfl rfl rfl ?_ ?_ ?_
      · refine vo_convRow rfl rfl ?_
        refine ⟨.inr (sei _ _ _), ?_⟩
        exact va_ext ((hG _ _ _ _).1 (s4200 b2)) rfl (by (repeat' (first | exact Sub.nil _ | refine Sub.cons rfl rfl ?_ | refine Sub.cons rfl ?_ ?_))) (sei _ _ _)
      · refine vo_alloc rfl ?_
        intro g4
        refine ⟨.inr (sei _ _ _), ?_⟩
        exact va_ext ((hG _ _ _ _).1 (s4110 b2 g4)) rfl (by (repeat' (first | exact Sub.nil _ | refine Sub.cons rfl rfl ?_ | refine Sub.cons rfl ?_ ?_))) (sei _ _ _)
      · refine vo_alloc rfl ?_
        intro g5
        refine ⟨.inr (sei _ _ _), ?_⟩
        exact va_ext ((hG _ _ _ _).1 (s4101 b2 g5)) rfl (by (repeat' (first | exact Sub.nil _ | refine Sub.cons rfl rfl ?_ | refine Sub.cons rfl ?_ ?_))) (sei _ _ _))
    have s0211 : ∀ b2 g4 g5 : Nat, G 8 [true, false, false, false, false, true, true, true, false, false, true, true, false, false] [(15, .slice (some ⟨g1, 0, none⟩) 32 32), (20, .slice (some ⟨g2, 0, none⟩) 32 32), (22, .slice (some ⟨b2, 0, none⟩) 1 1), (4, .pointer (some ⟨g4, 0, none⟩)), (5, .pointer (some ⟨g5, 0, none⟩)), (1, .pointer (some ⟨g1, 0, none⟩)), (2, .pointer (some ⟨g2, 0, none⟩)), (3, .pointer (some ⟨g3, 0, none⟩))] (rd (some ⟨b2, 0, none⟩) [.int .u8 97] :: blk g4 25 (bvs (List.replicate 32 0)) :: blk g5 25 (bvs (List.replicate 32 0)) :: blk g3 25 (bvs S) :: blk g2 25 (bvs K2) :: blk g1 25 (bvs K1) :: []) := fun b2 g4 g5 => (hG _ _ _ _).2 (by
      refine va_two 1 8 (by kernel_rfl) rfl rfl rfl rfl ?_ ?_
      · refine vo_buildSlice rfl rfl rfl (by decide) (by repeat' (first | exact trivial | rfl | refine ⟨?_, ?_⟩)) (by decide) rfl ?_
        intro b1
        refine ⟨.inr (sei _ _ _), ?_⟩
        exact va_ext ((hG _ _ _ _).1 (s1211 b1 b2 g4 g5)) rfl (by (repeat' (first | exact Sub.nil _ | refine Sub.cons rfl rfl ?_ | refine Sub.cons rfl ?_ ?_))) (sei _ _ _)
      · refine vo_buildSlice rfl rfl rfl (by decide) (by repeat' (first | exact trivial | rfl | refine ⟨?_, ?_⟩)) (by decide) rfl ?_
        intro s2
        refine ⟨.inr (sei _ _ _), ?_⟩
        exact va_ext ((hG _ _ _ _).1 (s0311 b2 s2 g4 g5)) rfl (by (repeat' (first | exact Sub.nil _ | refine Sub.cons rfl rfl ?_ | refine Sub.cons rfl ?_ ?_))) (sei _ _ _))
    have s0301 : ∀ b2 s2 g5 : Nat, G 8 [true, false, false, false, false, true, true, true, true, false, false, true, false, false] [(15, .slice (some ⟨g1, 0, none⟩) 32 32), (20, .slice (some ⟨g2, 0, none⟩) 32 32), (23, .slice (some ⟨s2, 0, none⟩) 2 2), (5, .pointer (some ⟨g5, 0, none⟩)), (1, .pointer (some ⟨g1, 0, none⟩)), (2, .pointer (some ⟨g2, 0, none⟩)), (3, .pointer (some ⟨g3, 0, none⟩))] (rd (some ⟨b2, 0, none⟩) [.int .u8 97] :: own 32 1 (some ⟨s2, 0, none⟩) 2 2 [.slice (some ⟨g2, 0, none⟩) 32 32, .slice (some ⟨b2, 0, none⟩) 1 1] :: blk g5 25 (bvs (List.replicate 32 0)) :: blk g3 25 (bvs S) :: blk g2 25 (bvs K2) :: blk g1 25 (bvs K1) :: []) := fun b2 s2 g5 => (hG _ _ _ _).2 (by
      refine va_two 1 10 (by kernel_rfl) rfl rfl rfl rfl ?_ ?_
      · refine vo_buildSlice rfl rfl rfl (by decide) (by repeat' (first | exact trivial | rfl | refine ⟨?_, ?_⟩)) (by decide) rfl ?_
        intro b1
        refine ⟨.inr (sei _ _ _), ?_⟩
        exact va_ext ((hG _ _ _ _).1 (s1301 b1 b2 s2 g5)) rfl (by (repeat' (first | exact Sub.nil _ | refine Sub.cons rfl rfl ?_ | refine Sub.cons rfl ?_ ?_))) (sei _ _ _)
      · refine vo_alloc rfl ?_
        intro g4
        refine ⟨.inr (sei _ _ _), ?_⟩
        exact va_ext ((hG _ _ _ _).1 (s0311 b2 s2 g4 g5)) rfl (by (repeat' (first | exact Sub.nil _ | refine Sub.cons rfl rfl ?_ | refine Sub.cons rfl ?_ ?_))) (sei _ _ _))
    have s0310 : ∀ b2 s2 g4 : Nat, G 8 [true, false, false, false, false, true, true, true, true, false, true, false, false, false] [(15, .slice (some ⟨g1, 0, none⟩) 32 32), (20, .slice (some ⟨g2, 0, none⟩) 32 32), (23, .slice (some ⟨s2, 0, none⟩) 2 2), (4, .pointer (some ⟨g4, 0, none⟩)), (1, .pointer (some ⟨g1, 0, none⟩)), (2, .pointer (some ⟨g2, 0, none⟩)), (3, .pointer (some ⟨g3, 0, none⟩))] (rd (some ⟨b2, 0, none⟩) [.int .u8 97] :: own 32 1 (some ⟨s2, 0, none⟩) 2 2 [.slice (some ⟨g2, 0, none⟩) 32 32, .slice (some ⟨b2, 0, none⟩) 1 1] :: blk g4 25 (bvs (List.replicate 32 0)) :: blk g3 25 (bvs S) :: blk g2 25 (bvs K2) :: blk g1 25 (bvs K1) :: []) := fun b2 s2 g4 => (hG _ _ _ _).2 (by
      refine va_two 1 11 (by kernel_rfl) rfl rfl rfl rfl ?_ ?_
      · refine vo_buildSlice rfl rfl rfl (by decide) (by repeat' (first | exact trivial | rfl | refine ⟨?_, ?_⟩)) (by decide) rfl ?_
        intro b1
        refine ⟨.inr (sei _ _ _), ?_⟩
        exact va_ext ((hG _ _ _ _).1 (s1310 b1 b2 s2 g4)) rfl (by (repeat' (first | exact Sub.nil _ | refine Sub.cons rfl rfl ?_ | refine Sub.cons rfl ?_ ?_))) (sei _ _ _)
      · refine vo_alloc rfl ?_
        intro g5
        refine ⟨.inr (sei _ _ _), ?_⟩
        exact va_ext ((hG _ _ _ _).1 (s0311 b2 s2 g4 g5)) rfl (by (repeat' (first | exact Sub.nil _ | refine Sub.cons rfl rfl ?_ | refine Sub.cons rfl ?_ ?_))) (sei _ _ _))
    have s1111 : ∀ b1 b2 g4 g5 : Nat, G 8 [true, true, false, false, false, true, true, false, false, false, true, true, false, false] [(15, .slice (some ⟨g1, 0, none⟩) 32 32), (20, .slice (some ⟨g2, 0, none⟩) 32 32), (16, .slice (some ⟨b1, 0, none⟩) 1 1), (21, .slice (some ⟨b2, 0, none⟩) 1 1), (4, .pointer (some ⟨g4, 0, none⟩)), (5, .pointer (some ⟨g5, 0, none⟩)), (1, .pointer (some ⟨g1, 0, none⟩)), (2, .pointer (some ⟨g2, 0, none⟩)), (3, .pointer (some ⟨g3, 0, none⟩))] (own 5 1 (some ⟨b1, 0, none⟩) 1 1 [.int .u8 97] :: own 5 1 (some ⟨b2, 0, none⟩) 1 1 [.int .u8 97] :: blk g4 25 (bvs (List.replicate 32 0)) :: blk g5 25 (bvs (List.replicate 32 0)) :: blk g3 25 (bvs S) :: blk g2 25 (bvs K2) :: blk g1 25 (bvs K1) :: []) := fun b1 b2 g4 g5 => (hG _ _ _ _).2 (by
      refine va_two 2 7 (by kernel_rfl) rfl rfl rfl rfl ?_ ?_
      · refine vo_convRow rfl rfl ?_
        refine ⟨.inr (sei _ _ _), ?_⟩
        exact va_ext ((hG _ _ _ _).1 (s2111 b1 b2 g4 g5)) rfl (by (repeat' (first | exact Sub.nil _ | refine Sub.cons rfl rfl ?_ | refine Sub.cons rfl ?_ ?_))) (sei _ _ _)
      · refine vo_convRow rfl rfl ?_
        refine ⟨.inr (sei _ _ _), ?_⟩
        exact va_ext ((hG _ _ _ _).1 (s1211 b1 b2 g4 g5)) rfl (by (repeat' (first | exact Sub.nil _ | refine Sub.cons rfl rfl ?_ | refine Sub.cons rfl ?_ ?_))) (sei _ _ _))
    have s1201 : ∀ b1 b2 g5 : Nat, G 8 [true, true, false, false, false, true, true, true, false, false, false, true, false, false] [(15, .slice (some ⟨g1, 0, none⟩) 32 32), (20, .slice (some ⟨g2, 0, none⟩) 32 32), (16, .slice (some ⟨b1, 0, none⟩) 1 1), (22, .slice (some ⟨b2, 0, none⟩) 1 1), (5, .pointer (some ⟨g5, 0, none⟩)), (1, .pointer (some ⟨g1, 0, none⟩)), (2, .pointer (some ⟨g2, 0, none⟩)), (3, .pointer (some ⟨g3, 0, none⟩))] (own 5 1 (some ⟨b1, 0, none⟩) 1 1 [.int .u8 97] :: rd (some ⟨b2, 0, none⟩) [.int .u8 97] :: blk g5 25 (bvs (List.replicate 32 0)) :: blk g3 25 (bvs S) :: blk g2 25 (bvs K2) :: blk g1 25 (bvs K1) :: []) := fun b1 b2 g5 => (hG _ _ _ _).2 (by
      refine va_three 2 8 10 (by kernel_rfl) rfl rfl rfl rfl rfl rfl ?_ ?_ ?_
      · refine vo_convRow rfl rfl ?_
        refine ⟨.inr (sei _ _ _), ?_⟩
        exact va_ext ((hG _ _ _ _).1 (s2201 b1 b2 g5)) rfl (by (repeat' (first | exact Sub.nil _ | refine Sub.cons rfl rfl ?_ | refine Sub.cons rfl ?_ ?_))) (sei _ _ _)
      · refine vo_buildSlice rfl rfl rfl (by decide) (by repeat' (first | exact trivial | rfl | refine ⟨?_, ?_⟩)) (by decide) rfl ?_
        intro s2
        refine ⟨.inr (sei _ _ _), ?_⟩
        exact va_ext ((hG _ _ _ _).1 (s1301 b1 b2 s2 g5)) rfl (by (repeat' (first | exact Sub.nil _ | refine Sub.cons rfl rfl ?_ | refine Sub.cons rfl ?_ ?_))) (sei _ _ _)
      · refine vo_alloc rfl ?_
        intro g4
        refine ⟨.inr (sei _ _ _), ?_⟩
        exact va_ext ((hG _ _ _ _).1 (s1211 b1 b2 g4 g5)) rfl (by (repeat' (first | exact Sub.nil _ | refine Sub.cons rfl rfl ?_ | refine Sub.cons rfl ?_ ?_))) (sei _ _ _))
    have s1210 : ∀ b1 b2 g4 : Nat, G 8 [true, true, false, false, false, true, true, true, false, false, true, false, false, false] [(15, .slice (some ⟨g1, 0, none⟩) 32 32), (20, .slice (some ⟨g2, 0, none⟩) 32 32), (16, .slice (some ⟨b1, 0, none⟩) 1 1), (22, .slice (some ⟨b2, 0, none⟩) 1 1), (4, .pointer (some ⟨g4, 0, none⟩)), (1, .pointer (some ⟨g1, 0, none⟩)), (2, .pointer (some ⟨g2, 0, none⟩)), (3, .pointer (some ⟨g3, 0, none⟩))] (own 5 1 (some ⟨b1, 0, none⟩) 1 1 [.int .u8 97] :: rd (some ⟨b2, 0, none⟩) [.int .u8 97] :: blk g4 25 (bvs (List.replicate 32 0)) :: blk g3 25 (bvs S) :: blk g2 25 (bvs K2) :: blk g1 25 (bvs K1) :: []) := fun b1 b2 g4 => (hG _ _ _ _).2 (by
      refine va_three 2 8 11 (by kernel_rfl) rfl rfl rfl rfl rfl rfl ?_ ?_ ?_
      · refine vo_convRow rfl rfl ?_
        refine ⟨.inr (sei _ _ _), ?_⟩
        exact va_ext ((hG _ _ _ _).1 (s2210 b1 b2 g4)) rfl (by (repeat' (first | exact Sub.nil _ | refine Sub.cons rfl rfl ?_ | refine Sub.cons rfl ?_ ?_))) (sei _ _ _)
      · refine vo_buildSlice rfl rfl rfl (by decide) (by repeat' (first | exact trivial | rfl | refine ⟨?_, ?_⟩)) (by decide) rfl ?_
        intro s2
        refine ⟨.inr (sei _ _ _), ?_⟩
        exact va_ext ((hG _ _ _ _).1 (s1310 b1 b2 s2 g4)) rfl (by (repeat' (first | exact Sub.nil _ | refine Sub.cons rfl rfl ?_ | refine Sub.cons rfl ?_ ?_))) (sei _ _ _)
      · refine vo_alloc rfl ?_
        intro g5
        refine ⟨.inr (sei _ _ _), ?_⟩
        exact va_ext ((hG _ _ _ _).1 (s1211 b1 b2 g4 g5)) rfl (by (repeat' (first | exact Sub.nil _ | refine Sub.cons rfl rfl ?_ | refine Sub.cons rfl ?_ ?_))) (sei _ _ _))
    have s1300 : ∀ b1 b2 s2 : Nat, G 8 [true, true, false, false, false, true, true, true, true, false, false, false, false, false] [(15, .slice (some ⟨g1, 0, none⟩) 32 32), (20, .slice (some ⟨g2, 0, none⟩) 32 32), (16, .slice (some ⟨b1, 0, none⟩) 1 1), (23, .slice (some ⟨s2, 0, none⟩) 2 2), (1, .pointer (some ⟨g1, 0, none⟩)), (2, .pointer (some ⟨g2, 0, none⟩)), (3, .pointer (some ⟨g3, 0, none⟩))] (own 5 1 (some ⟨b1, 0, none⟩) 1 1 [.int .u8 97] :: rd (some ⟨b2, 0, none⟩) [.int .u8 97] :: own 32 1 (some ⟨s2, 0, none⟩) 2 2 [.slice (some ⟨g2, 0, none⟩) 32 32, .slice (some ⟨b2, 0, none⟩) 1 1] :: blk g3 25 (bvs S) :: blk g2 25 (bvs K2) :: blk g1 25 (bvs K1) :: []) := fun b1 b2 s2 => (hG _ _ _ _).2 (by
      refine va_three 2 10 11 (by kernel_rfl) rfl rfl rfl rfl rfl rfl ?_ ?_ ?_
      · refine vo_convRow rfl rfl ?_
        refine ⟨.inr (sei _ _ _), ?_⟩
        exact va_ext ((hG _ _ _ _).1 (s2300 b1 b2 s2)) rfl (by (repeat' (first | exact Sub.nil _ | refine Sub.cons rfl rfl ?_ | refine Sub.cons rfl ?_ ?_))) (sei _ _ _)
      · refine vo_alloc rfl ?_
        intro g4
        refine ⟨.inr (sei _ _ _), ?_⟩
        exact va_ext ((hG _ _ _ _).1 (s1310 b1 b2 s2 g4)) rfl (by (repeat' (first | exact Sub.nil _ | refine Sub.cons rfl rfl ?_ | refine Sub.cons rfl ?_ ?_))) (sei _ _ _)
      · refine vo_alloc rfl ?_
        intro g5
        refine ⟨.inr (sei _ _ _), ?_⟩
        exact va_ext ((hG _ _ _ _).1 (s1301 b1 b2 s2 g5)) rfl (by (repeat' (first | exact Sub.nil _ | refine Sub.cons rfl rfl ?_ | refine Sub.cons rfl ?_ ?_))) (sei _ _ _))
    have s2011 : ∀ b1 g4 g5 : Nat, G 8 [true, true, true, false, false, true, false, false, false, false, true, true, false, false] [(15, .slice (some ⟨g1, 0, none⟩) 32 32), (20, .slice (some ⟨g2, 0, none⟩) 32 32), (17, .slice (some ⟨b1, 0, none⟩) 1 1), (4, .pointer (some ⟨g4, 0, none⟩)), (5, .pointer (some ⟨g5, 0, none⟩)), (1, .pointer (some ⟨g1, 0, none⟩)), (2, .pointer (some ⟨g2, 0, none⟩)), (3, .pointer (some ⟨g3, 0, none⟩))] (rd (some ⟨b1, 0, none⟩) [.int .u8 97] :: blk g4 25 (bvs (List.replicate 32 0)) :: blk g5 25 (bvs (List.replicate 32 0)) :: blk g3 25 (bvs S) :: blk g2 25 (bvs K2) :: blk g1 25 (bvs K1) :: []) := fun b1 g4 g5 => (hG _ _ _ _).2 (by
      refine va_two 3 6 (by kernel_rfl) rfl rfl rfl rfl ?_ ?_
      · refine vo_buildSlice rfl rfl rfl (by decide) (by repeat' (first | exact trivial | rfl | refine ⟨?_, ?_⟩)) (by decide) rfl ?_
        intro s1
        refine ⟨.inr (sei _ _ _), ?_⟩
        exact va_ext ((hG _ _ _ _).1 (s3011 b1 s1 g4 g5)) rfl (by (repeat' (first | exact Sub.nil _ | refine Sub.cons rfl rfl ?_ | refine Sub.cons rfl ?_ ?_))) (sei _ _ _)
      · refine vo_buildSlice rfl rfl rfl (by decide) (by repeat' (first | exact trivial | rfl | refine ⟨?_, ?_⟩)) (by decide) rfl ?_
        intro b2
        refine ⟨.inr (sei _ _ _), ?_⟩
        exact va_ext ((hG _ _ _ _).1 (s2111 b1 b2 g4 g5)) rfl (by (repeat' (first | exact Sub.nil _ | refine Sub.cons rfl rfl ?_ | refine Sub.cons rfl ?_ ?_))) (sei _ _ _))
    have s2101 : ∀ b1 b2 g5 : Nat, G 8 [true, true, true, false, false, true, true, false, false, false, false, true, false, false] [(15, .slice (some ⟨g1, 0, none⟩) 32 32), (20, .slice (some ⟨g2, 0, none⟩) 32 32), (17, .slice (some ⟨b1, 0, none⟩) 1 1), (21, .slice (some ⟨b2, 0, none⟩) 1 1), (5, .pointer (some ⟨g5, 0, none⟩)), (1, .pointer (some ⟨g1, 0, none⟩)), (2, .pointer (some ⟨g2, 0, none⟩)), (3, .pointer (some ⟨g3, 0, none⟩))] (rd (some ⟨b1, 0, none⟩) [.int .u8 97] :: own 5 1 (some ⟨b2, 0, none⟩) 1 1 [.int .u8 97] :: blk g5 25 (bvs (List.replicate 32 0)) :: blk g3 25 (bvs S) :: blk g2 25 (bvs K2) :: blk g1 25 (bvs K1) :: []) := fun b1 b2 g5 => (hG _ _ _ _).2 (by
      refine va_three 3 7 10 (by kernel_rfl) rfl rfl rfl rfl rfl rfl ?_ ?_ ?_
      · refine vo_buildSlice rfl rfl rfl (by decide) (by repeat' (first | exact trivial | rfl | refine ⟨?_, ?_⟩)) (by decide) rfl ?_
        intro s1
        refine ⟨.inr (sei _ _ _), ?_⟩
        exact va_ext ((hG _ _ _ _).1 (s3101 b1 s1 b2 g5)) rfl (by (repeat' (first | exact Sub.nil _ | refine Sub.cons rfl rfl ?_ | refine Sub.cons rfl ?_ ?_))) (sei _ _ _)
      · refine vo_convRow rfl rfl ?_
        refine ⟨.inr (sei _ _ _), ?_⟩
        exact va_ext ((hG _ _ _ _).1 (s2201 b1 b2 g5)) rfl (by (repeat' (first | exact Sub.nil _ | refine Sub.cons rfl rfl ?_ | refine Sub.cons rfl ?_ ?_))) (sei _ _ _)
      · refine vo_alloc rfl ?_
        intro g4
        refine ⟨.inr (sei _ _ _), ?_⟩
        exact va_ext ((hG _ _ _ _).1 (s2111 b1 b2 g4 g5)) rfl (by (repeat' (first | exact Sub.nil _ | refine Sub.cons rfl rfl ?_ | refine Sub.cons rfl ?_ ?_))) (sei _ _ _))
    have s2110 : ∀ b1 b2 g4 : Nat, G 8 [true, true, true, false, false, true, true, false, false, false, true, false, false, false] [(15, .slice (some ⟨g1, 0, none⟩) 32 32), (20, .slice (some ⟨g2, 0, none⟩) 32 32), (17, .slice (some ⟨b1, 0, none⟩) 1 1), (21, .slice (some ⟨b2, 0, none⟩) 1 1), (4, .pointer (some ⟨g4, 0, none⟩)), (1, .pointer (some ⟨g1, 0, none⟩)), (2, .pointer (some ⟨g2, 0, none⟩)), (3, .pointer (some ⟨g3, 0, none⟩))] (rd (some ⟨b1, 0, none⟩) [.int .u8 97] :: own 5 1 (some ⟨b2, 0, none⟩) 1 1 [.int .u8 97] :: blk g4 25 (bvs (List.replicate 32 0)) :: blk g3 25 (bvs S) :: blk g2 25 (bvs K2) :: blk g1 25 (bvs K1) :: []) := fun b1 b2 g4 => (hG _ _ _ _).2 (by
      refine va_three 3 7 11 (by kernel_rfl) rfl rfl rfl rfl rfl rfl ?_ ?_ ?_
      · refine vo_buildSlice rfl rfl rfl (by decide) (by repeat' (first | exact trivial | rfl | refine ⟨?_, ?_⟩)) (by decide) rfl ?_
        intro s1
        refine ⟨.inr (sei _ _ _), ?_⟩
        exact va_ext ((hG _ _ _ _).1 (s3110 b1 s1 b2 g4)) rfl (by (repeat' (first | exact Sub.nil _ | refine Sub.cons rfl rfl ?_ | refine Sub.cons rfl ?_ ?_))) (sei _ _ _)
      · refine vo_convRow rfl rfl ?_
        refine ⟨.inr (sei _ _ _), ?_⟩
        exact va_ext ((hG _ _ _ _).1 (s2210 b1 b2 g4)) rfl (by (repeat' (first | exact Sub.nil _ | refine Sub.cons rfl rfl ?_ | refine Sub.cons rfl ?_ ?_))) (sei _ _ _)
      · refine vo_alloc rfl ?_
        intro g5
        refine ⟨.inr (sei _ _ _), ?_⟩
        exact va_ext ((hG _ _ _ _).1 (s2111 b1 b2 g4 g5)) rfl (by (repeat' (first | exact Sub.nil _ | refine Sub.cons rfl rfl ?_ | refine Sub.cons rfl ?_ ?_))) (sei _ _ _))
    have s2200 : ∀ b1 b2 : Nat, G 8 [true, true, true, false, false, true, true, true, false, false, false, false, false, false] [(15, .slice (some ⟨g1, 0, none⟩) 32 32), (20, .slice (some ⟨g2, 0, none⟩) 32 32), (17, .slice (some ⟨b1, 0, none⟩) 1 1), (22, .slice (some ⟨b2, 0, none⟩) 1 1), (1, .pointer (some ⟨g1, 0, none⟩)), (2, .pointer (some ⟨g2, 0, none⟩)), (3, .pointer (some ⟨g3, 0, none⟩))] (rd (some ⟨b1, 0, none⟩) [.int .u8 97] :: rd (some ⟨b2, 0, none⟩) [.int .u8 97] :: blk g3 25 (bvs S) :: blk g2 25 (bvs K2) :: blk g1 25 (bvs K1) :: []) := fun b1 b2 => (hG _ _ _ _).2 (by
      refine va_four 3 8 10 11 (by kernel_rfl) rfl rfl rfl rfl rfl rfl rfl rfl ?_ ?_ ?_ ?_
      · refine vo_buildSlice rfl rfl rfl (by decide) (by repeat' (first | exact trivial | rfl | refine ⟨?_, ?_⟩)) (by decide) rfl ?_
        intro s1
        refine ⟨.inr (sei _ _ _), ?_⟩
        exact va_ext ((hG _ _ _ _).1 (s3200 b1 s1 b2)) rfl (by (repeat' (first | exact Sub.nil _ | refine Sub.cons rfl rfl ?_ | refine Sub.cons rfl ?_ ?_))) (sei _ _ _)
      · refine vo_buildSlice rfl rfl rfl (by decide) (by repeat' (first | exact trivial | rfl | refine ⟨?_, ?_⟩)) (by decide) rfl ?_
        intro s2
        refine ⟨.inr (sei _ _ _), ?_⟩
        exact va_ext ((hG _ _ _ _).1 (s2300 b1 b2 s2)) rfl (by (repeat' (first | exact Sub.nil _ | refine Sub.cons rfl rfl ?_ | refine Sub.cons rfl ?_ ?_))) (sei _ _ _)
      · refine vo_alloc rfl ?_
        intro g4
        refine ⟨.inr (sei _ _ _), ?_⟩
        exact va_ext ((hG _ _ _ _).1 (s2210 b1 b2 g4)) rfl (by (repeat' (first | exact Sub.nil _ | refine Sub.cons rfl rfl ?_ | refine Sub.cons rfl ?_ ?_))) (sei _ _ _)
      · refine vo_alloc rfl ?_
        intro g5
        refine ⟨.inr (sei _ _ _), ?_⟩
        exact va_ext ((hG _ _ _ _).1 (s2201 b1 b2 g5)) rfl (by (repeat' (first | exact Sub.nil _ | refine Sub.cons rfl rfl ?_ | refine Sub.cons rfl ?_ ?_))) (sei _ _ _))
    have s3001 : ∀ b1 s1 g5 : Nat, G 8 [true, true, true, true, false, true, false, false, false, false, false, true, false, false] [(15, .slice (some ⟨g1, 0, none⟩) 32 32), (20, .slice (some ⟨g2, 0, none⟩) 32 32), (18, .slice (some ⟨s1, 0, none⟩) 2 2), (5, .pointer (some ⟨g5, 0, none⟩)), (1, .pointer (some ⟨g1, 0, none⟩)), (2, .pointer (some ⟨g2, 0, none⟩)), (3, .pointer (some ⟨g3, 0, none⟩))] (rd (some ⟨b1, 0, none⟩) [.int .u8 97] :: own 32 1 (some ⟨s1, 0, none⟩) 2 2 [.slice (some ⟨g1, 0, none⟩) 32 32, .slice (some ⟨b1, 0, none⟩) 1 1] :: blk g5 25 (bvs (List.replicate 32 0)) :: blk g3 25 (bvs S) :: blk g2 25 (bvs K2) :: blk g1 25 (bvs K1) :: []) := fun b1 s1 g5 => (hG _ _ _ _).2 (by
      refine va_three 4 6 10 (by kernel_rfl) rfl rfl rfl rfl rfl rfl ?_ ?_ ?_
      · refine vo_call rfl rfl ?_
        refine vc_mono (tof2_vc (h2 := (inferInstance : RdC w0 _ (some ⟨b1, 0, none⟩) [.int .u8 97])) w0 _ 1 (by decide) s1 (some ⟨g1, 0, none⟩) 32 K1 (some ⟨b1, 0, none⟩) 1 [97] hk1.symm rfl hB1) ?_
        rintro v L' ⟨rfl, rfl⟩
        rw [← hD1]
        refine ⟨.inr (sei _ _ _), ?_⟩
        exact va_ext ((hG _ _ _ _).1 (s4001 g5)) rfl (by (repeat' (first | exact Sub.nil _ | refine Sub.cons rfl rfl ?_ | refine Sub.cons rfl ?_ ?_))) (sei _ _ _)
      · refine vo_buildSlice rfl rfl rfl (by decide) (by repeat' (first | exact trivial | rfl | refine ⟨?_, ?_⟩)) (by decide) rfl ?_
        intro b2
        refine ⟨.inr (sei _ _ _), ?_⟩
        exact va_ext ((hG _ _ _ _).1 (s3101 b1 s1 b2 g5)) rfl (by (repeat' (first | exact Sub.nil _ | refine Sub.cons rfl rfl ?_ | refine Sub.cons rfl ?_ ?_))) (sei _ _ _)
      · refine vo_alloc rfl ?_
        intro g4
        refine ⟨.inr (sei _ _ _), ?_⟩
        exact va_ext ((hG _ _ _ _).1 (s3011 b1 s1 g4 g5)) rfl (by (repeat' (first | exact Sub.nil _ | refine Sub.cons rfl rfl ?_ | refine Sub.cons rfl ?_ ?_))) (sei _ _ _))
    have s3010 : ∀ b1 s1 g4 : Nat, G 8 [true, true, true, true, false, true, false, false, false, false, true, false, false, false] [(15, .slice (some ⟨g1, 0, none⟩) 32 32), (20, .slice (some ⟨g2, 0, none⟩) 32 32), (18, .slice (some ⟨s1, 0, none⟩) 2 2), (4, .pointer (some ⟨g4, 0, none⟩)), (1, .pointer (some ⟨g1, 0, none⟩)), (2, .pointer (some ⟨g2, 0, none⟩)), (3, .pointer (some ⟨g3, 0, none⟩))] (rd (some ⟨b1, 0, none⟩) [.int .u8 97] :: own 32 1 (some ⟨s1, 0, none⟩) 2 2 [.slice (some ⟨g1, 0, none⟩) 32 32, .slice (some ⟨b1, 0, none⟩) 1 1] :: blk g4 25 (bvs (List.replicate 32 0)) :: blk g3 25 (bvs S) :: blk g2 25 (bvs K2) :: blk g1 25 (bvs K1) :: []) := fun b1 s1 g4 => (hG _ _ _ _).2 (by
      refine va_three 4 6 11 (by kernel_rfl) rfl rfl rfl rfl rfl rfl ?_ ?_ ?_
      · refine vo_call rfl rfl ?_
        refine vc_mono (tof2_vc (h2 := (inferInstance : RdC w0 _ (some ⟨b1, 0, none⟩) [.int .u8 97])) w0 _ 1 (by decide) s1 (some ⟨g1, 0, none⟩) 32 K1 (some ⟨b1, 0, none⟩) 1 [97] hk1.symm rfl hB1) ?_
        rintro v L' ⟨rfl, rfl⟩
        rw [← hD1]
        refine ⟨.inr (sei _ _ _), ?_⟩
        exact va_ext ((hG _ _ _ _).1 (s4010 g4)) rfl (by (repeat' (first | exact Sub.nil _ | refine Sub.cons rfl rfl ?_ | refine Sub.cons rfl ?_ ?_))) (sei _ _ _)
      · refine vo_buildSlice rfl rfl rfl (by decide) (by repeat' (first | exact trivial | rfl | refine ⟨?_, ?_⟩)) (by decide) rfl ?_
        intro b2
        refine ⟨.inr (sei _ _ _), ?_⟩
        exact va_ext ((hG _ _ _ _).1 (s3110 b1 s1 b2 g4)) rfl (by (repeat' (first | exact Sub.nil _ | refine Sub.cons rfl rfl ?_ | refine Sub.cons rfl ?_ ?_))) (sei _ _ _)
      · refine vo_alloc rfl ?_
        intro g5
        refine ⟨.inr (sei _ _ _), ?_⟩
        exact va_ext ((hG _ _ _ _).1 (s3011 b1 s1 g4 g5)) rfl (by (repeat' (first | exact Sub.nil _ | refine Sub.cons rfl rfl ?_ | refine Sub.cons rfl ?_ ?_))) (sei _ _ _))
    have s3100 : ∀ b1 s1 b2 : Nat, G 8 [true, true, true, true, false, true, true, false, false, false, false, false, false, false] [(15, .slice (some ⟨g1, 0, none⟩) 32 32), (20, .slice (some ⟨g2, 0, none⟩) 32 32), (18, .slice (some ⟨s1, 0, none⟩) 2 2), (21, .slice (some ⟨b2, 0, none⟩) 1 1), (1, .pointer (some ⟨g1, 0, none⟩)), (2, .pointer (some ⟨g2, 0, none⟩)), (3, .pointer (some ⟨g3, 0, none⟩))] (rd (some ⟨b1, 0, none⟩) [.int .u8 97] :: own 32 1 (some ⟨s1, 0, none⟩) 2 2 [.slice (some ⟨g1, 0, none⟩) 32 32, .slice (some ⟨b1, 0, none⟩) 1 1] :: own 5 1 (some ⟨b2, 0, none⟩) 1 1 [.int .u8 97] :: blk g3 25 (bvs S) :: blk g2 25 (bvs K2) :: blk g1 25 (bvs K1) :: []) := fun b1 s1 b2 => (hG _ _ _ _).2 (by
      refine va_four 4 7 10 11 (by kernel_rfl) rfl rfl rfl rfl rfl rfl rfl rfl ?_ ?_ ?_ ?_
      · refine vo_call rfl rfl ?_
        refine vc_mono (tof2_vc (h2 := (inferInstance : RdC w0 _ (some ⟨b1, 0, none⟩) [.int .u8 97])) w0 _ 1 (by decide) s1 (some ⟨g1, 0, none⟩) 32 K1 (some ⟨b1, 0, none⟩) 1 [97] hk1.symm rfl hB1) ?_
        rintro v L' ⟨rfl, rfl⟩
        rw [← hD1]
        refine ⟨.inr (sei _ _ _), ?_⟩
        exact va_ext ((hG _ _ _ _).1 (s4100 b2)) rfl (by (repeat' (first | exact Sub.nil _ | refine Sub.cons rfl rfl ?_ | refine Sub.cons rfl ?_ ?_))) (sei _ _ _)
      · refine vo_convRow rfl rfl ?_
        refine ⟨.inr (sei _ _ _), ?_⟩
        exact va_ext ((hG _ _ _ _).1 (s3200 b1 s1 b2)) rfl (by (repeat' (first | exact Sub.nil _ | refine Sub.cons rfl rfl ?_ | refine Sub.cons rfl ?_ ?_))) (sei _ _ _)
      · refine vo_alloc rfl ?_
        intro g4
        refine ⟨.inr (sei _ _ _), ?_⟩
        exact va_ext ((hG _ _ _ _).1 (s3110 b1 s1 b2 g4)) rfl (by (repeat' (first | exact Sub.nil _ | refine Sub.cons rfl rfl ?_ | refine Sub.cons rfl ?_ ?_))) (sei _ _ _)
      · refine vo_alloc rfl ?_
        intro g5
        refine ⟨.inr (sei _ _ _), ?_⟩
        exact va_ext ((hG _ _ _ _).1 (s3101 b1 s1 b2 g5)) rfl (by (repeat' (first | exact Sub.nil _ | refine Sub.cons rfl rfl ?_ | refine Sub.cons rfl ?_ ?_))) (sei _ _ _))
    have s4000 : G 8 [true, true, true, true, true, true, false, false, false, false, false, false, false, false] [(15, .slice (some ⟨g1, 0, none⟩) 32 32), (20, .slice (some ⟨g2, 0, none⟩) 32 32), (19, .agg (bvs D1).toArray), (1, .pointer (some ⟨g1, 0, none⟩)), (2, .pointer (some ⟨g2, 0, none⟩)), (3, .pointer (some ⟨g3, 0, none⟩))] (blk g3 25 (bvs S) :: blk g2 25 (bvs K2) :: blk g1 25 (bvs K1) :: []) := (hG _ _ _ _).2 (by
      refine va_three 6 10 11 (by kernel_rfl) rfl rfl rfl rfl rfl rfl ?_ ?_ ?_
      · refine vo_buildSlice rfl rfl rfl (by decide) (by repeat' (first | exact trivial | rfl | refine ⟨?_, ?_⟩)) (by decide) rfl ?_
        intro b2
        refine ⟨.inr (sei _ _ _), ?_⟩
        exact va_ext ((hG _ _ _ _).1 (s4100 b2)) rfl (by (repeat' (first | exact Sub.nil _ | refine Sub.cons rfl rfl ?_ | refine Sub.cons rfl ?_ ?_))) (sei _ _ _)
      · refine vo_alloc rfl ?_
        intro g4
        refine ⟨.inr (sei _ _ _), ?_⟩
        exact va_ext ((hG _ _ _ _).1 (s4010 g4)) rfl (by (repeat' (first | exact Sub.nil _ | refine Sub.cons rfl rfl ?_ | refine Sub.cons rfl ?_ ?_))) (sei _ _ _)
      · refine vo_alloc rfl ?_
        intro g5
        refine ⟨.inr (sei _ _ _), ?_⟩
        exact va_ext ((hG _ _ _ _).1 (s4001 g5)) rfl (by (repeat' (first | exact Sub.nil _ | refine Sub.cons rfl rfl ?_ | refine Sub.cons rfl ?_ ?_))) (sei _ _ _))
    have s0111 : ∀ b2 g4 g5 : Nat, G 9 [true, false, false, false, false, true, true, false, false, false, true, true, false, false] [(15, .slice (some ⟨g1, 0, none⟩) 32 32), (20, .slice (some ⟨g2, 0, none⟩) 32 32), (21, .slice (some ⟨b2, 0, none⟩) 1 1), (4, .pointer (some ⟨g4, 0, none⟩)), (5, .pointer (some ⟨g5, 0, none⟩)), (1, .pointer (some ⟨g1, 0, none⟩)), (2, .pointer (some ⟨g2, 0, none⟩)), (3, .pointer (some ⟨g3, 0, none⟩))] (own 5 1 (some ⟨b2, 0, none⟩) 1 1 [.int .u8 97] :: blk g4 25 (bvs (List.replicate 32 0)) :: blk g5 25 (bvs (List.replicate 32 0)) :: blk g3 25 (bvs S) :: blk g2 25 (bvs K2) :: blk g1 25 (bvs K1) :: []) := fun b2 g4 g5 => (hG _ _ _ _).2 (by
      refine va_two 1 7 (by kernel_rfl) rfl rfl rfl rfl ?_ ?_
      · refine vo_buildSlice rfl rfl rfl (by decide) (by repeat' (first | exact trivial | rfl | refine ⟨?_, ?_⟩)) (by decide) rfl ?_
        intro b1
        refine ⟨.inr (sei _ _ _), ?_⟩
        exact va_ext ((hG _ _ _ _).1 (s1111 b1 b2 g4 g5)) rfl (by (repeat' (first | exact Sub.nil _ | refine Sub.cons rfl rfl ?_ | refine Sub.cons rfl ?_ ?_))) (sei _ _ _)
      · refine vo_convRow rfl rfl ?_
        refine ⟨.inr (sei _ _ _), ?_⟩
        exact va_ext ((hG _ _ _ _).1 (s0211 b2 g4 g5)) rfl (by (repeat' (first | exact Sub.nil _ | refine Sub.cons rfl rfl ?_ | refine Sub.cons rfl ?_ ?_))) (sei _ _ _))
    have s0201 : ∀ b2 g5 : Nat, G 9 [true, false, false, false, false, true, true, true, false, false, false, true, false, false] [(15, .slice (some ⟨g1, 0, none⟩) 32 32), (20, .slice (some ⟨g2, 0, none⟩) 32 32), (22, .slice (some ⟨b2, 0, none⟩) 1 1), (5, .pointer (some ⟨g5, 0, none⟩)), (1, .pointer (some ⟨g1, 0, none⟩)), (2, .pointer (some ⟨g2, 0, none⟩)), (3, .pointer (some ⟨g3, 0, none⟩))] (rd (some ⟨b2, 0, none⟩) [.int .u8 97] :: blk g5 25 (bvs (List.replicate 32 0)) :: blk g3 25 (bvs S) :: blk g2 25 (bvs K2) :: blk g1 25 (bvs K1) :: []) := fun b2 g5 => (hG _ _ _ _).2 (by
      refine va_three 1 8 10 (by kernel_rfl) rfl rfl rfl rfl rfl rfl ?_ ?_ ?_
      · refine vo_buildSlice rfl rfl rfl (by decide) (by repeat' (first | exact trivial | rfl | refine ⟨?_, ?_⟩)) (by decide) rfl ?_
        intro b1
        refine ⟨.inr (sei _ _ _), ?_⟩
        exact va_ext ((hG _ _ _ _).1 (s1201 b1 b2 g5)) rfl (by (repeat' (first | exact Sub.nil _ | refine Sub.cons rfl rfl ?_ | refine Sub.cons rfl ?_ ?_))) (sei _ _ _)
      · refine vo_buildSlice rfl rfl rfl (by decide) (by repeat' (first | exact trivial | rfl | refine ⟨?_, ?_⟩)) (by decide) rfl ?_
        intro s2
        refine ⟨.inr (sei _ _ _), ?_⟩
        exact va_ext ((hG _ _ _ _).1 (s0301 b2 s2 g5)) rfl (by (repeat' (first | exact Sub.nil _ | refine Sub.cons rfl rfl ?_ | refine Sub.cons rfl ?_ ?_))) (sei _ _ _)
      · refine vo_alloc rfl ?_
        intro g4
        refine ⟨.inr (sei _ _ _), ?_⟩
        exact va_ext ((hG _ _ _ _).1 (s0211 b2 g4 g5)) rfl (by (repeat' (first | exact Sub.nil _ | refine Sub.cons rfl rfl ?_ | refine Sub.cons rfl ?_ ?_))) (sei _ _ _))
    have s0210 : ∀ b2 g4 : Nat, G 9 [true, false, false, false, false, true, true, true, false, false, true, false, false, false] [(15, .slice (some ⟨g1, 0, none⟩) 32 32), (20, .slice (some ⟨g2, 0, none⟩) 32 32), (22, .slice (some ⟨b2, 0, none⟩) 1 1), (4, .pointer (some ⟨g4, 0, none⟩)), (1, .pointer (some ⟨g1, 0, none⟩)), (2, .pointer (some ⟨g2, 0, none⟩)), (3, .pointer (some ⟨g3, 0, none⟩))] (rd (some ⟨b2, 0, none⟩) [.int .u8 97] :: blk g4 25 (bvs (List.replicate 32 0)) :: blk g3 25 (bvs S) :: blk g2 25 (bvs K2) :: blk g1 25 (bvs K1) :: []) := fun b2 g4 => (hG _ _ _ _).2 (by
      refine va_three 1 8 11 (by kernel_rfl) rfl rfl rfl rfl rfl rfl ?_ ?_ ?_
      · refine vo_buildSlice rfl rfl rfl (by decide) (by repeat' (first | exact trivial | rfl | refine ⟨?_, ?_⟩)) (by decide) rfl ?_
        intro b1
        refine ⟨.inr (sei _ _ _), ?_⟩
        exact va_ext ((hG _ _ _ _).1 (s1210 b1 b2 g4)) rfl (by (repeat' (first | exact Sub.nil _ | refine Sub.cons rfl rfl ?_ | refine Sub.cons rfl ?_ ?_))) (sei _ _ _)
      · refine vo_buildSlice rfl rfl rfl (by decide) (by repeat' (first | exact trivial | rfl | refine ⟨?_, ?_⟩)) (by decide) rfl ?_
        intro s2
        refine ⟨.inr (sei _ _ _), ?_⟩
        exact va_ext ((hG _ _ _ _).1 (s0310 b2 s2 g4)) rfl (by (repeat' (first | exact Sub.nil _ | refine Sub.cons rfl rfl ?_ | refine Sub.cons rfl ?_ ?_))) (sei _ _ _)
      · refine vo_alloc rfl ?_
        intro g5
        refine ⟨.inr (sei _ _ _), ?_⟩
        exact va_ext ((hG _ _ _ _).1 (s0211 b2 g4 g5)) rfl (by (repeat' (first | exact Sub.nil _ | refine Sub.cons rfl rfl ?_ | refine Sub.cons rfl ?_ ?_))) (sei _ _ _))
    have s0300 : ∀ b2 s2 : Nat, G 9 [true, false, false, false, false, true, true, true, true, false, false, false, false, false] [(15, .slice (some ⟨g1, 0, none⟩) 32 32), (20, .slice (some ⟨g2, 0, none⟩) 32 32), (23, .slice (some ⟨s2, 0, none⟩) 2 2), (1, .pointer (some ⟨g1, 0, none⟩)), (2, .pointer (some ⟨g2, 0, none⟩)), (3, .pointer (some ⟨g3, 0, none⟩))] (rd (some ⟨b2, 0, none⟩) [.int .u8 97] :: own 32 1 (some ⟨s2, 0, none⟩) 2 2 [.slice (some ⟨g2, 0, none⟩) 32 32, .slice (some ⟨b2, 0, none⟩) 1 1] :: blk g3 25 (bvs S) :: blk g2 25 (bvs K2) :: blk g1 25 (bvs K1) :: []) := fun b2 s2 => (hG _ _ _ _).2 (by
      refine va_three 1 10 11 (by kernel_rfl) rfl rfl rfl rfl rfl rfl ?_ ?_ ?_
      · refine vo_buildSlice rfl rfl rfl (by decide) (by repeat' (first | exact trivial | rfl | refine ⟨?_, ?_⟩)) (by decide) rfl ?_
        intro b1
        refine ⟨.inr (sei _ _ _), ?_⟩
        exact va_ext ((hG _ _ _ _).1 (s1300 b1 b2 s2)) rfl (by (repeat' (first | exact Sub.nil _ | refine Sub.cons rfl rfl ?_ | refine Sub.cons rfl ?_ ?_))) (sei _ _ _)
      · refine vo_alloc rfl ?_
        intro g4
        refine ⟨.inr (sei _ _ _), ?_⟩
        exact va_ext ((hG _ _ _ _).1 (s0310 b2 s2 g4)) rfl (by (repeat' (first | exact Sub.nil _ | refine Sub.cons rfl rfl ?_ | refine Sub.cons rfl ?_ ?_))) (sei _ _ _)
      · refine vo_alloc rfl ?_
        intro g5
        refine ⟨.inr (sei _ _ _), ?_⟩
        exact va_ext ((hG _ _ _ _).1 (s0301 b2 s2 g5)) rfl (by (repeat' (first | exact Sub.nil _ | refine Sub.cons rfl rfl ?_ | refine Sub.cons rfl ?_ ?_))) (sei _ _ _))
    have s1011 : ∀ b1 g4 g5 : Nat, G 9 [true, true, false, false, false, true, false, false, false, false, true, true, false, false] [(15, .slice (some ⟨g1, 0, none⟩) 32 32), (20, .slice (some ⟨g2, 0, none⟩) 32 32), (16, .slice (some ⟨b1, 0, none⟩) 1 1), (4, .pointer (some ⟨g4, 0, none⟩)), (5, .pointer (some ⟨g5, 0, none⟩)), (1, .pointer (some ⟨g1, 0, none⟩)), (2, .pointer (some ⟨g2, 0, none⟩)), (3, .pointer (some ⟨g3, 0, none⟩))] (own 5 1 (some ⟨b1, 0, none⟩) 1 1 [.int .u8 97] :: blk g4 25 (bvs (List.replicate 32 0)) :: blk g5 25 (bvs (List.replicate 32 0)) :: blk g3 25 (bvs S) :: blk g2 25 (bvs K2) :: blk g1 25 (bvs K1) :: []) := fun b1 g4 g5 => (hG _ _ _ _).2 (by
      refine va_two 2 6 (by kernel_rfl) rfl rfl rfl rfl ?_ ?_
      · refine vo_convRow rfl rfl ?_
        refine ⟨.inr (sei _ _ _), ?_⟩
        exact va_ext ((hG _ _ _ _).1 (s2011 b1 g4 g5)) rfl (by (repeat' (first | exact Sub.nil _ | refine Sub.cons rfl rfl ?_ | refine Sub.cons rfl ?_ ?_))) (sei _ _ _)
      · refine vo_buildSlice rfl rfl rfl (by decide) (by repeat' (first | exact trivial | rfl | refine ⟨?_, ?_⟩)) (by decide) rfl ?_
        intro b2
        refine ⟨.inr (sei _ _ _), ?_⟩
        exact va_ext ((hG _ _ _ _).1 (s1111 b1 b2 g4 g5)) rfl (by (repeat' (first | exact Sub.nil _ | refine Sub.cons rfl rfl ?_ | refine Sub.cons rfl ?_ ?_))) (sei _ _ _))
    have s1101 : ∀ b1 b2 g5 : Nat, G 9 [true, true, false, false, false, true, true, false, false, false, false, true, false, false] [(15, .slice (some ⟨g1, 0, none⟩) 32 32), (20, .slice (some ⟨g2, 0, none⟩) 32 32), (16, .slice (some ⟨b1, 0, none⟩) 1 1), (21, .slice (some ⟨b2, 0, none⟩) 1 1), (5, .pointer (some ⟨g5, 0, none⟩)), (1, .pointer (some ⟨g1, 0, none⟩)), (2, .pointer (some ⟨g2, 0, none⟩)), (3, .pointer (some ⟨g3, 0, none⟩))] (own 5 1 (some ⟨b1, 0, none⟩) 1 1 [.int .u8 97] :: own 5 1 (some ⟨b2, 0, none⟩) 1 1 [.int .u8 97] :: blk g5 25 (bvs (List.replicate 32 0)) :: blk g3 25 (bvs S) :: blk g2 25 (bvs K2) :: blk g1 25 (bvs K1) :: []) := fun b1 b2 g5 => (hG _ _ _ _).2 (by
      refine va_three 2 7 10 (by kernel_rfl) rfl rfl rfl rfl rfl rfl ?_ ?_ ?_
      · refine vo_convRow rfl rfl ?_
        refine ⟨.inr (sei _ _ _), ?_⟩
        exact va_ext ((hG _ _ _ _).1 (s2101 b1 b2 g5)) rfl (by (repeat' (first | exact Sub.nil _ | refine Sub.cons rfl rfl ?_ | refine Sub.cons rfl ?_ ?_))) (sei _ _ _)
      · refine vo_convRow rfl rfl ?_
        refine ⟨.inr (sei _ _ _), ?_⟩
        exact va_ext ((hG _ _ _ _).1 (s1201 b1 b2 g5)) rfl (by (repeat' (first | exact Sub.nil _ | refine Sub.cons rfl rfl ?_ | refine Sub.cons rfl ?_ ?_))) (sei _ _ _)
      · refine vo_alloc rfl ?_
        intro g4
        refine ⟨.inr (sei _ _ _), ?_⟩
        exact va_ext ((hG _ _ _ _).1 (s1111 b1 b2 g4 g5)) rfl (by (repeat' (first | exact Sub.nil _ | refine Sub.cons rfl rfl ?_ | refine Sub.cons rfl ?_ ?_))) (sei _ _ _))
    have s1110 : ∀ b1 b2 g4 : Nat, G 9 [true, true, false, false, false, true, true, false, false, false, true, false, false, false] [(15, .slice (some ⟨g1, 0, none⟩) 32 32), (20, .slice (some ⟨g2, 0, none⟩) 32 32), (16, .slice (some ⟨b1, 0, none⟩) 1 1), (21, .slice (some ⟨b2, 0, none⟩) 1 1), (4, .pointer (some ⟨g4, 0, none⟩)), (1, .pointer (some ⟨g1, 0, none⟩)), (2, .pointer (some ⟨g2, 0, none⟩)), (3, .pointer (some ⟨g3, 0, none⟩))] (own 5 1 (some ⟨b1, 0, none⟩) 1 1 [.int .u8 97] :: own 5 1 (some ⟨b2, 0, none⟩) 1 1 [.int .u8 97] :: blk g4 25 (bvs (List.replicate 32 0)) :: blk g3 25 (bvs S) :: blk g2 25 (bvs K2) :: blk g1 25 (bvs K1) :: []) := fun b1 b2 g4 => (hG _ _ _ _).2 (by
      refine va_three 2 7 11 (by kernel_rfl) rfl rfl rfl rfl rfl rfl ?_ ?_ ?_
      · refine vo_convRow rfl rfl ?_
        refine ⟨.inr (sei _ _ _), ?_⟩
        exact va_ext ((hG _ _ _ _).1 (s2110 b1 b2 g4)) rfl (by (repeat' (first | exact Sub.nil _ | refine Sub.cons rfl rfl ?_ | refine Sub.cons rfl ?_ ?_))) (sei _ _ _)
      · refine vo_convRow rfl rfl ?_
        refine ⟨.inr (sei _ _ _), ?_⟩
        exact va_ext ((hG _ _ _ _).1 (s1210 b1 b2 g4)) rfl (by (repeat' (first | exact Sub.nil _ | refine Sub.cons rfl rfl ?_ | refine Sub.cons rfl ?_ ?_))) (sei _ _ _)
      · refine vo_alloc rfl ?_
        intro g5
        refine ⟨.inr (sei _ _ _), ?_⟩
        exact va_ext ((hG _ _ _ _).1 (s1111 b1 b2 g4 g5)) rfl (by (repeat' (first | exact Sub.nil _ | refine Sub.cons rfl rfl ?_ | refine Sub.cons rfl ?_ ?_))) (sei _ _ _))
    have s1200 : ∀ b1 b2 : Nat, G 9 [true, true, false, false, false, true, true, true, false, false, false, false, false, false] [(15, .slice (some ⟨g1, 0, none⟩) 32 32), (20, .slice (some ⟨g2, 0, none⟩) 32 32), (16, .slice (some ⟨b1, 0, none⟩) 1 1), (22, .slice (some ⟨b2, 0, none⟩) 1 1), (1, .pointer (some ⟨g1, 0, none⟩)), (2, .pointer (some ⟨g2, 0, none⟩)), (3, .pointer (some ⟨g3, 0, none⟩))] (own 5 1 (some ⟨b1, 0, none⟩) 1 1 [.int .u8 97] :: rd (some ⟨b2, 0, none⟩) [.int .u8 97] :: blk g3 25 (bvs S) :: blk g2 25 (bvs K2) :: blk g1 25 (bvs K1) :: []) := fun b1 b2 => (hG _ _ _ _).2 (by
      refine va_four 2 8 10 11 (by kernel_rfl) rfl rfl rfl rfl rfl rfl rfl rfl ?_ ?_ ?_ ?_
      · refine vo_convRow rfl rfl ?_
        refine ⟨.inr (sei _ _ _), ?_⟩
        exact va_ext ((hG _ _ _ _).1 (s2200 b1 b2)) rfl (by (repeat' (first | exact Sub.nil _ | refine Sub.cons rfl rfl ?_ | refine Sub.cons rfl ?_ ?_))) (sei _ _ _)
      · refine vo_buildSlice rfl rfl rfl (by decide) (by repeat' (first | exact trivial | rfl | refine ⟨?_, ?_⟩)) (by decide) rfl ?_
        intro s2
        refine ⟨.inr (sei _ _ _), ?_⟩
        exact va_ext ((hG _ _ _ _).1 (s1300 b1 b2 s2)) rfl (by (repeat' (first | exact Sub.nil _ | refine Sub.cons rfl rfl ?_ | refine Sub.cons rfl ?_ ?_))) (sei _ _ _)
      · refine vo_alloc rfl ?_
        intro g4
        refine ⟨.inr (sei _ _ _), ?_⟩
        exact va_ext ((hG _ _ _ _).1 (s1210 b1 b2 g4)) rfl (by (repeat' (first | exact Sub.nil _ | refine Sub.cons rfl rfl ?_ | refine Sub.cons rfl ?_ ?_))) (sei _ _ _)
      · refine vo_alloc rfl ?_
        intro g5
        refine ⟨.inr (sei _ _ _), ?_⟩
        exact va_ext ((hG _ _ _ _).1 (s1201 b1 b2 g5)) rfl (by (repeat' (first | exact Sub.nil _ | refine Sub.cons rfl rfl ?_ | refine Sub.cons rfl ?_ ?_))) (sei _ _ _))
    have s2001 : ∀ b1 g5 : Nat, G 9 [true, true, true, false, false, true, false, false, false, false, false, true, false, false] [(15, .slice (some ⟨g1, 0, none⟩) 32 32), (20, .slice (some ⟨g2, 0, none⟩) 32 32), (17, .slice (some ⟨b1, 0, none⟩) 1 1), (5, .pointer (some ⟨g5, 0, none⟩)), (1, .pointer (some ⟨g1, 0, none⟩)), (2, .pointer (some ⟨g2, 0, none⟩)), (3, .pointer (some ⟨g3, 0, none⟩))] (rd (some ⟨b1, 0, none⟩) [.int .u8 97] :: blk g5 25 (bvs (List.replicate 32 0)) :: blk g3 25 (bvs S) :: blk g2 25 (bvs K2) :: blk g1 25 (bvs K1) :: []) := fun b1 g5 => (hG _ _ _ _).2 (by
      refine va_three 3 6 10 (by kernel_rfl) rfl rfl rfl rfl rfl rfl ?_ ?_ ?_
      · refine vo_buildSlice rfl rfl rfl (by decide) (by repeat' (first | exact trivial | rfl | refine ⟨?_, ?_⟩)) (by decide) rfl ?_
        intro s1
        refine ⟨.inr (sei _ _ _), ?_⟩
        exact va_ext ((hG _ _ _ _).1 (s3001 b1 s1 g5)) rfl (by (repeat' (first | exact Sub.nil _ | refine Sub.cons rfl rfl ?_ | refine Sub.cons rfl ?_ ?_))) (sei _ _ _)
      · refine vo_buildSlice rfl rfl rfl (by decide) (by repeat' (first | exact trivial | rfl | refine ⟨?_, ?_⟩)) (by decide) rfl ?_
        intro b2
        refine ⟨.inr (sei _ _ _), ?_⟩
        exact va_ext ((hG _ _ _ _).1 (s2101 b1 b2 g5)) rfl (by (repeat' (first | exact Sub.nil _ | refine Sub.cons rfl rfl ?_ | refine Sub.cons rfl ?_ ?_))) (sei _ _ _)
      · refine vo_alloc rfl ?_
        intro g4
        refine ⟨.inr (sei _ _ _), ?_⟩
        exact va_ext ((hG _ _ _ _).1 (s2011 b1 g4 g5)) rfl (by (repeat' (first | exact Sub.nil _ | refine Sub.cons rfl rfl ?_ | refine Sub.cons rfl ?_ ?_))) (sei _ _ _))
    have s2010 : ∀ b1 g4 : Nat, G 9 [true, true, true, false, false, true, false, false, false, false, true, false, false, false] [(15, .slice (some ⟨g1, 0, none⟩) 32 32), (20, .slice (some ⟨g2, 0, none⟩) 32 32), (17, .slice (some ⟨b1, 0, none⟩) 1 1), (4, .pointer (some ⟨g4, 0, none⟩)), (1, .pointer (some ⟨g1, 0, none⟩)), (2, .pointer (some ⟨g2, 0, none⟩)), (3, .pointer (some ⟨g3, 0, none⟩))] (rd (some ⟨b1, 0, none⟩) [.int .u8 97] :: blk g4 25 (bvs (List.replicate 32 0)) :: blk g3 25 (bvs S) :: blk g2 25 (bvs K2) :: blk g1 25 (bvs K1) :: []) := fun b1 g4 => (hG _ _ _ _).2 (by
      refine va_three 3 6 11 (by kernel_rfl) rfl rfl rfl rfl rfl rfl ?_ ?_ ?_
      · refine vo_buildSlice rfl rfl rfl (by decide) (by repeat' (first | exact trivial | rfl | refine ⟨?_, ?_⟩)) (by decide) rfl ?_
        intro s1
        refine ⟨.inr (sei _ _ _), ?_⟩
        exact va_ext ((hG _ _ _ _).1 (s3010 b1 s1 g4)) rfl (by (repeat' (first | exact Sub.nil _ | refine Sub.cons rfl rfl ?_ | refine Sub.cons rfl ?_ ?_))) (sei _ _ _)
      · refine vo_buildSlice rfl rfl rfl (by decide) (by repeat' (first | exact trivial | rfl | refine ⟨?_, ?_⟩)) (by decide) rfl ?_
        intro b2
        refine ⟨.inr (sei _ _ _), ?_⟩
        exact va_ext ((hG _ _ _ _).1 (s2110 b1 b2 g4)) rfl (by (repeat' (first | exact Sub.nil _ | refine Sub.cons rfl rfl ?_ | refine Sub.cons rfl ?_ ?_))) (sei _ _ _)
      · refine vo_alloc rfl ?_
        intro g5
        refine ⟨.inr (sei _ _ _), ?_⟩
        exact va_ext ((hG _ _ _ _).1 (s2011 b1 g4 g5)) rfl (by (repeat' (first | exact Sub.nil _ | refine Sub.cons rfl rfl ?_ | refine Sub.cons rfl ?_ ?_))) (sei _ _ _))
    have s2100 : ∀ b1 b2 : Nat, G 9 [true, true, true, false, false, true, true, false, false, false, false, false, false, false] [(15, .slice (some ⟨g1, 0, none⟩) 32 32), (20, .slice (some ⟨g2, 0, none⟩) 32 32), (17, .slice (some ⟨b1, 0, none⟩) 1 1), (21, .slice (some ⟨b2, 0, none⟩) 1 1), (1, .pointer (some ⟨g1, 0, none⟩)), (2, .pointer (some ⟨g2, 0, none⟩)), (3, .pointer (some ⟨g3, 0, none⟩))] (rd (some ⟨b1, 0, none⟩) [.int .u8 97] :: own 5 1 (some ⟨b2, 0, none⟩) 1 1 [.int .u8 97] :: blk g3 25 (bvs S) :: blk g2 25 (bvs K2) :: blk g1 25 (bvs K1) :: []) := fun b1 b2 => (hG _ _ _ _).2 (by
      refine va_four 3 7 10 11 (by kernel_rfl) rfl rfl rfl rfl rfl rfl rfl rfl ?_ ?_ ?_ ?_
      · refine vo_buildSlice rfl rfl rfl (by decide) (by repeat' (first | exact trivial | rfl | refine ⟨?_, ?_⟩)) (by decide) rfl ?_
        intro s1
        refine ⟨.inr (sei _ _ _), ?_⟩
        exact va_ext ((hG _ _ _ _).1 (s3100 b1 s1 b2)) rfl (by (repeat' (first | exact Sub.nil _ | refine Sub.cons rfl rfl ?_ | refine Sub.cons rfl ?_ ?_))) (sei _ _ _)
      · refine vo_convRow rfl rfl ?_
        refine ⟨.inr (sei _ _ _), ?_⟩
        exact va_ext ((hG _ _ _ _).1 (s2200 b1 b2)) rfl (by (repeat' (first | exact Sub.nil _ | refine Sub.cons rfl rfl ?_ | refine Sub.cons rfl ?_ ?_))) (sei _ _ _)
      · refine vo_alloc rfl ?_
        intro g4
        refine ⟨.inr (sei _ _ _), ?_⟩
        exact va_ext ((hG _ _ _ _).1 (s2110 b1 b2 g4)) rfl (by (repeat' (first | exact Sub.nil _ | refine Sub.cons rfl rfl ?_ | refine Sub.cons rfl ?_ ?_))) (sei _ _ _)
      · refine vo_alloc rfl ?_
        intro g5
        refine ⟨.inr (sei _ _ _), ?_⟩
        exact va_ext ((hG _ _ _ _).1 (s2101 b1 b2 g5)) rfl (by (repeat' (first | exact Sub.nil _ | refine Sub.cons rfl rfl ?_ | refine Sub.cons rfl ?_ ?_))) (sei _ _ _))
    have s3000 : ∀ b1 s1 : Nat, G 9 [true, true, true, true, false, true, false, false, false, false, false, false, false, false] [(15, .slice (some ⟨g1, 0, none⟩) 32 32), (20, .slice (some ⟨g2, 0, none⟩) 32 32), (18, .slice (some ⟨s1, 0, none⟩) 2 2), (1, .pointer (some ⟨g1, 0, none⟩)), (2, .pointer (some ⟨g2, 0, none⟩)), (3, .pointer (some ⟨g3, 0, none⟩))] (rd (some ⟨b1, 0, none⟩) [.int .u8 97] :: own 32 1 (some ⟨s1, 0, none⟩) 2 2 [.slice (some ⟨g1, 0, none⟩) 32 32, .slice (some ⟨b1, 0, none⟩) 1 1] :: blk g3 25 (bvs S) :: blk g2 25 (bvs K2) :: blk g1 25 (bvs K1) :: []) := fun b1 s1 => (hG _ _ _ _).2 (by
      refine va_four 4 6 10 11 (by kernel_rfl) rfl rfl rfl rfl rfl rfl rfl rfl ?_ ?_ ?_ ?_
      · refine vo_call rfl rfl ?_
        refine vc_mono (tof2_vc (h2 := (inferInstance : RdC w0 _ (some ⟨b1, 0, none⟩) [.int .u8 97])) w0 _ 1 (by decide) s1 (some ⟨g1, 0, none⟩) 32 K1 (some ⟨b1, 0, none⟩) 1 [97] hk1.symm rfl hB1) ?_
        rintro v L' ⟨rfl, rfl⟩
        rw [← hD1]
        refine ⟨.inr (sei _ _ _), ?_⟩
        exact va_ext ((hG _ _ _ _).1 s4000) rfl (by (repeat' (first | exact Sub.nil _ | refine Sub.cons rfl rfl ?_ | refine Sub.cons rfl ?_ ?_))) (sei _ _ _)
      · refine vo_buildSlice rfl rfl rfl (by decide) (by repeat' (first | exact trivial | rfl | refine ⟨?_, ?_⟩)) (by decide) rfl ?_
        intro b2
        refine ⟨.inr (sei _ _ _), ?_⟩
        exact va_ext ((hG _ _ _ _).1 (s3100 b1 s1 b2)) rfl (by (repeat' (first | exact Sub.nil _ | refine Sub.cons rfl rfl ?_ | refine Sub.cons rfl ?_ ?_))) (sei _ _ _)
      · refine vo_alloc rfl ?_
        intro g4
        refine ⟨.inr (sei _ _ _), ?_⟩
        exact va_ext ((hG _ _ _ _).1 (s3010 b1 s1 g4)) rfl (by (repeat' (first | exact Sub.nil _ | refine Sub.cons rfl rfl ?_ | refine Sub.cons rfl ?_ ?_))) (sei _ _ _)
      · refine vo_alloc rfl ?_
        intro g5
        refine ⟨.inr (sei _ _ _), ?_⟩
        exact va_ext ((hG _ _ _ _).1 (s3001 b1 s1 g5)) rfl (by (repeat' (first | exact Sub.nil _ | refine Sub.cons rfl rfl ?_ | refine Sub.cons rfl ?_ ?_))) (sei _ _ _))
    have s0011 : ∀ g4 g5 : Nat, G 10 [true, false, false, false, false, true, false, false, false, false, true, true, false, false] [(15, .slice (some ⟨g1, 0, none⟩) 32 32), (20, .slice (some ⟨g2, 0, none⟩) 32 32), (4, .pointer (some ⟨g4, 0, none⟩)), (5, .pointer (some ⟨g5, 0, none⟩)), (1, .pointer (some ⟨g1, 0, none⟩)), (2, .pointer (some ⟨g2, 0, none⟩)), (3, .pointer (some ⟨g3, 0, none⟩))] (blk g4 25 (bvs (List.replicate 32 0)) :: blk g5 25 (bvs (List.replicate 32 0)) :: blk g3 25 (bvs S) :: blk g2 25 (bvs K2) :: blk g1 25 (bvs K1) :: []) := fun g4 g5 => (hG _ _ _ _).2 (by
      refine va_two 1 6 (by kernel_rfl) rfl rfl rfl rfl ?_ ?_
      · refine vo_buildSlice rfl rfl rfl (by decide) (by repeat' (first | exact trivial | rfl | refine ⟨?_, ?_⟩)) (by decide) rfl ?_
        intro b1
        refine ⟨.inr (sei _ _ _), ?_⟩
        exact va_ext ((hG _ _ _ _).1 (s1011 b1 g4 g5)) rfl (by (repeat' (first | exact Sub.nil _ | refine Sub.cons rfl rfl ?_ | refine Sub.cons rfl ?_ ?_))) (sei _ _ _)
      · refine vo_buildSlice rfl rfl rfl (by decide) (by repeat' (first | exact trivial | rfl | refine ⟨?_, ?_⟩)) (by decide) rfl ?_
        intro b2
        refine ⟨.inr (sei _ _ _), ?_⟩
        exact va_ext ((hG _ _ _ _).1 (s0111 b2 g4 g5)) rfl (by (repeat' (first | exact Sub.nil _ | refine Sub.cons rfl rfl ?_ | refine Sub.cons rfl ?_ ?_))) (sei _ _ _))
    have s0101 : ∀ b2 g5 : Nat, G 10 [true, false, false, false, false, true, true, false, false, false, false, true, false, false] [(15, .slice (some ⟨g1, 0, none⟩) 32 32), (20, .slice (some ⟨g2, 0, none⟩) 32 32), (21, .slice (some ⟨b2, 0, none⟩) 1 1), (5, .pointer (some ⟨g5, 0, none⟩)), (1, .pointer (some ⟨g1, 0, none⟩)), (2, .pointer (some ⟨g2, 0, none⟩)), (3, .pointer (some ⟨g3, 0, none⟩))] (own 5 1 (some ⟨b2, 0, none⟩) 1 1 [.int .u8 97] :: blk g5 25 (bvs (List.replicate 32 0)) :: blk g3 25 (bvs S) :: blk g2 25 (bvs K2) :: blk g1 25 (bvs K1) :: []) := fun b2 g5 => (hG _ _ _ _).2 (by
      refine va_three 1 7 10 (by kernel_rfl) rfl rfl rfl rfl rfl rfl ?_ ?_ ?_
      · refine vo_buildSlice rfl rfl rfl (by decide) (by repeat' (first | exact trivial | rfl | refine ⟨?_, ?_⟩)) (by decide) rfl ?_
        intro b1
        refine ⟨.inr (sei _ _ _), ?_⟩
        exact va_ext ((hG _ _ _ _).1 (s1101 b1 b2 g5)) rfl (by (repeat' (first | exact Sub.nil _ | refine Sub.cons rfl rfl ?_ | refine Sub.cons rfl ?_ ?_))) (sei _ _ _)
      · refine vo_convRow rfl rfl ?_
        refine ⟨.inr (sei _ _ _), ?_⟩
        exact va_ext ((hG _ _ _ _).1 (s0201 b2 g5)) rfl (by (repeat' (first | exact Sub.nil _ | refine Sub.cons rfl rfl ?_ | refine Sub.cons rfl ?_ ?_))) (sei _ _ _)
      · refine vo_alloc rfl ?_
        intro g4
        refine ⟨.inr (sei _ _ _), ?_⟩
        exact va_ext ((hG _ _ _ _).1 (s0111 b2 g4 g5)) rfl (by (repeat' (first | exact Sub.nil _ | refine Sub.cons rfl rfl ?_ | refine Sub.cons rfl ?_ ?_))) (sei _ _ _))
    have s0110 : ∀ b2 g4 : Nat, G 10 [true, false, false, false, false, true, true, false, false, false, true, false, false, false] [(15, .slice (some ⟨g1, 0, none⟩) 32 32), (20, .slice (some ⟨g2, 0, none⟩) 32 32), (21, .slice (some ⟨b2, 0, none⟩) 1 1), (4, .pointer (some ⟨g4, 0, none⟩)), (1, .pointer (some ⟨g1, 0, none⟩)), (2, .pointer (some ⟨g2, 0, none⟩)), (3, .pointer (some ⟨g3, 0, none⟩))] (own 5 1 (some ⟨b2, 0, none⟩) 1 1 [.int .u8 97] :: blk g4 25 (bvs (List.replicate 32 0)) :: blk g3 25 (bvs S) :: blk g2 25 (bvs K2) :: blk g1 25 (bvs K1) :: []) := fun b2 g4 => (hG _ _ _ _).2 (by
      refine va_three 1 7 11 (by kernel_rfl) rfl rfl rfl rfl rfl rfl ?_ ?_ ?_
      · refine vo_buildSlice rfl rfl rfl (by decide) (by repeat' (first | exact trivial | rfl | refine ⟨?_, ?_⟩)) (by decide) rfl ?_
        intro b1
        refine ⟨.inr (sei _ _ _), ?_⟩
        exact va_ext ((hG _ _ _ _).1 (s1110 b1 b2 g4)) rfl (by (repeat' (first | exact Sub.nil _ | refine Sub.cons rfl rfl ?_ | refine Sub.cons rfl ?_ ?_))) (sei _ _ _)
      · refine vo_convRow rfl rfl ?_
        refine ⟨.inr (sei _ _ _), ?_⟩
        exact va_ext ((hG _ _ _ _).1 (s0210 b2 g4)) rfl (by (repeat' (first | exact Sub.nil _ | refine Sub.cons rfl rfl ?_ | refine Sub.cons rfl ?_ ?_))) (sei _ _ _)
      · refine vo_alloc rfl ?_
        intro g5
        refine ⟨.inr (sei _ _ _), ?_⟩
        exact va_ext ((hG _ _ _ _).1 (s0111 b2 g4 g5)) rfl (by (repeat' (first | exact Sub.nil _ | refine Sub.cons rfl rfl ?_ | refine Sub.cons rfl ?_ ?_))) (sei _ _ _))
    have s0200 : ∀ b2 : Nat, G 10 [true, false, false, false, false, true, true, true, false, false, false, false, false, false] [(15, .slice (some ⟨g1, 0, none⟩) 32 32), (20, .slice (some ⟨g2, 0, none⟩) 32 32), (22, .slice (some ⟨b2, 0, none⟩) 1 1), (1, .pointer (some ⟨g1, 0, none⟩)), (2, .pointer (some ⟨g2, 0, none⟩)), (3, .pointer (some ⟨g3, 0, none⟩))] (rd (some ⟨b2, 0, none⟩) [.int .u8 97] :: blk g3 25 (bvs S) :: blk g2 25 (bvs K2) :: blk g1 25 (bvs K1) :: []) := fun b2 => (hG _ _ _ _).2 (by
      refine va_four 1 8 10 11 (by kernel_rfl) rfl rfl rfl rfl rfl rfl rfl rfl ?_ ?_ ?_ ?_
      · refine vo_buildSlice rfl rfl rfl (by decide) (by repeat' (first | exact trivial | rfl | refine ⟨?_, ?_⟩)) (by decide) rfl ?_
        intro b1
        refine ⟨.inr (sei _ _ _), ?_⟩
        exact va_ext ((hG _ _ _ _).1 (s1200 b1 b2)) rfl (by (repeat' (first | exact Sub.nil _ | refine Sub.cons rfl rfl ?_ | refine Sub.cons rfl ?_ ?_))) (sei _ _ _)
      · refine vo_buildSlice rfl rfl rfl (by decide) (by repeat' (first | exact trivial | rfl | refine ⟨?_, ?_⟩)) (by decide) rfl ?_
        intro s2
        refine ⟨.inr (sei _ _ _), ?_⟩
        exact va_ext ((hG _ _ _ _).1 (s0300 b2 s2)) rfl (by (repeat' (first | exact Sub.nil _ | refine Sub.cons rfl rfl ?_ | refine Sub.cons rfl ?_ ?_))) (sei _ _ _)
      · refine vo_alloc rfl ?_
        intro g4
        refine ⟨.inr (sei _ _ _), ?_⟩
        exact va_ext ((hG _ _ _ _).1 (s0210 b2 g4)) rfl (by (repeat' (first | exact Sub.nil _ | refine Sub.cons rfl rfl ?_ | refine Sub.cons rfl ?_ ?_))) (sei _ _ _)
      · refine vo_alloc rfl ?_
        intro g5
        refine ⟨.inr (sei _ _ _), ?_⟩
        exact va_ext ((hG _ _ _ _).1 (s0201 b2 g5)) rfl (by (repeat' (first | exact Sub.nil _ | refine Sub.cons rfl rfl ?_ | refine Sub.cons rfl ?_ ?_))) (sei _ _ _))
    have s1001 : ∀ b1 g5 : Nat, G 10 [true, true, false, false, false, true, false, false, false, false, false, true, false, false] [(15, .slice (some ⟨g1, 0, none⟩) 32 32), (20, .slice (some ⟨g2, 0, none⟩) 32 32), (16, .slice (some ⟨b1, 0, none⟩) 1 1), (5, .pointer (some ⟨g5, 0, none⟩)), (1, .pointer (some ⟨g1, 0, none⟩)), (2, .pointer (some ⟨g2, 0, none⟩)), (3, .pointer (some ⟨g3, 0, none⟩))] (own 5 1 (some ⟨b1, 0, none⟩) 1 1 [.int .u8 97] :: blk g5 25 (bvs (List.replicate 32 0)) :: blk g3 25 (bvs S) :: blk g2 25 (bvs K2) :: blk g1 25 (bvs K1) :: []) := fun b1 g5 => (hG _ _ _ _).2 (by
      refine va_three 2 6 10 (by kernel_rfl) rfl rfl rfl rfl rfl rfl ?_ ?_ ?_
      · refine vo_convRow rfl rfl ?_
        refine ⟨.inr (sei _ _ _), ?_⟩
        exact va_ext ((hG _ _ _ _).1 (s2001 b1 g5)) rfl (by (repeat' (first | exact Sub.nil _ | refine Sub.cons rfl rfl ?_ | refine Sub.cons rfl ?_ ?_))) (sei _ _ _)
      · refine vo_buildSlice rfl rfl rfl (by decide) (by repeat' (first | exact trivial | rfl | refine ⟨?_, ?_⟩)) (by decide) rfl ?_
        intro b2
        refine ⟨.inr (sei _ _ _), ?_⟩
        exact va_ext ((hG _ _ _ _).1 (s1101 b1 b2 g5)) rfl (by (repeat' (first | exact Sub.nil _ | refine Sub.cons rfl rfl ?_ | refine Sub.cons rfl ?_ ?_))) (sei _ _ _)
      · refine vo_alloc rfl ?_
        intro g4
        refine ⟨.inr (sei _ _ _), ?_⟩
        exact va_ext ((hG _ _ _ _).1 (s1011 b1 g4 g5)) rfl (by (repeat' (first | exact Sub.nil _ | refine Sub.cons rfl rfl ?_ | refine Sub.cons rfl ?_ ?_))) (sei _ _ _))
    have s1010 : ∀ b1 g4 : Nat, G 10 [true, true, false, false, false, true, false, false, false, false, true, false, false, false] [(15, .slice (some ⟨g1, 0, none⟩) 32 32), (20, .slice (some ⟨g2, 0, none⟩) 32 32), (16, .slice (some ⟨b1, 0, none⟩) 1 1), (4, .pointer (some ⟨g4, 0, none⟩)), (1, .pointer (some ⟨g1, 0, none⟩)), (2, .pointer (some ⟨g2, 0, none⟩)), (3, .pointer (some ⟨g3, 0, none⟩))] (own 5 1 (some ⟨b1, 0, none⟩) 1 1 [.int .u8 97] :: blk g4 25 (bvs (List.replicate 32 0)) :: blk g3 25 (bvs S) :: blk g2 25 (bvs K2) :: blk g1 25 (bvs K1) :: []) := fun b1 g4 => (hG _ _ _ _).2 (by
      refine va_three 2 6 11 (by kernel_rfl) rfl rfl rfl rfl rfl rfl ?_ ?_ ?_
      · refine vo_convRow rfl rfl ?_
        refine ⟨.inr (sei _ _ _), ?_⟩
        exact va_ext ((hG _ _ _ _).1 (s2010 b1 g4)) rfl (by (repeat' (first | exact Sub.nil _ | refine Sub.cons rfl rfl ?_ | refine Sub.cons rfl ?_ ?_))) (sei _ _ _)
      · refine vo_buildSlice rfl rfl rfl (by decide) (by repeat' (first | exact trivial | rfl | refine ⟨?_, ?_⟩)) (by decide) rfl ?_
        intro b2
        refine ⟨.inr (sei _ _ _), ?_⟩
        exact va_ext ((hG _ _ _ _).1 (s1110 b1 b2 g4)) rfl (by (repeat' (first | exact Sub.nil _ | refine Sub.cons rfl rfl ?_ | refine Sub.cons rfl ?_ ?_))) (sei _ _ _)
      · refine vo_alloc rfl ?_
        intro g5
        refine ⟨.inr (sei _ _ _), ?_⟩
        exact va_ext ((hG _ _ _ _).1 (s1011 b1 g4 g5)) rfl (by (repeat' (first | exact Sub.nil _ | refine Sub.cons rfl rfl ?_ | refine Sub.cons rfl ?_ ?_))) (sei _ _ _))
    have s1100 : ∀ b1 b2 : Nat, G 10 [true, true, false, false, false, true, true, false, false, false, false, false, false, false] [(15, .slice (some ⟨g1, 0, none⟩) 32 32), (20, .slice (some ⟨g2, 0, none⟩) 32 32), (16, .slice (some ⟨b1, 0, none⟩) 1 1), (21, .slice (some ⟨b2, 0, none⟩) 1 1), (1, .pointer (some ⟨g1, 0, none⟩)), (2, .pointer (some ⟨g2, 0, none⟩)), (3, .pointer (some ⟨g3, 0, none⟩))] (own 5 1 (some ⟨b1, 0, none⟩) 1 1 [.int .u8 97] :: own 5 1 (some ⟨b2, 0, none⟩) 1 1 [.int .u8 97] :: blk g3 25 (bvs S) :: blk g2 25 (bvs K2) :: blk g1 25 (bvs K1) :: []) := fun b1 b2 => (hG _ _ _ _).2 (by
      refine va_four 2 7 10 11 (by kernel_rfl) rfl rfl rfl rfl rfl rfl rfl rfl ?_ ?_ ?_ ?_
      · refine vo_convRow rfl rfl ?_
        refine ⟨.inr (sei _ _ _), ?_⟩
        exact va_ext ((hG _ _ _ _).1 (s2100 b1 b2)) rfl (by (repeat' (first | exact Sub.nil _ | refine Sub.cons rfl rfl ?_ | refine Sub.cons rfl ?_ ?_))) (sei _ _ _)
      · refine vo_convRow rfl rfl ?_
        refine ⟨.inr (sei _ _ _), ?_⟩
        exact va_ext ((hG _ _ _ _).1 (s1200 b1 b2)) rfl (by (repeat' (first | exact Sub.nil _ | refine Sub.cons rfl rfl ?_ | refine Sub.cons rfl ?_ ?_))) (sei _ _ _)
      · refine vo_alloc rfl ?_
        intro g4
        refine ⟨.inr (sei _ _ _), ?_⟩
        exact va_ext ((hG _ _ _ _).1 (s1110 b1 b2 g4)) rfl (by (repeat' (first | exact Sub.nil _ | refine Sub.cons rfl rfl ?_ | refine Sub.cons rfl ?_ ?_))) (sei _ _ _)
      · refine vo_alloc rfl ?_
        intro g5
        refine ⟨.inr (sei _ _ _), ?_⟩
        exact va_ext ((hG _ _ _ _).1 (s1101 b1 b2 g5)) rfl (by (repeat' (first | exact Sub.nil _ | refine Sub.cons rfl rfl ?_ | refine Sub.cons rfl ?_ ?_))) (sei _ _ _))
    have s2000 : ∀ b1 : Nat, G 10 [true, true, true, false, false, true, false, false, false, false, false, false, false, false] [(15, .slice (some ⟨g1, 0, none⟩) 32 32), (20, .slice (some ⟨g2, 0, none⟩) 32 32), (17, .slice (some ⟨b1, 0, none⟩) 1 1), (1, .pointer (some ⟨g1, 0, none⟩)), (2, .pointer (some ⟨g2, 0, none⟩)), (3, .pointer (some ⟨g3, 0, none⟩))] (rd (some ⟨b1, 0, none⟩) [.int .u8 97] :: blk g3 25 (bvs S) :: blk g2 25 (bvs K2) :: blk g1 25 (bvs K1) :: []) := fun b1 => (hG _ _ _ _).2 (by
      refine va_four 3 6 10 11 (by kernel_rfl) rfl rfl rfl rfl rfl rfl rfl rfl ?_ ?_ ?_ ?_
      · refine vo_buildSlice rfl rfl rfl (by decide) (by repeat' (first | exact trivial | rfl | refine ⟨?_, ?_⟩)) (by decide) rfl ?_
        intro s1
        refine ⟨.inr (sei _ _ _), ?_⟩
        exact va_ext ((hG _ _ _ _).1 (s3000 b1 s1)) rfl (by (repeat' (first | exact Sub.nil _ | refine Sub.cons rfl rfl ?_ | refine Sub.cons rfl ?_ ?_))) (sei _ _ _)
      · refine vo_buildSlice rfl rfl rfl (by decide) (by repeat' (first | exact trivial | rfl | refine ⟨?_, ?_⟩)) (by decide) rfl ?_
        intro b2
        refine ⟨.inr (sei _ _ _), ?_⟩
        exact va_ext ((hG _ _ _ _).1 (s2100 b1 b2)) rfl (by (repeat' (first | exact Sub.nil _ | refine Sub.cons rfl rfl ?_ | refine Sub.cons rfl ?_ ?_))) (sei _ _ _)
      · refine vo_alloc rfl ?_
        intro g4
        refine ⟨.inr (sei _ _ _), ?_⟩
        exact va_ext ((hG _ _ _ _).1 (s2010 b1 g4)) rfl (by (repeat' (first | exact Sub.nil _ | refine Sub.cons rfl rfl ?_ | refine Sub.cons rfl ?_ ?_))) (sei _ _ _)
      · refine vo_alloc rfl ?_
        intro g5
        refine ⟨.inr (sei _ _ _), ?_⟩
        exact va_ext ((hG _ _ _ _).1 (s2001 b1 g5)) rfl (by (repeat' (first | exact Sub.nil _ | refine Sub.cons rfl rfl ?_ | refine Sub.cons rfl ?_ ?_))) (sei _ _ _))
    have s0001 : ∀ g5 : Nat, G 11 [true, false, false, false, false, true, false, false, false, false, false, true, false, false] [(15, .slice (some ⟨g1, 0, none⟩) 32 32), (20, .slice (some ⟨g2, 0, none⟩) 32 32), (5, .pointer (some ⟨g5, 0, none⟩)), (1, .pointer (some ⟨g1, 0, none⟩)), (2, .pointer (some ⟨g2, 0, none⟩)), (3, .pointer (some ⟨g3, 0, none⟩))] (blk g5 25 (bvs (List.replicate 32 0)) :: blk g3 25 (bvs S) :: blk g2 25 (bvs K2) :: blk g1 25 (bvs K1) :: []) := fun g5 => (hG _ _ _ _).2 (by
      refine va_three 1 6 10 (by kernel_rfl) rfl rfl rfl rfl rfl rfl ?_ ?_ ?_
      · refine vo_buildSlice rfl rfl rfl (by decide) (by repeat' (first | exact trivial | rfl | refine ⟨?_, ?_⟩)) (by decide) rfl ?_
        intro b1
        refine ⟨.inr (sei _ _ _), ?_⟩
        exact va_ext ((hG _ _ _ _).1 (s1001 b1 g5)) rfl (by (repeat' (first | exact Sub.nil _ | refine Sub.cons rfl rfl ?_ | refine Sub.cons rfl ?_ ?_))) (sei _ _ _)
      · refine vo_buildSlice rfl rfl rfl (by decide) (by repeat' (first | exact trivial | rfl | refine ⟨?_, ?_⟩)) (by decide) rfl ?_
        intro b2
        refine ⟨.inr (sei _ _ _), ?_⟩
        exact va_ext ((hG _ _ _ _).1 (s0101 b2 g5)) rfl (by (repeat' (first | exact Sub.nil _ | refine Sub.cons rfl rfl ?_ | refine Sub.cons rfl ?_ ?_))) (sei _ _ _)
      · refine vo_alloc rfl ?_
        intro g4
        refine ⟨.inr (sei _ _ _), ?_⟩
        exact va_ext ((hG _ _ _ _).1 (s0011 g4 g5)) rfl (by (repeat' (first | exact Sub.nil _ | refine Sub.cons rfl rfl ?_ | refine Sub.cons rfl ?_ ?_))) (sei _ _ _))
    have s0010 : ∀ g4 : Nat, G 11 [true, false, false, false, false, true, false, false, false, false, true, false, false, false] [(15, .slice (some ⟨g1, 0, none⟩) 32 32), (20, .slice (some ⟨g2, 0, none⟩) 32 32), (4, .pointer (some ⟨g4, 0, none⟩)), (1, .pointer (some ⟨g1, 0, none⟩)), (2, .pointer (some ⟨g2, 0, none⟩)), (3, .pointer (some ⟨g3, 0, none⟩))] (blk g4 25 (bvs (List.replicate 32 0)) :: blk g3 25 (bvs S) :: blk g2 25 (bvs K2) :: blk g1 25 (bvs K1) :: []) := fun g4 => (hG _ _ _ _).2 (by
      refine va_three 1 6 11 (by kernel_rfl) rfl rfl rfl rfl rfl rfl ?_ ?_ ?_
      · refine vo_buildSlice rfl rfl rfl (by decide) (by repeat' (first | exact trivial | rfl | refine ⟨?_, ?_⟩)) (by decide) rfl ?_
        intro b1
        refine ⟨.inr (sei _ _ _), ?_⟩
        exact va_ext ((hG _ _ _ _).1 (s1010 b1 g4)) rfl (by (repeat' (first | exact Sub.nil _ | refine Sub.cons rfl rfl ?_ | refine Sub.cons rfl ?_ ?_))) (sei _ _ _)
      · refine vo_buildSlice rfl rfl rfl (by decide) (by repeat' (first | exact trivial | rfl | refine ⟨?_, ?_⟩)) (by decide) rfl ?_
        intro b2
        refine ⟨.inr (sei _ _ _), ?_⟩
        exact va_ext ((hG _ _ _ _).1 (s0110 b2 g4)) rfl (by (repeat' (first | exact Sub.nil _ | refine Sub.cons rfl rfl ?_ | refine Sub.cons rfl ?_ ?_))) (sei _ _ _)
      · refine vo_alloc rfl ?_
        intro g5
        refine ⟨.inr (sei _ _ _), ?_⟩
        exact va_ext ((hG _ _ _ _).1 (s0011 g4 g5)) rfl (by (repeat' (first | exact Sub.nil _ | refine Sub.cons rfl rfl ?_ | refine Sub.cons rfl ?_ ?_))) (sei _ _ _))
    have s0100 : ∀ b2 : Nat, G 11 [true, false, false, false, false, true, true, false, false, false, false, false, false, false] [(15, .slice (some ⟨g1, 0, none⟩) 32 32), (20, .slice (some ⟨g2, 0, none⟩) 32 32), (21, .slice (some ⟨b2, 0, none⟩) 1 1), (1, .pointer (some ⟨g1, 0, none⟩)), (2, .pointer (some ⟨g2, 0, none⟩)), (3, .pointer (some ⟨g3, 0, none⟩))] (own 5 1 (some ⟨b2, 0, none⟩) 1 1 [.int .u8 97] :: blk g3 25 (bvs S) :: blk g2 25 (bvs K2) :: blk g1 25 (bvs K1) :: []) := fun b2 => (hG _ _ _ _).2 (by
      refine va_four 1 7 10 11 (by kernel_rfl) rfl rfl rfl rfl rfl rfl rfl rfl ?_ ?_ ?_ ?_
      · refine vo_buildSlice rfl rfl rfl (by decide) (by repeat' (first | exact trivial | rfl | refine ⟨?_, ?_⟩)) (by decide) rfl ?_
        intro b1
        refine ⟨.inr (sei _ _ _), ?_⟩
        exact va_ext ((hG _ _ _ _).1 (s1100 b1 b2)) rfl (by (repeat' (first | exact Sub.nil _ | refine Sub.cons rfl rfl ?_ | refine Sub.cons rfl ?_ ?_))) (sei _ _ _)
      · refine vo_convRow rfl rfl ?_
        refine ⟨.inr (sei _ _ _), ?_⟩
        exact va_ext ((hG _ _ _ _).1 (s0200 b2)) rfl (by (repeat' (first | exact Sub.nil _ | refine Sub.cons rfl rfl ?_ | refine Sub.cons rfl ?_ ?_))) (sei _ _ _)
      · refine vo_alloc rfl ?_
        intro g4
        refine ⟨.inr (sei _ _ _), ?_⟩
        exact va_ext ((hG _ _ _ _).1 (s0110 b2 g4)) rfl (by (repeat' (first | exact Sub.nil _ | refine Sub.cons rfl rfl ?_ | refine Sub.cons rfl ?_ ?_))) (sei _ _ _)
      · refine vo_alloc rfl ?_
        intro g5
        refine ⟨.inr (sei _ _ _), ?_⟩
        exact va_ext ((hG _ _ _ _).1 (s0101 b2 g5)) rfl (by (repeat' (first | exact Sub.nil _ | refine Sub.cons rfl rfl ?_ | refine Sub.cons rfl ?_ ?_))) (sei _ _ _))
    have s1000 : ∀ b1 : Nat, G 11 [true, true, false, false, false, true, false, false, false, false, false, false, false, false] [(15, .slice (some ⟨g1, 0, none⟩) 32 32), (20, .slice (some ⟨g2, 0, none⟩) 32 32), (16, .slice (some ⟨b1, 0, none⟩) 1 1), (1, .pointer (some ⟨g1, 0, none⟩)), (2, .pointer (some ⟨g2, 0, none⟩)), (3, .pointer (some ⟨g3, 0, none⟩))] (own 5 1 (some ⟨b1, 0, none⟩) 1 1 [.int .u8 97] :: blk g3 25 (bvs S) :: blk g2 25 (bvs K2) :: blk g1 25 (bvs K1) :: []) := fun b1 => (hG _ _ _ _).2 (by
      refine va_four 2 6 10 11 (by kernel_rfl) rfl rfl rfl rfl rfl rfl rfl rfl ?_ ?_ ?_ ?_
      · refine vo_convRow rfl rfl ?_
        refine ⟨.inr (sei _ _ _), ?_⟩
        exact va_ext ((hG _ _ _ _).1 (s2000 b1)) rfl (by (repeat' (first | exact Sub.nil _ | refine Sub.cons rfl rfl ?_ | refine Sub.cons rfl ?_ ?_))) (sei _ _ _)
      · refine vo_buildSlice rfl rfl rfl (by decide) (by repeat' (first | exact trivial | rfl | refine ⟨?_, ?_⟩)) (by decide) rfl ?_
        intro b2
        refine ⟨.inr (sei _ _ _), ?_⟩
        exact va_ext ((hG _ _ _ _).1 (s1100 b1 b2)) rfl (by (repeat' (first | exact Sub.nil _ | refine Sub.cons rfl rfl ?_ | refine Sub.cons rfl ?_ ?_))) (sei _ _ _)
      · refine vo_alloc rfl ?_
        intro g4
        refine ⟨.inr (sei _ _ _), ?_⟩
        exact va_ext ((hG _ _ _ _).1 (s1010 b1 g4)) rfl (by (repeat' (first | exact Sub.nil _ | refine Sub.cons rfl rfl ?_ | refine Sub.cons rfl ?_ ?_))) (sei _ _ _)
      · refine vo_alloc rfl ?_
        intro g5
        refine ⟨.inr (sei _ _ _), ?_⟩
        exact va_ext ((hG _ _ _ _).1 (s1001 b1 g5)) rfl (by (repeat' (first | exact Sub.nil _ | refine Sub.cons rfl rfl ?_ | refine Sub.cons rfl ?_ ?_))) (sei _ _ _))
    have s0000 : G 12 [true, false, false, false, false, true, false, false, false, false, false, false, false, false] [(15, .slice (some ⟨g1, 0, none⟩) 32 32), (20, .slice (some ⟨g2, 0, none⟩) 32 32), (1, .pointer (some ⟨g1, 0, none⟩)), (2, .pointer (some ⟨g2, 0, none⟩)), (3, .pointer (some ⟨g3, 0, none⟩))] (blk g3 25 (bvs S) :: blk g2 25 (bvs K2) :: blk g1 25 (bvs K1) :: []) := (hG _ _ _ _).2 (by
      refine va_four 1 6 10 11 (by kernel_rfl) rfl rfl rfl rfl rfl rfl rfl rfl ?_ ?_ ?_ ?_
      · refine vo_buildSlice rfl rfl rfl (by decide) (by repeat' (first | exact trivial | rfl | refine ⟨?_, ?_⟩)) (by decide) rfl ?_
        intro b1
        refine ⟨.inr (sei _ _ _), ?_⟩
        exact va_ext ((hG _ _ _ _).1 (s1000 b1)) rfl (by (repeat' (first | exact Sub.nil _ | refine Sub.cons rfl rfl ?_ | refine Sub.cons rfl ?_ ?_))) (sei _ _ _)
      · refine vo_buildSlice rfl rfl rfl (by decide) (by repeat' (first | exact trivial | rfl | refine ⟨?_, ?_⟩)) (by decide) rfl ?_
        intro b2
        refine ⟨.inr (sei _ _ _), ?_⟩
        exact va_ext ((hG _ _ _ _).1 (s0100 b2)) rfl (by (repeat' (first | exact Sub.nil _ | refine Sub.cons rfl rfl ?_ | refine Sub.cons rfl ?_ ?_))) (sei _ _ _)
      · refine vo_alloc rfl ?_
        intro g4
        refine ⟨.inr (sei _ _ _), ?_⟩
        exact va_ext ((hG _ _ _ _).1 (s0010 g4)) rfl (by (repeat' (first | exact Sub.nil _ | refine Sub.cons rfl rfl ?_ | refine Sub.cons rfl ?_ ?_))) (sei _ _ _)
      · refine vo_alloc rfl ?_
        intro g5
        refine ⟨.inr (sei _ _ _), ?_⟩
        exact va_ext ((hG _ _ _ _).1 (s0001 g5)) rfl (by (repeat' (first | exact Sub.nil _ | refine Sub.cons rfl rfl ?_ | refine Sub.cons rfl ?_ ?_))) (sei _ _ _))
    refine (hG _ _ _ _).2 ?_
    refine va_takeA 0 rfl rfl rfl rfl ?_
    refine va_takeA 5 rfl rfl rfl rfl ?_
    exact va_ext ((hG _ _ _ _).1 s0000) rfl (by (repeat' (first | exact Sub.nil _ | refine Sub.cons rfl rfl ?_ | refine Sub.cons rfl ?_ ?_))) (sei _ _ _)
  rintro ⟨g4, g5⟩
  dsimp only
  obtain ⟨R1, hR1⟩ : ∃ R, R = sha (tagB 2 [D1, S]) := ⟨_, rfl⟩
  obtain ⟨R2, hR2⟩ : ∃ R, R = sha (tagB 2 [S, D2]) := ⟨_, rfl⟩
  have lR1 : R1.length = 32 := by rw [hR1]; exact sha_length _
  have lR2 : R2.length = 32 := by rw [hR2]; exact sha_length _
  have hB3 : (tagB 2 [D1, S]).length ≤ 1000000000 := by simp [tagB, lD1, hS, digs_length]
  have hB4 : (tagB 2 [S, D2]).length ≤ 1000000000 := by simp [tagB, lD2, hS, digs_length]
  repeat' (first | (refine goB ?_; intros) | (refine vl_caseG rfl rfl rfl rfl ?_ ?_ <;> (intro hb; (try simp only [decide_eq_true_eq, decide_eq_false_iff_not, Bool.not_eq_true', Bool.not_eq_false', ne_eq, Decidable.not_not, Option.isNone_iff_eq_none, not_true_eq_false, not_false_eq_true] at hb); try (exfalso; omega))) | (refine v_cond rfl ?_ ?_ <;> (intro hb; (try simp only [decide_eq_true_eq, decide_eq_false_iff_not, Bool.not_eq_true', Bool.not_eq_false', ne_eq, Decidable.not_not, Option.isNone_iff_eq_none, not_true_eq_false, not_false_eq_true] at hb); try (exfalso; omega))) | fail)
  rename_i b1 s1
  refine vl_q rfl rfl rfl rfl (vq_buildP (cs := (prfV K1 b1 s1 S).cells) rfl (by simp [okS, Value.cells, hk1]) ?_) ?_
  · subst hK1; rfl
  have lp1 := Prf.len (prfV_ok (b := b1) (s := s1) hk1 hS)
  repeat' (first | (refine go1 ?_; intros) | (refine vl_caseG rfl rfl rfl rfl ?_ ?_ <;> (intro hb; (try simp only [decide_eq_true_eq, decide_eq_false_iff_not, Bool.not_eq_true', Bool.not_eq_false', ne_eq, Decidable.not_not, Option.isNone_iff_eq_none, not_true_eq_false, not_false_eq_true] at hb); try (exfalso; omega))) | (refine v_cond rfl ?_ ?_ <;> (intro hb; (try simp only [decide_eq_true_eq, decide_eq_false_iff_not, Bool.not_eq_true', Bool.not_eq_false', ne_eq, Decidable.not_not, Option.isNone_iff_eq_none, not_true_eq_false, not_false_eq_true] at hb); try (exfalso; omega))) | fail)
  refine vl_o rfl (vo_call rfl rfl ?_)
  haveI : ∀ M, RdC w0 (own 25 32 (some ⟨s1, 0, none⟩) 1 1 (bvs S ++ []) :: M) (prfV K1 b1 s1 S).pa (bvs (prfV K1 b1 s1 S).pl.flatten) := fun M => by
    rw [show bvs (prfV K1 b1 s1 S).pl.flatten = bvs S ++ [] by simp [prfV]]
    exact (inferInstance : RdC w0 (own 25 32 (some ⟨s1, 0, none⟩) 1 1 (bvs S ++ []) :: M) (some ⟨s1, 0, none⟩) (bvs S ++ []))
  haveI : ∀ M N, RdC w0 (M :: rd (some ⟨b1, 0, none⟩) [.int .u8 97] :: N) (prfV K1 b1 s1 S).va (bvs (prfV K1 b1 s1 S).vl) := fun M N => (inferInstance : RdC w0 _ (some ⟨b1, 0, none⟩) [.int .u8 97])
  refine vc_mono (vroot_vc w0 _ (prfV K1 b1 s1 S) (prfV_ok hk1 hS)) ?_
  rintro v L' ⟨rfl, rfl⟩
  rw [prfV_may, if_pos rfl, prfV_root, if_pos (by rw [hK1]; exact bit_3), ← hD1, ← hR1]
  repeat' (first | (refine goB ?_; intros) | (refine vl_caseG rfl rfl rfl rfl ?_ ?_ <;> (intro hb; (try simp only [decide_eq_true_eq, decide_eq_false_iff_not, Bool.not_eq_true', Bool.not_eq_false', ne_eq, Decidable.not_not, Option.isNone_iff_eq_none, not_true_eq_false, not_false_eq_true] at hb); try (exfalso; omega))) | (refine v_cond rfl ?_ ?_ <;> (intro hb; (try simp only [decide_eq_true_eq, decide_eq_false_iff_not, Bool.not_eq_true', Bool.not_eq_false', ne_eq, Decidable.not_not, Option.isNone_iff_eq_none, not_true_eq_false, not_false_eq_true] at hb); try (exfalso; omega))) | fail)
  rename_i b2 s2
  refine vl_q rfl rfl rfl rfl (vq_buildP (cs := (prfV K2 b2 s2 S).cells) rfl (by simp [okS, Value.cells, hk2]) ?_) ?_
  · subst hK2; rfl
  have lp2 := Prf.len (prfV_ok (b := b2) (s := s2) hk2 hS)
  repeat' (first | (refine go1 ?_; intros) | (refine vl_caseG rfl rfl rfl rfl ?_ ?_ <;> (intro hb; (try simp only [decide_eq_true_eq, decide_eq_false_iff_not, Bool.not_eq_true', Bool.not_eq_false', ne_eq, Decidable.not_not, Option.isNone_iff_eq_none, not_true_eq_false, not_false_eq_true] at hb); try (exfalso; omega))) | (refine v_cond rfl ?_ ?_ <;> (intro hb; (try simp only [decide_eq_true_eq, decide_eq_false_iff_not, Bool.not_eq_true', Bool.not_eq_false', ne_eq, Decidable.not_not, Option.isNone_iff_eq_none, not_true_eq_false, not_false_eq_true] at hb); try (exfalso; omega))) | fail)
  refine vl_o rfl (vo_call rfl rfl ?_)
  haveI : ∀ M, RdC w0 (own 25 32 (some ⟨s2, 0, none⟩) 1 1 (bvs S ++ []) :: M) (prfV K2 b2 s2 S).pa (bvs (prfV K2 b2 s2 S).pl.flatten) := fun M => by
    rw [show bvs (prfV K2 b2 s2 S).pl.flatten = bvs S ++ [] by simp [prfV]]
    exact (inferInstance : RdC w0 (own 25 32 (some ⟨s2, 0, none⟩) 1 1 (bvs S ++ []) :: M) (some ⟨s2, 0, none⟩) (bvs S ++ []))
  haveI : ∀ M N, RdC w0 (M :: rd (some ⟨b2, 0, none⟩) [.int .u8 97] :: N) (prfV K2 b2 s2 S).va (bvs (prfV K2 b2 s2 S).vl) := fun M N => (inferInstance : RdC w0 _ (some ⟨b2, 0, none⟩) [.int .u8 97])
  refine vc_mono (vroot_vc w0 _ (prfV K2 b2 s2 S) (prfV_ok hk2 hS)) ?_
  rintro v L' ⟨rfl, rfl⟩
  rw [prfV_may, if_pos rfl, prfV_root, if_neg (by rw [hK2]; exact bit_200), ← hD2, ← hR2]
  repeat' (first | (refine goB ?_; intros) | (refine vl_caseG rfl rfl rfl rfl ?_ ?_ <;> (intro hb; (try simp only [decide_eq_true_eq, decide_eq_false_iff_not, Bool.not_eq_true', Bool.not_eq_false', ne_eq, Decidable.not_not, Option.isNone_iff_eq_none, not_true_eq_false, not_false_eq_true] at hb); try (exfalso; omega))) | (refine v_cond rfl ?_ ?_ <;> (intro hb; (try simp only [decide_eq_true_eq, decide_eq_false_iff_not, Bool.not_eq_true', Bool.not_eq_false', ne_eq, Decidable.not_not, Option.isNone_iff_eq_none, not_true_eq_false, not_false_eq_true] at hb); try (exfalso; omega))) | fail)
  refine vl_q rfl rfl rfl rfl (vq_buildP (cs := prfX.cells) rfl (by simp [okS, Value.cells]) rfl) ?_
  have lpx := Prf.len prfX_ok
  repeat' (first | (refine go1 ?_; intros) | (refine vl_caseG rfl rfl rfl rfl ?_ ?_ <;> (intro hb; (try simp only [decide_eq_true_eq, decide_eq_false_iff_not, Bool.not_eq_true', Bool.not_eq_false', ne_eq, Decidable.not_not, Option.isNone_iff_eq_none, not_true_eq_false, not_false_eq_true] at hb); try (exfalso; omega))) | (refine v_cond rfl ?_ ?_ <;> (intro hb; (try simp only [decide_eq_true_eq, decide_eq_false_iff_not, Bool.not_eq_true', Bool.not_eq_false', ne_eq, Decidable.not_not, Option.isNone_iff_eq_none, not_true_eq_false, not_false_eq_true] at hb); try (exfalso; omega))) | fail)
  refine vl_o rfl (vo_call rfl rfl ?_)
  refine vc_mono (vroot_vc (hr := rdC_nil _ _ _) (hr2 := rdC_nil _ _ _) w0 _ prfX prfX_ok) ?_
  rintro v L' ⟨rfl, rfl⟩
  rw [prfX_may, if_neg (by decide), show prfX.root = List.replicate 32 0 by rw [Prf.root, if_neg (by rw [prfX_may]; decide)]]
  repeat' (first | (refine goE ?_; intros) | (refine vl_caseG rfl rfl rfl rfl ?_ ?_ <;> (intro hb; (try simp only [decide_eq_true_eq, decide_eq_false_iff_not, Bool.not_eq_true', Bool.not_eq_false', ne_eq, Decidable.not_not, Option.isNone_iff_eq_none, not_true_eq_false, not_false_eq_true] at hb); try (exfalso; omega))) | (refine v_cond rfl ?_ ?_ <;> (intro hb; (try simp only [decide_eq_true_eq, decide_eq_false_iff_not, Bool.not_eq_true', Bool.not_eq_false', ne_eq, Decidable.not_not, Option.isNone_iff_eq_none, not_true_eq_false, not_false_eq_true] at hb); try (exfalso; omega))) | fail)
  (refine v_draw0 [] (by kernel_rfl) ?_)
  refine va_one 0 (by kernel_rfl) rfl rfl (vo_call rfl rfl ?_)
  refine vc_mono (alive8_vc w0 _) ?_
  rintro v L' ⟨rfl, rfl⟩
  refine ⟨.inr (SE.ent (by repeat' (first | exact SE.refl _ | refine SE.cons _ ?_ | refine SE.trans (se_drop _ _) ?_)) _), ?_⟩
  ((refine va_takeA 1 rfl rfl rfl rfl ?_) <;> (refine va_takeA 2 rfl rfl rfl rfl ?_) <;> (refine va_takeA 3 rfl rfl rfl rfl ?_) <;> (first | refine va_takeGA 4 rfl rfl rfl rfl rfl rfl rfl rfl ?_ | refine va_passGA 4 rfl rfl rfl rfl rfl rfl rfl rfl ?_ | (refine va_caseG 4 rfl rfl rfl rfl rfl ?_ ?_ <;> (intro hb; (try simp only [decide_eq_true_eq, decide_eq_false_iff_not, Bool.not_eq_true', Bool.not_eq_false', ne_eq, Decidable.not_not, Option.isNone_iff_eq_none, not_true_eq_false, not_false_eq_true] at hb); try (exfalso; omega)) <;> first | refine va_takeGA 4 rfl rfl rfl rfl rfl rfl rfl rfl ?_ | refine va_passGA 4 rfl rfl rfl rfl rfl rfl rfl rfl ?_)) <;> (first | refine va_takeG 5 rfl rfl rfl rfl rfl rfl rfl rfl (by kernel_rfl) (fun _ _ _ _ h => h) (SE.ent (by repeat' (first | exact SE.refl _ | refine SE.cons _ ?_ | refine SE.trans (se_drop _ _) ?_)) _) (by (first | (apply vq_isBin; first | exact vq_neS rfl rfl | exact vq_neBoolS rfl rfl | (apply vq_isOp .neq; first | exact vq_neBS rfl rfl (by first | assumption | (simp; done)) | exact vq_neTxS rfl rfl (by assumption)) | (apply vq_isOp .eql; first | exact vq_eqS rfl rfl | exact vq_eqBS rfl rfl (by first | assumption | (simp; done)) | exact vq_eqTxS rfl rfl (by assumption) | exact vq_eqHdS rfl rfl (by assumption) | exact vq_eqRecS rfl rfl (by assumption) | exact vq_eqTx rfl rfl (by assumption) (by assumption))) | (apply vq_isBin; first | exact vq_lt rfl rfl | exact vq_eq rfl rfl | exact vq_ne rfl rfl | (apply vq_isOp .add; exact vq_add rfl rfl (by first | exact wr_add (by omega) | exact wu_add (by omega) | exact wr_id (by omega) (by omega) | rfl)) | (apply vq_isOp .sub; exact vq_minus rfl rfl (by first | exact wr_sub (by omega) (by omega) | exact wu_sub (by omega) (by omega) | exact wr_id (by omega) (by omega) | rfl)) | exact vq_gt rfl rfl | exact vq_le rfl rfl | exact vq_ge rfl rfl | (apply vq_isOp .mul; exact vq_mul rfl rfl (by first | exact wr_mul (by omega) | exact wr_id (by omega) (by omega) | rfl)) | (apply vq_isOp .or; exact vq_or rfl rfl (by rfl)) | (apply vq_isOp .and; exact vq_and rfl rfl (by rfl)) | (apply vq_isOp .xor; exact vq_xor rfl rfl (by rfl)) | (apply vq_isOp .shl; exact vq_shl rfl rfl (by omega) (by rfl)) | (apply vq_isOp .shr; exact vq_shr rfl rfl (by omega) (by rfl)) | (apply vq_isOp .quo; exact vq_quo rfl rfl (by decide) (by first | exact q8_i64 (by omega) | exact q2_u8 (by omega) | exact q4_i64 (by omega) | assumption | rfl)) | (apply vq_isOp .rem; exact vq_rem rfl rfl (by decide) (by first | exact r8 | exact r2 | exact r4 | exact r64 | assumption | rfl)) | exact vq_eqNil rfl rfl | exact vq_eqBool rfl rfl | (apply vq_isOp .eql; exact vq_eqB rfl rfl (by first | assumption | (simp; done)) (by first | assumption | (simp; done))) | (apply vq_isOp .neq; first | exact vq_neBool rfl rfl | exact vq_neB rfl rfl (by first | assumption | (simp; done)) (by first | assumption | (simp; done)))))) ?_ | refine va_passGA 5 rfl rfl rfl rfl rfl rfl rfl rfl ?_ | (refine va_caseG 5 rfl rfl rfl rfl rfl ?_ ?_ <;> (intro hb; (try simp only [decide_eq_true_eq, decide_eq_false_iff_not, Bool.not_eq_true', Bool.not_eq_false', ne_eq, Decidable.not_not, Option.isNone_iff_eq_none, not_true_eq_false, not_false_eq_true] at hb); try (exfalso; omega)) <;> first | refine va_takeG 5 rfl rfl rfl rfl rfl rfl rfl rfl (by kernel_rfl) (fun _ _ _ _ h => h) (SE.ent (by repeat' (first | exact SE.refl _ | refine SE.cons _ ?_ | refine SE.trans (se_drop _ _) ?_)) _) (by (first | (apply vq_isBin; first | exact vq_neS rfl rfl | exact vq_neBoolS rfl rfl | (apply vq_isOp .neq; first | exact vq_neBS rfl rfl (by first | assumption | (simp; done)) | exact vq_neTxS rfl rfl (by assumption)) | (apply vq_isOp .eql; first | exact vq_eqS rfl rfl | exact vq_eqBS rfl rfl (by first | assumption | (simp; done)) | exact vq_eqTxS rfl rfl (by assumption) | exact vq_eqHdS rfl rfl (by assumption) | exact vq_eqRecS rfl rfl (by assumption) | exact vq_eqTx rfl rfl (by assumption) (by assumption))) | (apply vq_isBin; first | exact vq_lt rfl rfl | exact vq_eq rfl rfl | exact vq_ne rfl rfl | (apply vq_isOp .add; exact vq_add rfl rfl (by first | exact wr_add (by omega) | exact wu_add (by omega) | exact wr_id (by omega) (by omega) | rfl)) | (apply vq_isOp .sub; exact vq_minus rfl rfl (by first | exact wr_sub (by omega) (by omega) | exact wu_sub (by omega) (by omega) | exact wr_id (by omega) (by omega) | rfl)) | exact vq_gt rfl rfl | exact vq_le rfl rfl | exact vq_ge rfl rfl | (apply vq_isOp .mul; exact vq_mul rfl rfl (by first | exact wr_mul (by omega) | exact wr_id (by omega) (by omega) | rfl)) | (apply vq_isOp .or; exact vq_or rfl rfl (by rfl)) | (apply vq_isOp .and; exact vq_and rfl rfl (by rfl)) | (apply vq_isOp .xor; exact vq_xor rfl rfl (by rfl)) | (apply vq_isOp .shl; exact vq_shl rfl rfl (by omega) (by rfl)) | (apply vq_isOp .shr; exact vq_shr rfl rfl (by omega) (by rfl)) | (apply vq_isOp .quo; exact vq_quo rfl rfl (by decide) (by first | exact q8_i64 (by omega) | exact q2_u8 (by omega) | exact q4_i64 (by omega) | assumption | rfl)) | (apply vq_isOp .rem; exact vq_rem rfl rfl (by decide) (by first | exact r8 | exact r2 | exact r4 | exact r64 | assumption | rfl)) | exact vq_eqNil rfl rfl | exact vq_eqBool rfl rfl | (apply vq_isOp .eql; exact vq_eqB rfl rfl (by first | assumption | (simp; done)) (by first | assumption | (simp; done))) | (apply vq_isOp .neq; first | exact vq_neBool rfl rfl | exact vq_neB rfl rfl (by first | assumption | (simp; done)) (by first | assumption | (simp; done)))))) ?_ | refine va_passGA 5 rfl rfl rfl rfl rfl rfl rfl rfl ?_)) <;> (refine va_takeA 6 rfl rfl rfl rfl ?_) <;> (refine va_takeA 7 rfl rfl rfl rfl ?_) <;> (first | refine va_takeGA 8 rfl rfl rfl rfl rfl rfl rfl rfl ?_ | refine va_passGA 8 rfl rfl rfl rfl rfl rfl rfl rfl ?_ | (refine va_caseG 8 rfl rfl rfl rfl rfl ?_ ?_ <;> (intro hb; (try simp only [decide_eq_true_eq, decide_eq_false_iff_not, Bool.not_eq_true', Bool.not_eq_false', ne_eq, Decidable.not_not, Option.isNone_iff_eq_none, not_true_eq_false, not_false_eq_true] at hb); try (exfalso; omega)) <;> first | refine va_takeGA 8 rfl rfl rfl rfl rfl rfl rfl rfl ?_ | refine va_passGA 8 rfl rfl rfl rfl rfl rfl rfl rfl ?_)) <;> (first | refine va_takeGA 9 rfl rfl rfl rfl rfl rfl rfl rfl ?_ | refine va_passGA 9 rfl rfl rfl rfl rfl rfl rfl rfl ?_ | (refine va_caseG 9 rfl rfl rfl rfl rfl ?_ ?_ <;> (intro hb; (try simp only [decide_eq_true_eq, decide_eq_false_iff_not, Bool.not_eq_true', Bool.not_eq_false', ne_eq, Decidable.not_not, Option.isNone_iff_eq_none, not_true_eq_false, not_false_eq_true] at hb); try (exfalso; omega)) <;> first | refine va_takeGA 9 rfl rfl rfl rfl rfl rfl rfl rfl ?_ | refine va_passGA 9 rfl rfl rfl rfl rfl rfl rfl rfl ?_)) <;> (first | refine va_takeGA 10 rfl rfl rfl rfl rfl rfl rfl rfl ?_ | refine va_passGA 10 rfl rfl rfl rfl rfl rfl rfl rfl ?_ | (refine va_caseG 10 rfl rfl rfl rfl rfl ?_ ?_ <;> (intro hb; (try simp only [decide_eq_true_eq, decide_eq_false_iff_not, Bool.not_eq_true', Bool.not_eq_false', ne_eq, Decidable.not_not, Option.isNone_iff_eq_none, not_true_eq_false, not_false_eq_true] at hb); try (exfalso; omega)) <;> first | refine va_takeGA 10 rfl rfl rfl rfl rfl rfl rfl rfl ?_ | refine va_passGA 10 rfl rfl rfl rfl rfl rfl rfl rfl ?_)) <;> ((refine va_oneG 11 (by kernel_rfl) rfl rfl rfl rfl rfl rfl ?_); (first | (refine vo_box rfl rfl rfl ?_; intro _) | (refine vo_alloc rfl ?_; intro _) | (refine vo_isStore ?_; first | (refine vo_isPt0 rfl ?_; refine vo_stWA rfl rfl ?_) | (refine vo_isPt rfl ?_; refine vo_stBA rfl rfl ?_) | (refine vo_stO rfl rfl (by rfl) (by first | rfl | assumption) (by first | assumption | (simp; done) | (simp; omega) | omega) rfl ?_; skip)) | (refine vo_isCall ?_; first | (refine vo_isApp ?_; first | (refine vo_append0A rfl rfl rfl ?_; intro _ _ _ _) | (refine vo_appendA rfl rfl rfl ?_; intro _ _ _ _)) | (refine vo_isCopy ?_; refine vo_copyB rfl rfl rfl (by assumption) (by assumption) (by assumption) (by assumption) ?_) | refine vo_yield rfl rfl rfl rfl rfl ?_ | refine vo_callV rfl rfl rfl (vc_in rfl rfl ?_)) | refine vo_convRow rfl rfl ?_ | (refine vo_isBs ?_; refine vo_buildSlice rfl rfl rfl (by decide) (by repeat' (first | exact trivial | rfl | assumption | refine ⟨?_, ?_⟩ | (simp; done) | (simp; omega))) (by decide) rfl ?_; intro _) | (refine vo_buildSlice0 rfl ?_; intro _) | fail); refine ⟨.inr (SE.ent (by repeat' (first | exact SE.refl _ | refine SE.cons _ ?_ | refine SE.trans (se_drop _ _) ?_)) _), ?_⟩))
  rename_i ga
  refine va_oneG 12 (by kernel_rfl) rfl rfl rfl rfl rfl rfl (vo_call rfl rfl ?_)
  refine vc_mono (tof2_vc w0 _ 2 (by decide) ga (some ⟨g4, 0, none⟩) 32 D1 (some ⟨g3, 0, none⟩) 32 S lD1.symm hS.symm hB3) ?_
  rintro v L' ⟨rfl, rfl⟩
  rw [← hR1]
  refine ⟨.inr (SE.ent (by repeat' (first | exact SE.refl _ | refine SE.cons _ ?_ | refine SE.trans (se_drop _ _) ?_)) _), ?_⟩
  ((first | refine va_takeG 13 rfl rfl rfl rfl rfl rfl rfl rfl (by kernel_rfl) (fun _ _ _ _ h => h) (SE.ent (by repeat' (first | exact SE.refl _ | refine SE.cons _ ?_ | refine SE.trans (se_drop _ _) ?_)) _) (by (first | (apply vq_isBin; first | exact vq_neS rfl rfl | exact vq_neBoolS rfl rfl | (apply vq_isOp .neq; first | exact vq_neBS rfl rfl (by first | assumption | (simp; done)) | exact vq_neTxS rfl rfl (by assumption)) | (apply vq_isOp .eql; first | exact vq_eqS rfl rfl | exact vq_eqBS rfl rfl (by first | assumption | (simp; done)) | exact vq_eqTxS rfl rfl (by assumption) | exact vq_eqHdS rfl rfl (by assumption) | exact vq_eqRecS rfl rfl (by assumption) | exact vq_eqTx rfl rfl (by assumption) (by assumption))) | (apply vq_isBin; first | exact vq_lt rfl rfl | exact vq_eq rfl rfl | exact vq_ne rfl rfl | (apply vq_isOp .add; exact vq_add rfl rfl (by first | exact wr_add (by omega) | exact wu_add (by omega) | exact wr_id (by omega) (by omega) | rfl)) | (apply vq_isOp .sub; exact vq_minus rfl rfl (by first | exact wr_sub (by omega) (by omega) | exact wu_sub (by omega) (by omega) | exact wr_id (by omega) (by omega) | rfl)) | exact vq_gt rfl rfl | exact vq_le rfl rfl | exact vq_ge rfl rfl | (apply vq_isOp .mul; exact vq_mul rfl rfl (by first | exact wr_mul (by omega) | exact wr_id (by omega) (by omega) | rfl)) | (apply vq_isOp .or; exact vq_or rfl rfl (by rfl)) | (apply vq_isOp .and; exact vq_and rfl rfl (by rfl)) | (apply vq_isOp .xor; exact vq_xor rfl rfl (by rfl)) | (apply vq_isOp .shl; exact vq_shl rfl rfl (by omega) (by rfl)) | (apply vq_isOp .shr; exact vq_shr rfl rfl (by omega) (by rfl)) | (apply vq_isOp .quo; exact vq_quo rfl rfl (by decide) (by first | exact q8_i64 (by omega) | exact q2_u8 (by omega) | exact q4_i64 (by omega) | assumption | rfl)) | (apply vq_isOp .rem; exact vq_rem rfl rfl (by decide) (by first | exact r8 | exact r2 | exact r4 | exact r64 | assumption | rfl)) | exact vq_eqNil rfl rfl | exact vq_eqBool rfl rfl | (apply vq_isOp .eql; exact vq_eqB rfl rfl (by first | assumption | (simp; done)) (by first | assumption | (simp; done))) | (apply vq_isOp .neq; first | exact vq_neBool rfl rfl | exact vq_neB rfl rfl (by first | assumption | (simp; done)) (by first | assumption | (simp; done)))))) ?_ | refine va_passGA 13 rfl rfl rfl rfl rfl rfl rfl rfl ?_ | (refine va_caseG 13 rfl rfl rfl rfl rfl ?_ ?_ <;> (intro hb; (try simp only [decide_eq_true_eq, decide_eq_false_iff_not, Bool.not_eq_true', Bool.not_eq_false', ne_eq, Decidable.not_not, Option.isNone_iff_eq_none, not_true_eq_false, not_false_eq_true] at hb); try (exfalso; omega)) <;> first | refine va_takeG 13 rfl rfl rfl rfl rfl rfl rfl rfl (by kernel_rfl) (fun _ _ _ _ h => h) (SE.ent (by repeat' (first | exact SE.refl _ | refine SE.cons _ ?_ | refine SE.trans (se_drop _ _) ?_)) _) (by (first | (apply vq_isBin; first | exact vq_neS rfl rfl | exact vq_neBoolS rfl rfl | (apply vq_isOp .neq; first | exact vq_neBS rfl rfl (by first | assumption | (simp; done)) | exact vq_neTxS rfl rfl (by assumption)) | (apply vq_isOp .eql; first | exact vq_eqS rfl rfl | exact vq_eqBS rfl rfl (by first | assumption | (simp; done)) | exact vq_eqTxS rfl rfl (by assumption) | exact vq_eqHdS rfl rfl (by assumption) | exact vq_eqRecS rfl rfl (by assumption) | exact vq_eqTx rfl rfl (by assumption) (by assumption))) | (apply vq_isBin; first | exact vq_lt rfl rfl | exact vq_eq rfl rfl | exact vq_ne rfl rfl | (apply vq_isOp .add; exact vq_add rfl rfl (by first | exact wr_add (by omega) | exact wu_add (by omega) | exact wr_id (by omega) (by omega) | rfl)) | (apply vq_isOp .sub; exact vq_minus rfl rfl (by first | exact wr_sub (by omega) (by omega) | exact wu_sub (by omega) (by omega) | exact wr_id (by omega) (by omega) | rfl)) | exact vq_gt rfl rfl | exact vq_le rfl rfl | exact vq_ge rfl rfl | (apply vq_isOp .mul; exact vq_mul rfl rfl (by first | exact wr_mul (by omega) | exact wr_id (by omega) (by omega) | rfl)) | (apply vq_isOp .or; exact vq_or rfl rfl (by rfl)) | (apply vq_isOp .and; exact vq_and rfl rfl (by rfl)) | (apply vq_isOp .xor; exact vq_xor rfl rfl (by rfl)) | (apply vq_isOp .shl; exact vq_shl rfl rfl (by omega) (by rfl)) | (apply vq_isOp .shr; exact vq_shr rfl rfl (by omega) (by rfl)) | (apply vq_isOp .quo; exact vq_quo rfl rfl (by decide) (by first | exact q8_i64 (by omega) | exact q2_u8 (by omega) | exact q4_i64 (by omega) | assumption | rfl)) | (apply vq_isOp .rem; exact vq_rem rfl rfl (by decide) (by first | exact r8 | exact r2 | exact r4 | exact r64 | assumption | rfl)) | exact vq_eqNil rfl rfl | exact vq_eqBool rfl rfl | (apply vq_isOp .eql; exact vq_eqB rfl rfl (by first | assumption | (simp; done)) (by first | assumption | (simp; done))) | (apply vq_isOp .neq; first | exact vq_neBool rfl rfl | exact vq_neB rfl rfl (by first | assumption | (simp; done)) (by first | assumption | (simp; done)))))) ?_ | refine va_passGA 13 rfl rfl rfl rfl rfl rfl rfl rfl ?_)) <;> (refine va_takeA 14 rfl rfl rfl rfl ?_) <;> (refine va_takeA 15 rfl rfl rfl rfl ?_) <;> (first | refine va_takeGA 16 rfl rfl rfl rfl rfl rfl rfl rfl ?_ | refine va_passGA 16 rfl rfl rfl rfl rfl rfl rfl rfl ?_ | (refine va_caseG 16 rfl rfl rfl rfl rfl ?_ ?_ <;> (intro hb; (try simp only [decide_eq_true_eq, decide_eq_false_iff_not, Bool.not_eq_true', Bool.not_eq_false', ne_eq, Decidable.not_not, Option.isNone_iff_eq_none, not_true_eq_false, not_false_eq_true] at hb); try (exfalso; omega)) <;> first | refine va_takeGA 16 rfl rfl rfl rfl rfl rfl rfl rfl ?_ | refine va_passGA 16 rfl rfl rfl rfl rfl rfl rfl rfl ?_)) <;> (first | refine va_takeG 17 rfl rfl rfl rfl rfl rfl rfl rfl (by kernel_rfl) (fun _ _ _ _ h => h) (SE.ent (by repeat' (first | exact SE.refl _ | refine SE.cons _ ?_ | refine SE.trans (se_drop _ _) ?_)) _) (by (first | (apply vq_isBin; first | exact vq_neS rfl rfl | exact vq_neBoolS rfl rfl | (apply vq_isOp .neq; first | exact vq_neBS rfl rfl (by first | assumption | (simp; done)) | exact vq_neTxS rfl rfl (by assumption)) | (apply vq_isOp .eql; first | exact vq_eqS rfl rfl | exact vq_eqBS rfl rfl (by first | assumption | (simp; done)) | exact vq_eqTxS rfl rfl (by assumption) | exact vq_eqHdS rfl rfl (by assumption) | exact vq_eqRecS rfl rfl (by assumption) | exact vq_eqTx rfl rfl (by assumption) (by assumption))) | (apply vq_isBin; first | exact vq_lt rfl rfl | exact vq_eq rfl rfl | exact vq_ne rfl rfl | (apply vq_isOp .add; exact vq_add rfl rfl (by first | exact wr_add (by omega) | exact wu_add (by omega) | exact wr_id (by omega) (by omega) | rfl)) | (apply vq_isOp .sub; exact vq_minus rfl rfl (by first | exact wr_sub (by omega) (by omega) | exact wu_sub (by omega) (by omega) | exact wr_id (by omega) (by omega) | rfl)) | exact vq_gt rfl rfl | exact vq_le rfl rfl | exact vq_ge rfl rfl | (apply vq_isOp .mul; exact vq_mul rfl rfl (by first | exact wr_mul (by omega) | exact wr_id (by omega) (by omega) | rfl)) | (apply vq_isOp .or; exact vq_or rfl rfl (by rfl)) | (apply vq_isOp .and; exact vq_and rfl rfl (by rfl)) | (apply vq_isOp .xor; exact vq_xor rfl rfl (by rfl)) | (apply vq_isOp .shl; exact vq_shl rfl rfl (by omega) (by rfl)) | (apply vq_isOp .shr; exact vq_shr rfl rfl (by omega) (by rfl)) | (apply vq_isOp .quo; exact vq_quo rfl rfl (by decide) (by first | exact q8_i64 (by omega) | exact q2_u8 (by omega) | exact q4_i64 (by omega) | assumption | rfl)) | (apply vq_isOp .rem; exact vq_rem rfl rfl (by decide) (by first | exact r8 | exact r2 | exact r4 | exact r64 | assumption | rfl)) | exact vq_eqNil rfl rfl | exact vq_eqBool rfl rfl | (apply vq_isOp .eql; exact vq_eqB rfl rfl (by first | assumption | (simp; done)) (by first | assumption | (simp; done))) | (apply vq_isOp .neq; first | exact vq_neBool rfl rfl | exact vq_neB rfl rfl (by first | assumption | (simp; done)) (by first | assumption | (simp; done)))))) ?_ | refine va_passGA 17 rfl rfl rfl rfl rfl rfl rfl rfl ?_ | (refine va_caseG 17 rfl rfl rfl rfl rfl ?_ ?_ <;> (intro hb; (try simp only [decide_eq_true_eq, decide_eq_false_iff_not, Bool.not_eq_true', Bool.not_eq_false', ne_eq, Decidable.not_not, Option.isNone_iff_eq_none, not_true_eq_false, not_false_eq_true] at hb); try (exfalso; omega)) <;> first | refine va_takeG 17 rfl rfl rfl rfl rfl rfl rfl rfl (by kernel_rfl) (fun _ _ _ _ h => h) (SE.ent (by repeat' (first | exact SE.refl _ | refine SE.cons _ ?_ | refine SE.trans (se_drop _ _) ?_)) _) (by (first | (apply vq_isBin; first | exact vq_neS rfl rfl | exact vq_neBoolS rfl rfl | (apply vq_isOp .neq; first | exact vq_neBS rfl rfl (by first | assumption | (simp; done)) | exact vq_neTxS rfl rfl (by assumption)) | (apply vq_isOp .eql; first | exact vq_eqS rfl rfl | exact vq_eqBS rfl rfl (by first | assumption | (simp; done)) | exact vq_eqTxS rfl rfl (by assumption) | exact vq_eqHdS rfl rfl (by assumption) | exact vq_eqRecS rfl rfl (by assumption) | exact vq_eqTx rfl rfl (by assumption) (by assumption))) | (apply vq_isBin; first | exact vq_lt rfl rfl | exact vq_eq rfl rfl | exact vq_ne rfl rfl | (apply vq_isOp .add; exact vq_add rfl rfl (by first | exact wr_add (by omega) | exact wu_add (by omega) | exact wr_id (by omega) (by omega) | rfl)) | (apply vq_isOp .sub; exact vq_minus rfl rfl (by first | exact wr_sub (by omega) (by omega) | exact wu_sub (by omega) (by omega) | exact wr_id (by omega) (by omega) | rfl)) | exact vq_gt rfl rfl | exact vq_le rfl rfl | exact vq_ge rfl rfl | (apply vq_isOp .mul; exact vq_mul rfl rfl (by first | exact wr_mul (by omega) | exact wr_id (by omega) (by omega) | rfl)) | (apply vq_isOp .or; exact vq_or rfl rfl (by rfl)) | (apply vq_isOp .and; exact vq_and rfl rfl (by rfl)) | (apply vq_isOp .xor; exact vq_xor rfl rfl (by rfl)) | (apply vq_isOp .shl; exact vq_shl rfl rfl (by omega) (by rfl)) | (apply vq_isOp .shr; exact vq_shr rfl rfl (by omega) (by rfl)) | (apply vq_isOp .quo; exact vq_quo rfl rfl (by decide) (by first | exact q8_i64 (by omega) | exact q2_u8 (by omega) | exact q4_i64 (by omega) | assumption | rfl)) | (apply vq_isOp .rem; exact vq_rem rfl rfl (by decide) (by first | exact r8 | exact r2 | exact r4 | exact r64 | assumption | rfl)) | exact vq_eqNil rfl rfl | exact vq_eqBool rfl rfl | (apply vq_isOp .eql; exact vq_eqB rfl rfl (by first | assumption | (simp; done)) (by first | assumption | (simp; done))) | (apply vq_isOp .neq; first | exact vq_neBool rfl rfl | exact vq_neB rfl rfl (by first | assumption | (simp; done)) (by first | assumption | (simp; done)))))) ?_ | refine va_passGA 17 rfl rfl rfl rfl rfl rfl rfl rfl ?_)) <;> (refine va_takeA 18 rfl rfl rfl rfl ?_) <;> (refine va_takeA 19 rfl rfl rfl rfl ?_) <;> (first | refine va_takeGA 20 rfl rfl rfl rfl rfl rfl rfl rfl ?_ | refine va_passGA 20 rfl rfl rfl rfl rfl rfl rfl rfl ?_ | (refine va_caseG 20 rfl rfl rfl rfl rfl ?_ ?_ <;> (intro hb; (try simp only [decide_eq_true_eq, decide_eq_false_iff_not, Bool.not_eq_true', Bool.not_eq_false', ne_eq, Decidable.not_not, Option.isNone_iff_eq_none, not_true_eq_false, not_false_eq_true] at hb); try (exfalso; omega)) <;> first | refine va_takeGA 20 rfl rfl rfl rfl rfl rfl rfl rfl ?_ | refine va_passGA 20 rfl rfl rfl rfl rfl rfl rfl rfl ?_)) <;> (first | refine va_takeGA 21 rfl rfl rfl rfl rfl rfl rfl rfl ?_ | refine va_passGA 21 rfl rfl rfl rfl rfl rfl rfl rfl ?_ | (refine va_caseG 21 rfl rfl rfl rfl rfl ?_ ?_ <;> (intro hb; (try simp only [decide_eq_true_eq, decide_eq_false_iff_not, Bool.not_eq_true', Bool.not_eq_false', ne_eq, Decidable.not_not, Option.isNone_iff_eq_none, not_true_eq_false, not_false_eq_true] at hb); try (exfalso; omega)) <;> first | refine va_takeGA 21 rfl rfl rfl rfl rfl rfl rfl rfl ?_ | refine va_passGA 21 rfl rfl rfl rfl rfl rfl rfl rfl ?_)) <;> (first | refine va_takeGA 22 rfl rfl rfl rfl rfl rfl rfl rfl ?_ | refine va_passGA 22 rfl rfl rfl rfl rfl rfl rfl rfl ?_ | (refine va_caseG 22 rfl rfl rfl rfl rfl ?_ ?_ <;> (intro hb; (try simp only [decide_eq_true_eq, decide_eq_false_iff_not, Bool.not_eq_true', Bool.not_eq_false', ne_eq, Decidable.not_not, Option.isNone_iff_eq_none, not_true_eq_false, not_false_eq_true] at hb); try (exfalso; omega)) <;> first | refine va_takeGA 22 rfl rfl rfl rfl rfl rfl rfl rfl ?_ | refine va_passGA 22 rfl rfl rfl rfl rfl rfl rfl rfl ?_)) <;> ((refine va_oneG 23 (by kernel_rfl) rfl rfl rfl rfl rfl rfl ?_); (first | (refine vo_box rfl rfl rfl ?_; intro _) | (refine vo_alloc rfl ?_; intro _) | (refine vo_isStore ?_; first | (refine vo_isPt0 rfl ?_; refine vo_stWA rfl rfl ?_) | (refine vo_isPt rfl ?_; refine vo_stBA rfl rfl ?_) | (refine vo_stO rfl rfl (by rfl) (by first | rfl | assumption) (by first | assumption | (simp; done) | (simp; omega) | omega) rfl ?_; skip)) | (refine vo_isCall ?_; first | (refine vo_isApp ?_; first | (refine vo_append0A rfl rfl rfl ?_; intro _ _ _ _) | (refine vo_appendA rfl rfl rfl ?_; intro _ _ _ _)) | (refine vo_isCopy ?_; refine vo_copyB rfl rfl rfl (by assumption) (by assumption) (by assumption) (by assumption) ?_) | refine vo_yield rfl rfl rfl rfl rfl ?_ | refine vo_callV rfl rfl rfl (vc_in rfl rfl ?_)) | refine vo_convRow rfl rfl ?_ | (refine vo_isBs ?_; refine vo_buildSlice rfl rfl rfl (by decide) (by repeat' (first | exact trivial | rfl | assumption | refine ⟨?_, ?_⟩ | (simp; done) | (simp; omega))) (by decide) rfl ?_; intro _) | (refine vo_buildSlice0 rfl ?_; intro _) | fail); refine ⟨.inr (SE.ent (by repeat' (first | exact SE.refl _ | refine SE.cons _ ?_ | refine SE.trans (se_drop _ _) ?_)) _), ?_⟩))
  rename_i gb
  refine va_oneG 24 (by kernel_rfl) rfl rfl rfl rfl rfl rfl (vo_call rfl rfl ?_)
  refine vc_mono (tof2_vc w0 _ 2 (by decide) gb (some ⟨g3, 0, none⟩) 32 S (some ⟨g5, 0, none⟩) 32 D2 hS.symm lD2.symm hB4) ?_
  rintro v L' ⟨rfl, rfl⟩
  rw [← hR2]
  refine ⟨.inr (SE.ent (by repeat' (first | exact SE.refl _ | refine SE.cons _ ?_ | refine SE.trans (se_drop _ _) ?_)) _), ?_⟩
  ((first | refine va_takeG 25 rfl rfl rfl rfl rfl rfl rfl rfl (by kernel_rfl) (fun _ _ _ _ h => h) (SE.ent (by repeat' (first | exact SE.refl _ | refine SE.cons _ ?_ | refine SE.trans (se_drop _ _) ?_)) _) (by (first | (apply vq_isBin; first | exact vq_neS rfl rfl | exact vq_neBoolS rfl rfl | (apply vq_isOp .neq; first | exact vq_neBS rfl rfl (by first | assumption | (simp; done)) | exact vq_neTxS rfl rfl (by assumption)) | (apply vq_isOp .eql; first | exact vq_eqS rfl rfl | exact vq_eqBS rfl rfl (by first | assumption | (simp; done)) | exact vq_eqTxS rfl rfl (by assumption) | exact vq_eqHdS rfl rfl (by assumption) | exact vq_eqRecS rfl rfl (by assumption) | exact vq_eqTx rfl rfl (by assumption) (by assumption))) | (apply vq_isBin; first | exact vq_lt rfl rfl | exact vq_eq rfl rfl | exact vq_ne rfl rfl | (apply vq_isOp .add; exact vq_add rfl rfl (by first | exact wr_add (by omega) | exact wu_add (by omega) | exact wr_id (by omega) (by omega) | rfl)) | (apply vq_isOp .sub; exact vq_minus rfl rfl (by first | exact wr_sub (by omega) (by omega) | exact wu_sub (by omega) (by omega) | exact wr_id (by omega) (by omega) | rfl)) | exact vq_gt rfl rfl | exact vq_le rfl rfl | exact vq_ge rfl rfl | (apply vq_isOp .mul; exact vq_mul rfl rfl (by first | exact wr_mul (by omega) | exact wr_id (by omega) (by omega) | rfl)) | (apply vq_isOp .or; exact vq_or rfl rfl (by rfl)) | (apply vq_isOp .and; exact vq_and rfl rfl (by rfl)) | (apply vq_isOp .xor; exact vq_xor rfl rfl (by rfl)) | (apply vq_isOp .shl; exact vq_shl rfl rfl (by omega) (by rfl)) | (apply vq_isOp .shr; exact vq_shr rfl rfl (by omega) (by rfl)) | (apply vq_isOp .quo; exact vq_quo rfl rfl (by decide) (by first | exact q8_i64 (by omega) | exact q2_u8 (by omega) | exact q4_i64 (by omega) | assumption | rfl)) | (apply vq_isOp .rem; exact vq_rem rfl rfl (by decide) (by first | exact r8 | exact r2 | exact r4 | exact r64 | assumption | rfl)) | exact vq_eqNil rfl rfl | exact vq_eqBool rfl rfl | (apply vq_isOp .eql; exact vq_eqB rfl rfl (by first | assumption | (simp; done)) (by first | assumption | (simp; done))) | (apply vq_isOp .neq; first | exact vq_neBool rfl rfl | exact vq_neB rfl rfl (by first | assumption | (simp; done)) (by first | assumption | (simp; done)))))) ?_ | refine va_passGA 25 rfl rfl rfl rfl rfl rfl rfl rfl ?_ | (refine va_caseG 25 rfl rfl rfl rfl rfl ?_ ?_ <;> (intro hb; (try simp only [decide_eq_true_eq, decide_eq_false_iff_not, Bool.not_eq_true', Bool.not_eq_false', ne_eq, Decidable.not_not, Option.isNone_iff_eq_none, not_true_eq_false, not_false_eq_true] at hb); try (exfalso; omega)) <;> first | refine va_takeG 25 rfl rfl rfl rfl rfl rfl rfl rfl (by kernel_rfl) (fun _ _ _ _ h => h) (SE.ent (by repeat' (first | exact SE.refl _ | refine SE.cons _ ?_ | refine SE.trans (se_drop _ _) ?_)) _) (by (first | (apply vq_isBin; first | exact vq_neS rfl rfl | exact vq_neBoolS rfl rfl | (apply vq_isOp .neq; first | exact vq_neBS rfl rfl (by first | assumption | (simp; done)) | exact vq_neTxS rfl rfl (by assumption)) | (apply vq_isOp .eql; first | exact vq_eqS rfl rfl | exact vq_eqBS rfl rfl (by first | assumption | (simp; done)) | exact vq_eqTxS rfl rfl (by assumption) | exact vq_eqHdS rfl rfl (by assumption) | exact vq_eqRecS rfl rfl (by assumption) | exact vq_eqTx rfl rfl (by assumption) (by assumption))) | (apply vq_isBin; first | exact vq_lt rfl rfl | exact vq_eq rfl rfl | exact vq_ne rfl rfl | (apply vq_isOp .add; exact vq_add rfl rfl (by first | exact wr_add (by omega) | exact wu_add (by omega) | exact wr_id (by omega) (by omega) | rfl)) | (apply vq_isOp .sub; exact vq_minus rfl rfl (by first | exact wr_sub (by omega) (by omega) | exact wu_sub (by omega) (by omega) | exact wr_id (by omega) (by omega) | rfl)) | exact vq_gt rfl rfl | exact vq_le rfl rfl | exact vq_ge rfl rfl | (apply vq_isOp .mul; exact vq_mul rfl rfl (by first | exact wr_mul (by omega) | exact wr_id (by omega) (by omega) | rfl)) | (apply vq_isOp .or; exact vq_or rfl rfl (by rfl)) | (apply vq_isOp .and; exact vq_and rfl rfl (by rfl)) | (apply vq_isOp .xor; exact vq_xor rfl rfl (by rfl)) | (apply vq_isOp .shl; exact vq_shl rfl rfl (by omega) (by rfl)) | (apply vq_isOp .shr; exact vq_shr rfl rfl (by omega) (by rfl)) | (apply vq_isOp .quo; exact vq_quo rfl rfl (by decide) (by first | exact q8_i64 (by omega) | exact q2_u8 (by omega) | exact q4_i64 (by omega) | assumption | rfl)) | (apply vq_isOp .rem; exact vq_rem rfl rfl (by decide) (by first | exact r8 | exact r2 | exact r4 | exact r64 | assumption | rfl)) | exact vq_eqNil rfl rfl | exact vq_eqBool rfl rfl | (apply vq_isOp .eql; exact vq_eqB rfl rfl (by first | assumption | (simp; done)) (by first | assumption | (simp; done))) | (apply vq_isOp .neq; first | exact vq_neBool rfl rfl | exact vq_neB rfl rfl (by first | assumption | (simp; done)) (by first | assumption | (simp; done)))))) ?_ | refine va_passGA 25 rfl rfl rfl rfl rfl rfl rfl rfl ?_)) <;> (refine va_takeA 26 rfl rfl rfl rfl ?_) <;> (refine va_takeA 27 rfl rfl rfl rfl ?_) <;> (first | refine va_takeGA 28 rfl rfl rfl rfl rfl rfl rfl rfl ?_ | refine va_passGA 28 rfl rfl rfl rfl rfl rfl rfl rfl ?_ | (refine va_caseG 28 rfl rfl rfl rfl rfl ?_ ?_ <;> (intro hb; (try simp only [decide_eq_true_eq, decide_eq_false_iff_not, Bool.not_eq_true', Bool.not_eq_false', ne_eq, Decidable.not_not, Option.isNone_iff_eq_none, not_true_eq_false, not_false_eq_true] at hb); try (exfalso; omega)) <;> first | refine va_takeGA 28 rfl rfl rfl rfl rfl rfl rfl rfl ?_ | refine va_passGA 28 rfl rfl rfl rfl rfl rfl rfl rfl ?_)) <;> (first | refine va_takeG 29 rfl rfl rfl rfl rfl rfl rfl rfl (by kernel_rfl) (fun _ _ _ _ h => h) (SE.ent (by repeat' (first | exact SE.refl _ | refine SE.cons _ ?_ | refine SE.trans (se_drop _ _) ?_)) _) (by (first | (apply vq_isBin; first | exact vq_neS rfl rfl | exact vq_neBoolS rfl rfl | (apply vq_isOp .neq; first | exact vq_neBS rfl rfl (by first | assumption | (simp; done)) | exact vq_neTxS rfl rfl (by assumption)) | (apply vq_isOp .eql; first | exact vq_eqS rfl rfl | exact vq_eqBS rfl rfl (by first | assumption | (simp; done)) | exact vq_eqTxS rfl rfl (by assumption) | exact vq_eqHdS rfl rfl (by assumption) | exact vq_eqRecS rfl rfl (by assumption) | exact vq_eqTx rfl rfl (by assumption) (by assumption))) | (apply vq_isBin; first | exact vq_lt rfl rfl | exact vq_eq rfl rfl | exact vq_ne rfl rfl | (apply vq_isOp .add; exact vq_add rfl rfl (by first | exact wr_add (by omega) | exact wu_add (by omega) | exact wr_id (by omega) (by omega) | rfl)) | (apply vq_isOp .sub; exact vq_minus rfl rfl (by first | exact wr_sub (by omega) (by omega) | exact wu_sub (by omega) (by omega) | exact wr_id (by omega) (by omega) | rfl)) | exact vq_gt rfl rfl | exact vq_le rfl rfl | exact vq_ge rfl rfl | (apply vq_isOp .mul; exact vq_mul rfl rfl (by first | exact wr_mul (by omega) | exact wr_id (by omega) (by omega) | rfl)) | (apply vq_isOp .or; exact vq_or rfl rfl (by rfl)) | (apply vq_isOp .and; exact vq_and rfl rfl (by rfl)) | (apply vq_isOp .xor; exact vq_xor rfl rfl (by rfl)) | (apply vq_isOp .shl; exact vq_shl rfl rfl (by omega) (by rfl)) | (apply vq_isOp .shr; exact vq_shr rfl rfl (by omega) (by rfl)) | (apply vq_isOp .quo; exact vq_quo rfl rfl (by decide) (by first | exact q8_i64 (by omega) | exact q2_u8 (by omega) | exact q4_i64 (by omega) | assumption | rfl)) | (apply vq_isOp .rem; exact vq_rem rfl rfl (by decide) (by first | exact r8 | exact r2 | exact r4 | exact r64 | assumption | rfl)) | exact vq_eqNil rfl rfl | exact vq_eqBool rfl rfl | (apply vq_isOp .eql; exact vq_eqB rfl rfl (by first | assumption | (simp; done)) (by first | assumption | (simp; done))) | (apply vq_isOp .neq; first | exact vq_neBool rfl rfl | exact vq_neB rfl rfl (by first | assumption | (simp; done)) (by first | assumption | (simp; done)))))) ?_ | refine va_passGA 29 rfl rfl rfl rfl rfl rfl rfl rfl ?_ | (refine va_caseG 29 rfl rfl rfl rfl rfl ?_ ?_ <;> (intro hb; (try simp only [decide_eq_true_eq, decide_eq_false_iff_not, Bool.not_eq_true', Bool.not_eq_false', ne_eq, Decidable.not_not, Option.isNone_iff_eq_none, not_true_eq_false, not_false_eq_true] at hb); try (exfalso; omega)) <;> first | refine va_takeG 29 rfl rfl rfl rfl rfl rfl rfl rfl (by kernel_rfl) (fun _ _ _ _ h => h) (SE.ent (by repeat' (first | exact SE.refl _ | refine SE.cons _ ?_ | refine SE.trans (se_drop _ _) ?_)) _) (by (first | (apply vq_isBin; first | exact vq_neS rfl rfl | exact vq_neBoolS rfl rfl | (apply vq_isOp .neq; first | exact vq_neBS rfl rfl (by first | assumption | (simp; done)) | exact vq_neTxS rfl rfl (by assumption)) | (apply vq_isOp .eql; first | exact vq_eqS rfl rfl | exact vq_eqBS rfl rfl (by first | assumption | (simp; done)) | exact vq_eqTxS rfl rfl (by assumption) | exact vq_eqHdS rfl rfl (by assumption) | exact vq_eqRecS rfl rfl (by assumption) | exact vq_eqTx rfl rfl (by assumption) (by assumption))) | (apply vq_isBin; first | exact vq_lt rfl rfl | exact vq_eq rfl rfl | exact vq_ne rfl rfl | (apply vq_isOp .add; exact vq_add rfl rfl (by first | exact wr_add (by omega) | exact wu_add (by omega) | exact wr_id (by omega) (by omega) | rfl)) | (apply vq_isOp .sub; exact vq_minus rfl rfl (by first | exact wr_sub (by omega) (by omega) | exact wu_sub (by omega) (by omega) | exact wr_id (by omega) (by omega) | rfl)) | exact vq_gt rfl rfl | exact vq_le rfl rfl | exact vq_ge rfl rfl | (apply vq_isOp .mul; exact vq_mul rfl rfl (by first | exact wr_mul (by omega) | exact wr_id (by omega) (by omega) | rfl)) | (apply vq_isOp .or; exact vq_or rfl rfl (by rfl)) | (apply vq_isOp .and; exact vq_and rfl rfl (by rfl)) | (apply vq_isOp .xor; exact vq_xor rfl rfl (by rfl)) | (apply vq_isOp .shl; exact vq_shl rfl rfl (by omega) (by rfl)) | (apply vq_isOp .shr; exact vq_shr rfl rfl (by omega) (by rfl)) | (apply vq_isOp .quo; exact vq_quo rfl rfl (by decide) (by first | exact q8_i64 (by omega) | exact q2_u8 (by omega) | exact q4_i64 (by omega) | assumption | rfl)) | (apply vq_isOp .rem; exact vq_rem rfl rfl (by decide) (by first | exact r8 | exact r2 | exact r4 | exact r64 | assumption | rfl)) | exact vq_eqNil rfl rfl | exact vq_eqBool rfl rfl | (apply vq_isOp .eql; exact vq_eqB rfl rfl (by first | assumption | (simp; done)) (by first | assumption | (simp; done))) | (apply vq_isOp .neq; first | exact vq_neBool rfl rfl | exact vq_neB rfl rfl (by first | assumption | (simp; done)) (by first | assumption | (simp; done)))))) ?_ | refine va_passGA 29 rfl rfl rfl rfl rfl rfl rfl rfl ?_)) <;> (refine va_takeA 30 rfl rfl rfl rfl ?_) <;> (refine va_takeA 31 rfl rfl rfl rfl ?_) <;> (first | refine va_takeGA 32 rfl rfl rfl rfl rfl rfl rfl rfl ?_ | refine va_passGA 32 rfl rfl rfl rfl rfl rfl rfl rfl ?_ | (refine va_caseG 32 rfl rfl rfl rfl rfl ?_ ?_ <;> (intro hb; (try simp only [decide_eq_true_eq, decide_eq_false_iff_not, Bool.not_eq_true', Bool.not_eq_false', ne_eq, Decidable.not_not, Option.isNone_iff_eq_none, not_true_eq_false, not_false_eq_true] at hb); try (exfalso; omega)) <;> first | refine va_takeGA 32 rfl rfl rfl rfl rfl rfl rfl rfl ?_ | refine va_passGA 32 rfl rfl rfl rfl rfl rfl rfl rfl ?_)) <;> (first | refine va_takeGA 33 rfl rfl rfl rfl rfl rfl rfl rfl ?_ | refine va_passGA 33 rfl rfl rfl rfl rfl rfl rfl rfl ?_ | (refine va_caseG 33 rfl rfl rfl rfl rfl ?_ ?_ <;> (intro hb; (try simp only [decide_eq_true_eq, decide_eq_false_iff_not, Bool.not_eq_true', Bool.not_eq_false', ne_eq, Decidable.not_not, Option.isNone_iff_eq_none, not_true_eq_false, not_false_eq_true] at hb); try (exfalso; omega)) <;> first | refine va_takeGA 33 rfl rfl rfl rfl rfl rfl rfl rfl ?_ | refine va_passGA 33 rfl rfl rfl rfl rfl rfl rfl rfl ?_)))
  refine va_oneG 34 (by kernel_rfl) rfl rfl rfl rfl rfl rfl (vo_call rfl rfl ?_)
  show VC _ _ _ [.agg prfX.cells.toArray, .agg (bvs (List.replicate 32 0)).toArray] _ _
  refine vc_mono (vfits_vc (hr := rdC_nil _ _ _) (hr2 := rdC_nil _ _ _) w0 _ prfX prfX_ok (List.replicate 32 0) (by simp)) ?_
  rintro v L' ⟨rfl, rfl⟩
  rw [prfX_may, Bool.false_and]
  refine ⟨.inr (SE.ent (by repeat' (first | exact SE.refl _ | refine SE.cons _ ?_ | refine SE.trans (se_drop _ _) ?_)) _), ?_⟩
  ((first | refine va_takeGA 35 rfl rfl rfl rfl rfl rfl rfl rfl ?_ | refine va_passGA 35 rfl rfl rfl rfl rfl rfl rfl rfl ?_ | (refine va_caseG 35 rfl rfl rfl rfl rfl ?_ ?_ <;> (intro hb; (try simp only [decide_eq_true_eq, decide_eq_false_iff_not, Bool.not_eq_true', Bool.not_eq_false', ne_eq, Decidable.not_not, Option.isNone_iff_eq_none, not_true_eq_false, not_false_eq_true] at hb); try (exfalso; omega)) <;> first | refine va_takeGA 35 rfl rfl rfl rfl rfl rfl rfl rfl ?_ | refine va_passGA 35 rfl rfl rfl rfl rfl rfl rfl rfl ?_)) <;> (refine va_takeA 36 rfl rfl rfl rfl ?_) <;> (refine va_takeA 37 rfl rfl rfl rfl ?_) <;> (refine va_done (by kernel_rfl) ?_))
  repeat' (first | (refine goE ?_; intros) | (refine vl_caseG rfl rfl rfl rfl ?_ ?_ <;> (intro hb; (try simp only [decide_eq_true_eq, decide_eq_false_iff_not, Bool.not_eq_true', Bool.not_eq_false', ne_eq, Decidable.not_not, Option.isNone_iff_eq_none, not_true_eq_false, not_false_eq_true] at hb); try (exfalso; omega))) | (refine v_cond rfl ?_ ?_ <;> (intro hb; (try simp only [decide_eq_true_eq, decide_eq_false_iff_not, Bool.not_eq_true', Bool.not_eq_false', ne_eq, Decidable.not_not, Option.isNone_iff_eq_none, not_true_eq_false, not_false_eq_true] at hb); try (exfalso; omega))) | fail)
  exact rfl
end Go.Proofs.YtmfpiodcioakhaaDoor
