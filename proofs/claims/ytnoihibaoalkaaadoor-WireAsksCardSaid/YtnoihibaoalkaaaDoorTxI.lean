/-
  Transactions of bytes: the document's walk.
-/
import Derived.Test.YtnoihibaoalkaaaDoorTxG
import Derived.Test.YtnoihibaoalkaaaDoorGC
set_option linter.unusedVariables false
set_option linter.unusedSimpArgs false
namespace Go.Proofs.YtnoihibaoalkaaaDoor
open Go Go.RowKit
set_option linter.unusedVariables false
set_option linter.unusedSimpArgs false

theorem cut8 (l : List UInt8) (k : Nat) : (l.take (k + 8)).drop k = (l.drop k).take 8 := by
  rw [List.drop_take, show k + 8 - k = 8 by omega]
set_option maxRecDepth 100000 in
set_option maxHeartbeats 4000000 in
theorem rtxread_vc (w0 : World) (L : List Asn) (a : Option Addr) (cap : Nat) (l : List UInt8) {n : Nat} (hn : n = l.length) (hcap : l.length ≤ cap) (hl : l.length ≤ 1000000000) [hr : RdC w0 L a (bvs l)] :
    VC Tryd.prog w0 81 [.slice a n cap] L fun v L' => v = .tuple #[.agg (txRead l).1.cells.toArray, .int .i64 (txRead l).2] ∧ L' = L := by
  subst hn
  have hzlen := Tx.len zeroTx_ok
  refine vc_ent ?_
  refine vc_in rfl rfl ?_
  by_cases h1 : l.length < 120
  · have e : txRead l = (zeroTx, 10) := by simp [txRead, h1]
    rw [e]
    repeat' (first | (refine go1 ?_; intros) | (refine vl_caseG rfl rfl rfl rfl ?_ ?_ <;> (intro hb; (try simp only [decide_eq_true_eq, decide_eq_false_iff_not, Bool.not_eq_true', Bool.not_eq_false', ne_eq, Decidable.not_not, Option.isNone_iff_eq_none, not_true_eq_false, not_false_eq_true] at hb); try (exfalso; omega))) | (refine v_cond rfl ?_ ?_ <;> (intro hb; (try simp only [decide_eq_true_eq, decide_eq_false_iff_not, Bool.not_eq_true', Bool.not_eq_false', ne_eq, Decidable.not_not, Option.isNone_iff_eq_none, not_true_eq_false, not_false_eq_true] at hb); try (exfalso; omega))) | fail)
    exact ⟨_, (se_drop _ _).ent w0, rfl, rfl⟩
  by_cases h2 : 120 < l.length
  · have e : txRead l = (zeroTx, 11) := by simp [txRead, h1, h2]
    rw [e]
    repeat' (first | (refine go1 ?_; intros) | (refine vl_caseG rfl rfl rfl rfl ?_ ?_ <;> (intro hb; (try simp only [decide_eq_true_eq, decide_eq_false_iff_not, Bool.not_eq_true', Bool.not_eq_false', ne_eq, Decidable.not_not, Option.isNone_iff_eq_none, not_true_eq_false, not_false_eq_true] at hb); try (exfalso; omega))) | (refine v_cond rfl ?_ ?_ <;> (intro hb; (try simp only [decide_eq_true_eq, decide_eq_false_iff_not, Bool.not_eq_true', Bool.not_eq_false', ne_eq, Decidable.not_not, Option.isNone_iff_eq_none, not_true_eq_false, not_false_eq_true] at hb); try (exfalso; omega))) | fail)
    exact ⟨_, (se_drop _ _).ent w0, rfl, rfl⟩
  have h120 : l.length = 120 := by omega
  obtain ⟨p, hp⟩ : ∃ p, p = l.take 32 := ⟨_, rfl⟩
  obtain ⟨t, ht⟩ : ∃ t, t = (l.drop 32).take 32 := ⟨_, rfl⟩
  obtain ⟨s, hs⟩ : ∃ s, s = (l.drop 88).take 32 := ⟨_, rfl⟩
  have pl : p.length = 32 := by rw [hp]; simp; omega
  have tl : t.length = 32 := by rw [ht]; simp; omega
  have sl : s.length = 32 := by rw [hs]; simp; omega
  obtain ⟨N, hN⟩ : ∃ N, N = numOf ((l.take 72).drop 64) := ⟨_, rfl⟩
  obtain ⟨A, hA⟩ : ∃ A, A = numOf ((l.take 80).drop 72) := ⟨_, rfl⟩
  obtain ⟨F, hF⟩ : ∃ F, F = numOf ((l.take 88).drop 80) := ⟨_, rfl⟩
  have hof : txOf l = ⟨p, t, N, A, F, s⟩ := by
    rw [hp, ht, hs, hN, hA, hF, show (72 : Nat) = 64 + 8 from rfl, show (80 : Nat) = 72 + 8 from rfl, show (88 : Nat) = 80 + 8 from rfl, cut8, cut8, cut8]
    rfl
  have ht0 : p = (l.drop 0).take 32 := by rw [List.drop_zero]; exact hp
  have o6 : Tx.ok ⟨p, t, N, A, F, s⟩ := by rw [← hof]; exact txOf_ok h120
  have l6 := Tx.len o6
  have hE : bvs p ++ (bvs t ++ (.int .u64 (N : Int) :: .int .u64 (A : Int) :: .int .u64 (F : Int) :: (bvs s ++ []))) = Tx.cells ⟨p, t, N, A, F, s⟩ := by simp [Tx.cells]
  haveI r1 : RdC w0 L (subA a 64 cap 1) (bvs ((l.take 72).drop 64)) := rd_cut 64 72 cap (by omega)
  haveI r2 : RdC w0 L (subA a 72 cap 1) (bvs ((l.take 80).drop 72)) := rd_cut 72 80 cap (by omega)
  haveI r3 : RdC w0 L (subA a 80 cap 1) (bvs ((l.take 88).drop 80)) := rd_cut 80 88 cap (by omega)
  repeat' (first | (refine go1 ?_; intros) | (refine vl_caseG rfl rfl rfl rfl ?_ ?_ <;> (intro hb; (try simp only [decide_eq_true_eq, decide_eq_false_iff_not, Bool.not_eq_true', Bool.not_eq_false', ne_eq, Decidable.not_not, Option.isNone_iff_eq_none, not_true_eq_false, not_false_eq_true] at hb); try (exfalso; omega))) | (refine v_cond rfl ?_ ?_ <;> (intro hb; (try simp only [decide_eq_true_eq, decide_eq_false_iff_not, Bool.not_eq_true', Bool.not_eq_false', ne_eq, Decidable.not_not, Option.isNone_iff_eq_none, not_true_eq_false, not_false_eq_true] at hb); try (exfalso; omega))) | fail)
  rename_i g1 _
  refine v_cut Nat [0, 2] rfl (fun g => [(4, .pointer (some ⟨g, 0, none⟩))]) (fun g => blk g 67 (Tx.cells ⟨p, t, N, A, F, s⟩) :: blk g1 67 zeroTx.cells :: L) ?_ ?_
  · (refine v_draw0 [] (by kernel_rfl) ?_ <;> (refine va_takeA 0 rfl rfl rfl rfl ?_) <;> (refine va_takeA 2 rfl rfl rfl rfl ?_) <;> (refine va_takeA 4 rfl rfl rfl rfl ?_) <;> (refine va_takeA 5 rfl rfl rfl rfl ?_) <;> (refine va_takeA 7 rfl rfl rfl rfl ?_) <;> (refine va_takeA 8 rfl rfl rfl rfl ?_) <;> (refine va_takeA 10 rfl rfl rfl rfl ?_) <;> (refine va_takeA 11 rfl rfl rfl rfl ?_) <;> (refine va_takeA 13 rfl rfl rfl rfl ?_))
    refine va_two 1 16 (by kernel_rfl) rfl rfl rfl rfl (vo_call rfl rfl ?_) ?_
    · refine vc_mono (rdigest_vc w0 _ a cap l 0 rfl (by omega) hl) ?_
      rintro v L' ⟨rfl, rfl⟩
      rw [← ht0]
      refine ⟨.inr (SE.ent (by repeat' (first | exact SE.refl _ | refine SE.cons _ ?_ | refine SE.trans (se_drop _ _) ?_)) _), ?_⟩
      refine va_two 3 16 (by kernel_rfl) rfl rfl rfl rfl (vo_call rfl rfl ?_) ?_
      · refine vc_mono (rdigest_vc w0 _ a cap l 32 rfl (by omega) hl) ?_
        rintro v L' ⟨rfl, rfl⟩
        rw [← ht]
        refine ⟨.inr (SE.ent (by repeat' (first | exact SE.refl _ | refine SE.cons _ ?_ | refine SE.trans (se_drop _ _) ?_)) _), ?_⟩
        refine va_two 6 16 (by kernel_rfl) rfl rfl rfl rfl (vo_call rfl rfl ?_) ?_
        · refine vc_mono (number_vc w0 _ (subA a 64 cap 1) (cap - 64) ((l.take 72).drop 64) (by simp; omega) (by simp; omega)) ?_
          rintro v L' ⟨rfl, rfl⟩
          rw [← hN]
          refine ⟨.inr (SE.ent (by repeat' (first | exact SE.refl _ | refine SE.cons _ ?_ | refine SE.trans (se_drop _ _) ?_)) _), ?_⟩
          refine va_two 9 16 (by kernel_rfl) rfl rfl rfl rfl (vo_call rfl rfl ?_) ?_
          · refine vc_mono (number_vc w0 _ (subA a 72 cap 1) (cap - 72) ((l.take 80).drop 72) (by simp; omega) (by simp; omega)) ?_
            rintro v L' ⟨rfl, rfl⟩
            rw [← hA]
            refine ⟨.inr (SE.ent (by repeat' (first | exact SE.refl _ | refine SE.cons _ ?_ | refine SE.trans (se_drop _ _) ?_)) _), ?_⟩
            refine va_two 12 16 (by kernel_rfl) rfl rfl rfl rfl (vo_call rfl rfl ?_) ?_
            · refine vc_mono (number_vc w0 _ (subA a 80 cap 1) (cap - 80) ((l.take 88).drop 80) (by simp; omega) (by simp; omega)) ?_
              rintro v L' ⟨rfl, rfl⟩
              rw [← hF]
              refine ⟨.inr (SE.ent (by repeat' (first | exact SE.refl _ | refine SE.cons _ ?_ | refine SE.trans (se_drop _ _) ?_)) _), ?_⟩
              refine va_two 14 16 (by kernel_rfl) rfl rfl rfl rfl (vo_call rfl rfl ?_) ?_
              · refine vc_mono (rdigest_vc w0 _ a cap l 88 rfl (by omega) hl) ?_
                rintro v L' ⟨rfl, rfl⟩
                rw [← hs]
                refine ⟨.inr (SE.ent (by repeat' (first | exact SE.refl _ | refine SE.cons _ ?_ | refine SE.trans (se_drop _ _) ?_)) _), ?_⟩
                refine va_take 15 rfl rfl rfl rfl (by kernel_rfl) (fun _ _ _ _ h => h) (SE.ent (by repeat' (first | exact SE.refl _ | refine SE.cons _ ?_ | refine SE.trans (se_drop _ _) ?_)) _) (vq_build (us := bvs p ++ (bvs t ++ (.int .u64 (N : Int) :: .int .u64 (A : Int) :: .int .u64 (F : Int) :: (bvs s ++ [])))) rfl rfl (by simp [plOf, Value.cells, pl, tl, sl]) (by rw [hE]; exact l6)) ?_
                rw [hE]
                refine va_one 16 (by kernel_rfl) rfl rfl ?_
                refine vo_alloc rfl ?_
                intro g4
                refine ⟨.inr (SE.ent (by repeat' (first | exact SE.refl _ | refine SE.cons _ ?_ | refine SE.trans (se_drop _ _) ?_)) _), ?_⟩
                refine va_one 17 (by kernel_rfl) rfl rfl ?_
                (first | (refine vo_box rfl rfl rfl ?_; intro _) | (refine vo_alloc rfl ?_; intro _) | (refine vo_isStore ?_; first | (refine vo_isPt0 rfl ?_; refine vo_stWA rfl rfl ?_) | (refine vo_isPt rfl ?_; refine vo_stBA rfl rfl ?_) | (refine vo_stO rfl rfl (by rfl) (by first | rfl | assumption) (by first | assumption | (simp; done) | (simp; omega) | omega) rfl ?_; skip)) | (refine vo_isCall ?_; first | (refine vo_isApp ?_; first | (refine vo_append0A rfl rfl rfl ?_; intro _ _ _ _) | (refine vo_appendA rfl rfl rfl ?_; intro _ _ _ _)) | (refine vo_isCopy ?_; refine vo_copyB rfl rfl rfl (by assumption) (by assumption) (by assumption) (by assumption) ?_) | refine vo_yield rfl rfl rfl rfl rfl ?_ | refine vo_callV rfl rfl rfl (vc_in rfl rfl ?_)) | refine vo_convRow rfl rfl ?_ | (refine vo_isBs ?_; refine vo_buildSlice rfl rfl rfl (by decide) (by repeat' (first | exact trivial | rfl | assumption | refine ⟨?_, ?_⟩ | (simp; done) | (simp; omega))) (by decide) rfl ?_; intro _) | (refine vo_buildSlice0 rfl ?_; intro _) | fail)
                refine ⟨.inr (SE.ent (by repeat' (first | exact SE.refl _ | refine SE.cons _ ?_ | refine SE.trans (se_drop _ _) ?_)) _), ?_⟩
                refine va_done (by kernel_rfl) ?_
                exact ⟨rfl, g4, by (repeat' (first | exact Sub.nil _ | refine Sub.cons rfl rfl ?_ | refine Sub.cons rfl ?_ ?_)), Ent.refl _ _⟩
              · refine vo_alloc rfl ?_
                intro g4
                refine ⟨.inr (SE.ent (by repeat' (first | exact SE.refl _ | refine SE.cons _ ?_ | refine SE.trans (se_drop _ _) ?_)) _), ?_⟩
                refine va_one 14 (by kernel_rfl) rfl rfl (vo_call rfl rfl ?_)
                refine vc_mono (rdigest_vc w0 _ a cap l 88 rfl (by omega) hl) ?_
                rintro v L' ⟨rfl, rfl⟩
                rw [← hs]
                refine ⟨.inr (SE.ent (by repeat' (first | exact SE.refl _ | refine SE.cons _ ?_ | refine SE.trans (se_drop _ _) ?_)) _), ?_⟩
                refine va_take 15 rfl rfl rfl rfl (by kernel_rfl) (fun _ _ _ _ h => h) (SE.ent (by repeat' (first | exact SE.refl _ | refine SE.cons _ ?_ | refine SE.trans (se_drop _ _) ?_)) _) (vq_build (us := bvs p ++ (bvs t ++ (.int .u64 (N : Int) :: .int .u64 (A : Int) :: .int .u64 (F : Int) :: (bvs s ++ [])))) rfl rfl (by simp [plOf, Value.cells, pl, tl, sl]) (by rw [hE]; exact l6)) ?_
                rw [hE]
                refine va_one 17 (by kernel_rfl) rfl rfl ?_
                (first | (refine vo_box rfl rfl rfl ?_; intro _) | (refine vo_alloc rfl ?_; intro _) | (refine vo_isStore ?_; first | (refine vo_isPt0 rfl ?_; refine vo_stWA rfl rfl ?_) | (refine vo_isPt rfl ?_; refine vo_stBA rfl rfl ?_) | (refine vo_stO rfl rfl (by rfl) (by first | rfl | assumption) (by first | assumption | (simp; done) | (simp; omega) | omega) rfl ?_; skip)) | (refine vo_isCall ?_; first | (refine vo_isApp ?_; first | (refine vo_append0A rfl rfl rfl ?_; intro _ _ _ _) | (refine vo_appendA rfl rfl rfl ?_; intro _ _ _ _)) | (refine vo_isCopy ?_; refine vo_copyB rfl rfl rfl (by assumption) (by assumption) (by assumption) (by assumption) ?_) | refine vo_yield rfl rfl rfl rfl rfl ?_ | refine vo_callV rfl rfl rfl (vc_in rfl rfl ?_)) | refine vo_convRow rfl rfl ?_ | (refine vo_isBs ?_; refine vo_buildSlice rfl rfl rfl (by decide) (by repeat' (first | exact trivial | rfl | assumption | refine ⟨?_, ?_⟩ | (simp; done) | (simp; omega))) (by decide) rfl ?_; intro _) | (refine vo_buildSlice0 rfl ?_; intro _) | fail)
                refine ⟨.inr (SE.ent (by repeat' (first | exact SE.refl _ | refine SE.cons _ ?_ | refine SE.trans (se_drop _ _) ?_)) _), ?_⟩
                refine va_done (by kernel_rfl) ?_
                exact ⟨rfl, g4, by (repeat' (first | exact Sub.nil _ | refine Sub.cons rfl rfl ?_ | refine Sub.cons rfl ?_ ?_)), Ent.refl _ _⟩
            · refine vo_alloc rfl ?_
              intro g4
              refine ⟨.inr (SE.ent (by repeat' (first | exact SE.refl _ | refine SE.cons _ ?_ | refine SE.trans (se_drop _ _) ?_)) _), ?_⟩
              refine va_one 12 (by kernel_rfl) rfl rfl (vo_call rfl rfl ?_)
              refine vc_mono (number_vc w0 _ (subA a 80 cap 1) (cap - 80) ((l.take 88).drop 80) (by simp; omega) (by simp; omega)) ?_
              rintro v L' ⟨rfl, rfl⟩
              rw [← hF]
              refine ⟨.inr (SE.ent (by repeat' (first | exact SE.refl _ | refine SE.cons _ ?_ | refine SE.trans (se_drop _ _) ?_)) _), ?_⟩
              refine va_one 14 (by kernel_rfl) rfl rfl (vo_call rfl rfl ?_)
              refine vc_mono (rdigest_vc w0 _ a cap l 88 rfl (by omega) hl) ?_
              rintro v L' ⟨rfl, rfl⟩
              rw [← hs]
              refine ⟨.inr (SE.ent (by repeat' (first | exact SE.refl _ | refine SE.cons _ ?_ | refine SE.trans (se_drop _ _) ?_)) _), ?_⟩
              refine va_take 15 rfl rfl rfl rfl (by kernel_rfl) (fun _ _ _ _ h => h) (SE.ent (by repeat' (first | exact SE.refl _ | refine SE.cons _ ?_ | refine SE.trans (se_drop _ _) ?_)) _) (vq_build (us := bvs p ++ (bvs t ++ (.int .u64 (N : Int) :: .int .u64 (A : Int) :: .int .u64 (F : Int) :: (bvs s ++ [])))) rfl rfl (by simp [plOf, Value.cells, pl, tl, sl]) (by rw [hE]; exact l6)) ?_
              rw [hE]
              refine va_one 17 (by kernel_rfl) rfl rfl ?_
              (first | (refine vo_box rfl rfl rfl ?_; intro _) | (refine vo_alloc rfl ?_; intro _) | (refine vo_isStore ?_; first | (refine vo_isPt0 rfl ?_; refine vo_stWA rfl rfl ?_) | (refine vo_isPt rfl ?_; refine vo_stBA rfl rfl ?_) | (refine vo_stO rfl rfl (by rfl) (by first | rfl | assumption) (by first | assumption | (simp; done) | (simp; omega) | omega) rfl ?_; skip)) | (refine vo_isCall ?_; first | (refine vo_isApp ?_; first | (refine vo_append0A rfl rfl rfl ?_; intro _ _ _ _) | (refine vo_appendA rfl rfl rfl ?_; intro _ _ _ _)) | (refine vo_isCopy ?_; refine vo_copyB rfl rfl rfl (by assumption) (by assumption) (by assumption) (by assumption) ?_) | refine vo_yield rfl rfl rfl rfl rfl ?_ | refine vo_callV rfl rfl rfl (vc_in rfl rfl ?_)) | refine vo_convRow rfl rfl ?_ | (refine vo_isBs ?_; refine vo_buildSlice rfl rfl rfl (by decide) (by repeat' (first | exact trivial | rfl | assumption | refine ⟨?_, ?_⟩ | (simp; done) | (simp; omega))) (by decide) rfl ?_; intro _) | (refine vo_buildSlice0 rfl ?_; intro _) | fail)
              refine ⟨.inr (SE.ent (by repeat' (first | exact SE.refl _ | refine SE.cons _ ?_ | refine SE.trans (se_drop _ _) ?_)) _), ?_⟩
              refine va_done (by kernel_rfl) ?_
              exact ⟨rfl, g4, by (repeat' (first | exact Sub.nil _ | refine Sub.cons rfl rfl ?_ | refine Sub.cons rfl ?_ ?_)), Ent.refl _ _⟩
          · refine vo_alloc rfl ?_
            intro g4
            refine ⟨.inr (SE.ent (by repeat' (first | exact SE.refl _ | refine SE.cons _ ?_ | refine SE.trans (se_drop _ _) ?_)) _), ?_⟩
            refine va_one 9 (by kernel_rfl) rfl rfl (vo_call rfl rfl ?_)
            refine vc_mono (number_vc w0 _ (subA a 72 cap 1) (cap - 72) ((l.take 80).drop 72) (by simp; omega) (by simp; omega)) ?_
            rintro v L' ⟨rfl, rfl⟩
            rw [← hA]
            refine ⟨.inr (SE.ent (by repeat' (first | exact SE.refl _ | refine SE.cons _ ?_ | refine SE.trans (se_drop _ _) ?_)) _), ?_⟩
            refine va_one 12 (by kernel_rfl) rfl rfl (vo_call rfl rfl ?_)
            refine vc_mono (number_vc w0 _ (subA a 80 cap 1) (cap - 80) ((l.take 88).drop 80) (by simp; omega) (by simp; omega)) ?_
            rintro v L' ⟨rfl, rfl⟩
            rw [← hF]
            refine ⟨.inr (SE.ent (by repeat' (first | exact SE.refl _ | refine SE.cons _ ?_ | refine SE.trans (se_drop _ _) ?_)) _), ?_⟩
            refine va_one 14 (by kernel_rfl) rfl rfl (vo_call rfl rfl ?_)
            refine vc_mono (rdigest_vc w0 _ a cap l 88 rfl (by omega) hl) ?_
            rintro v L' ⟨rfl, rfl⟩
            rw [← hs]
            refine ⟨.inr (SE.ent (by repeat' (first | exact SE.refl _ | refine SE.cons _ ?_ | refine SE.trans (se_drop _ _) ?_)) _), ?_⟩
            refine va_take 15 rfl rfl rfl rfl (by kernel_rfl) (fun _ _ _ _ h => h) (SE.ent (by repeat' (first | exact SE.refl _ | refine SE.cons _ ?_ | refine SE.trans (se_drop _ _) ?_)) _) (vq_build (us := bvs p ++ (bvs t ++ (.int .u64 (N : Int) :: .int .u64 (A : Int) :: .int .u64 (F : Int) :: (bvs s ++ [])))) rfl rfl (by simp [plOf, Value.cells, pl, tl, sl]) (by rw [hE]; exact l6)) ?_
            rw [hE]
            refine va_one 17 (by kernel_rfl) rfl rfl ?_
            (first | (refine vo_box rfl rfl rfl ?_; intro _) | (refine vo_alloc rfl ?_; intro _) | (refine vo_isStore ?_; first | (refine vo_isPt0 rfl ?_; refine vo_stWA rfl rfl ?_) | (refine vo_isPt rfl ?_; refine vo_stBA rfl rfl ?_) | (refine vo_stO rfl rfl (by rfl) (by first | rfl | assumption) (by first | assumption | (simp; done) | (simp; omega) | omega) rfl ?_; skip)) | (refine vo_isCall ?_; first | (refine vo_isApp ?_; first | (refine vo_append0A rfl rfl rfl ?_; intro _ _ _ _) | (refine vo_appendA rfl rfl rfl ?_; intro _ _ _ _)) | (refine vo_isCopy ?_; refine vo_copyB rfl rfl rfl (by assumption) (by assumption) (by assumption) (by assumption) ?_) | refine vo_yield rfl rfl rfl rfl rfl ?_ | refine vo_callV rfl rfl rfl (vc_in rfl rfl ?_)) | refine vo_convRow rfl rfl ?_ | (refine vo_isBs ?_; refine vo_buildSlice rfl rfl rfl (by decide) (by repeat' (first | exact trivial | rfl | assumption | refine ⟨?_, ?_⟩ | (simp; done) | (simp; omega))) (by decide) rfl ?_; intro _) | (refine vo_buildSlice0 rfl ?_; intro _) | fail)
            refine ⟨.inr (SE.ent (by repeat' (first | exact SE.refl _ | refine SE.cons _ ?_ | refine SE.trans (se_drop _ _) ?_)) _), ?_⟩
            refine va_done (by kernel_rfl) ?_
            exact ⟨rfl, g4, by (repeat' (first | exact Sub.nil _ | refine Sub.cons rfl rfl ?_ | refine Sub.cons rfl ?_ ?_)), Ent.refl _ _⟩
        · refine vo_alloc rfl ?_
          intro g4
          refine ⟨.inr (SE.ent (by repeat' (first | exact SE.refl _ | refine SE.cons _ ?_ | refine SE.trans (se_drop _ _) ?_)) _), ?_⟩
          refine va_one 6 (by kernel_rfl) rfl rfl (vo_call rfl rfl ?_)
          refine vc_mono (number_vc w0 _ (subA a 64 cap 1) (cap - 64) ((l.take 72).drop 64) (by simp; omega) (by simp; omega)) ?_
          rintro v L' ⟨rfl, rfl⟩
          rw [← hN]
          refine ⟨.inr (SE.ent (by repeat' (first | exact SE.refl _ | refine SE.cons _ ?_ | refine SE.trans (se_drop _ _) ?_)) _), ?_⟩
          refine va_one 9 (by kernel_rfl) rfl rfl (vo_call rfl rfl ?_)
          refine vc_mono (number_vc w0 _ (subA a 72 cap 1) (cap - 72) ((l.take 80).drop 72) (by simp; omega) (by simp; omega)) ?_
          rintro v L' ⟨rfl, rfl⟩
          rw [← hA]
          refine ⟨.inr (SE.ent (by repeat' (first | exact SE.refl _ | refine SE.cons _ ?_ | refine SE.trans (se_drop _ _) ?_)) _), ?_⟩
          refine va_one 12 (by kernel_rfl) rfl rfl (vo_call rfl rfl ?_)
          refine vc_mono (number_vc w0 _ (subA a 80 cap 1) (cap - 80) ((l.take 88).drop 80) (by simp; omega) (by simp; omega)) ?_
          rintro v L' ⟨rfl, rfl⟩
          rw [← hF]
          refine ⟨.inr (SE.ent (by repeat' (first | exact SE.refl _ | refine SE.cons _ ?_ | refine SE.trans (se_drop _ _) ?_)) _), ?_⟩
          refine va_one 14 (by kernel_rfl) rfl rfl (vo_call rfl rfl ?_)
          refine vc_mono (rdigest_vc w0 _ a cap l 88 rfl (by omega) hl) ?_
          rintro v L' ⟨rfl, rfl⟩
          rw [← hs]
          refine ⟨.inr (SE.ent (by repeat' (first | exact SE.refl _ | refine SE.cons _ ?_ | refine SE.trans (se_drop _ _) ?_)) _), ?_⟩
          refine va_take 15 rfl rfl rfl rfl (by kernel_rfl) (fun _ _ _ _ h => h) (SE.ent (by repeat' (first | exact SE.refl _ | refine SE.cons _ ?_ | refine SE.trans (se_drop _ _) ?_)) _) (vq_build (us := bvs p ++ (bvs t ++ (.int .u64 (N : Int) :: .int .u64 (A : Int) :: .int .u64 (F : Int) :: (bvs s ++ [])))) rfl rfl (by simp [plOf, Value.cells, pl, tl, sl]) (by rw [hE]; exact l6)) ?_
          rw [hE]
          refine va_one 17 (by kernel_rfl) rfl rfl ?_
          (first | (refine vo_box rfl rfl rfl ?_; intro _) | (refine vo_alloc rfl ?_; intro _) | (refine vo_isStore ?_; first | (refine vo_isPt0 rfl ?_; refine vo_stWA rfl rfl ?_) | (refine vo_isPt rfl ?_; refine vo_stBA rfl rfl ?_) | (refine vo_stO rfl rfl (by rfl) (by first | rfl | assumption) (by first | assumption | (simp; done) | (simp; omega) | omega) rfl ?_; skip)) | (refine vo_isCall ?_; first | (refine vo_isApp ?_; first | (refine vo_append0A rfl rfl rfl ?_; intro _ _ _ _) | (refine vo_appendA rfl rfl rfl ?_; intro _ _ _ _)) | (refine vo_isCopy ?_; refine vo_copyB rfl rfl rfl (by assumption) (by assumption) (by assumption) (by assumption) ?_) | refine vo_yield rfl rfl rfl rfl rfl ?_ | refine vo_callV rfl rfl rfl (vc_in rfl rfl ?_)) | refine vo_convRow rfl rfl ?_ | (refine vo_isBs ?_; refine vo_buildSlice rfl rfl rfl (by decide) (by repeat' (first | exact trivial | rfl | assumption | refine ⟨?_, ?_⟩ | (simp; done) | (simp; omega))) (by decide) rfl ?_; intro _) | (refine vo_buildSlice0 rfl ?_; intro _) | fail)
          refine ⟨.inr (SE.ent (by repeat' (first | exact SE.refl _ | refine SE.cons _ ?_ | refine SE.trans (se_drop _ _) ?_)) _), ?_⟩
          refine va_done (by kernel_rfl) ?_
          exact ⟨rfl, g4, by (repeat' (first | exact Sub.nil _ | refine Sub.cons rfl rfl ?_ | refine Sub.cons rfl ?_ ?_)), Ent.refl _ _⟩
      · refine vo_alloc rfl ?_
        intro g4
        refine ⟨.inr (SE.ent (by repeat' (first | exact SE.refl _ | refine SE.cons _ ?_ | refine SE.trans (se_drop _ _) ?_)) _), ?_⟩
        refine va_one 3 (by kernel_rfl) rfl rfl (vo_call rfl rfl ?_)
        refine vc_mono (rdigest_vc w0 _ a cap l 32 rfl (by omega) hl) ?_
        rintro v L' ⟨rfl, rfl⟩
        rw [← ht]
        refine ⟨.inr (SE.ent (by repeat' (first | exact SE.refl _ | refine SE.cons _ ?_ | refine SE.trans (se_drop _ _) ?_)) _), ?_⟩
        refine va_one 6 (by kernel_rfl) rfl rfl (vo_call rfl rfl ?_)
        refine vc_mono (number_vc w0 _ (subA a 64 cap 1) (cap - 64) ((l.take 72).drop 64) (by simp; omega) (by simp; omega)) ?_
        rintro v L' ⟨rfl, rfl⟩
        rw [← hN]
        refine ⟨.inr (SE.ent (by repeat' (first | exact SE.refl _ | refine SE.cons _ ?_ | refine SE.trans (se_drop _ _) ?_)) _), ?_⟩
        refine va_one 9 (by kernel_rfl) rfl rfl (vo_call rfl rfl ?_)
        refine vc_mono (number_vc w0 _ (subA a 72 cap 1) (cap - 72) ((l.take 80).drop 72) (by simp; omega) (by simp; omega)) ?_
        rintro v L' ⟨rfl, rfl⟩
        rw [← hA]
        refine ⟨.inr (SE.ent (by repeat' (first | exact SE.refl _ | refine SE.cons _ ?_ | refine SE.trans (se_drop _ _) ?_)) _), ?_⟩
        refine va_one 12 (by kernel_rfl) rfl rfl (vo_call rfl rfl ?_)
        refine vc_mono (number_vc w0 _ (subA a 80 cap 1) (cap - 80) ((l.take 88).drop 80) (by simp; omega) (by simp; omega)) ?_
        rintro v L' ⟨rfl, rfl⟩
        rw [← hF]
        refine ⟨.inr (SE.ent (by repeat' (first | exact SE.refl _ | refine SE.cons _ ?_ | refine SE.trans (se_drop _ _) ?_)) _), ?_⟩
        refine va_one 14 (by kernel_rfl) rfl rfl (vo_call rfl rfl ?_)
        refine vc_mono (rdigest_vc w0 _ a cap l 88 rfl (by omega) hl) ?_
        rintro v L' ⟨rfl, rfl⟩
        rw [← hs]
        refine ⟨.inr (SE.ent (by repeat' (first | exact SE.refl _ | refine SE.cons _ ?_ | refine SE.trans (se_drop _ _) ?_)) _), ?_⟩
        refine va_take 15 rfl rfl rfl rfl (by kernel_rfl) (fun _ _ _ _ h => h) (SE.ent (by repeat' (first | exact SE.refl _ | refine SE.cons _ ?_ | refine SE.trans (se_drop _ _) ?_)) _) (vq_build (us := bvs p ++ (bvs t ++ (.int .u64 (N : Int) :: .int .u64 (A : Int) :: .int .u64 (F : Int) :: (bvs s ++ [])))) rfl rfl (by simp [plOf, Value.cells, pl, tl, sl]) (by rw [hE]; exact l6)) ?_
        rw [hE]
        refine va_one 17 (by kernel_rfl) rfl rfl ?_
        (first | (refine vo_box rfl rfl rfl ?_; intro _) | (refine vo_alloc rfl ?_; intro _) | (refine vo_isStore ?_; first | (refine vo_isPt0 rfl ?_; refine vo_stWA rfl rfl ?_) | (refine vo_isPt rfl ?_; refine vo_stBA rfl rfl ?_) | (refine vo_stO rfl rfl (by rfl) (by first | rfl | assumption) (by first | assumption | (simp; done) | (simp; omega) | omega) rfl ?_; skip)) | (refine vo_isCall ?_; first | (refine vo_isApp ?_; first | (refine vo_append0A rfl rfl rfl ?_; intro _ _ _ _) | (refine vo_appendA rfl rfl rfl ?_; intro _ _ _ _)) | (refine vo_isCopy ?_; refine vo_copyB rfl rfl rfl (by assumption) (by assumption) (by assumption) (by assumption) ?_) | refine vo_yield rfl rfl rfl rfl rfl ?_ | refine vo_callV rfl rfl rfl (vc_in rfl rfl ?_)) | refine vo_convRow rfl rfl ?_ | (refine vo_isBs ?_; refine vo_buildSlice rfl rfl rfl (by decide) (by repeat' (first | exact trivial | rfl | assumption | refine ⟨?_, ?_⟩ | (simp; done) | (simp; omega))) (by decide) rfl ?_; intro _) | (refine vo_buildSlice0 rfl ?_; intro _) | fail)
        refine ⟨.inr (SE.ent (by repeat' (first | exact SE.refl _ | refine SE.cons _ ?_ | refine SE.trans (se_drop _ _) ?_)) _), ?_⟩
        refine va_done (by kernel_rfl) ?_
        exact ⟨rfl, g4, by (repeat' (first | exact Sub.nil _ | refine Sub.cons rfl rfl ?_ | refine Sub.cons rfl ?_ ?_)), Ent.refl _ _⟩
    · refine vo_alloc rfl ?_
      intro g4
      refine ⟨.inr (SE.ent (by repeat' (first | exact SE.refl _ | refine SE.cons _ ?_ | refine SE.trans (se_drop _ _) ?_)) _), ?_⟩
      refine va_one 1 (by kernel_rfl) rfl rfl (vo_call rfl rfl ?_)
      refine vc_mono (rdigest_vc w0 _ a cap l 0 rfl (by omega) hl) ?_
      rintro v L' ⟨rfl, rfl⟩
      rw [← ht0]
      refine ⟨.inr (SE.ent (by repeat' (first | exact SE.refl _ | refine SE.cons _ ?_ | refine SE.trans (se_drop _ _) ?_)) _), ?_⟩
      refine va_one 3 (by kernel_rfl) rfl rfl (vo_call rfl rfl ?_)
      refine vc_mono (rdigest_vc w0 _ a cap l 32 rfl (by omega) hl) ?_
      rintro v L' ⟨rfl, rfl⟩
      rw [← ht]
      refine ⟨.inr (SE.ent (by repeat' (first | exact SE.refl _ | refine SE.cons _ ?_ | refine SE.trans (se_drop _ _) ?_)) _), ?_⟩
      refine va_one 6 (by kernel_rfl) rfl rfl (vo_call rfl rfl ?_)
      refine vc_mono (number_vc w0 _ (subA a 64 cap 1) (cap - 64) ((l.take 72).drop 64) (by simp; omega) (by simp; omega)) ?_
      rintro v L' ⟨rfl, rfl⟩
      rw [← hN]
      refine ⟨.inr (SE.ent (by repeat' (first | exact SE.refl _ | refine SE.cons _ ?_ | refine SE.trans (se_drop _ _) ?_)) _), ?_⟩
      refine va_one 9 (by kernel_rfl) rfl rfl (vo_call rfl rfl ?_)
      refine vc_mono (number_vc w0 _ (subA a 72 cap 1) (cap - 72) ((l.take 80).drop 72) (by simp; omega) (by simp; omega)) ?_
      rintro v L' ⟨rfl, rfl⟩
      rw [← hA]
      refine ⟨.inr (SE.ent (by repeat' (first | exact SE.refl _ | refine SE.cons _ ?_ | refine SE.trans (se_drop _ _) ?_)) _), ?_⟩
      refine va_one 12 (by kernel_rfl) rfl rfl (vo_call rfl rfl ?_)
      refine vc_mono (number_vc w0 _ (subA a 80 cap 1) (cap - 80) ((l.take 88).drop 80) (by simp; omega) (by simp; omega)) ?_
      rintro v L' ⟨rfl, rfl⟩
      rw [← hF]
      refine ⟨.inr (SE.ent (by repeat' (first | exact SE.refl _ | refine SE.cons _ ?_ | refine SE.trans (se_drop _ _) ?_)) _), ?_⟩
      refine va_one 14 (by kernel_rfl) rfl rfl (vo_call rfl rfl ?_)
      refine vc_mono (rdigest_vc w0 _ a cap l 88 rfl (by omega) hl) ?_
      rintro v L' ⟨rfl, rfl⟩
      rw [← hs]
      refine ⟨.inr (SE.ent (by repeat' (first | exact SE.refl _ | refine SE.cons _ ?_ | refine SE.trans (se_drop _ _) ?_)) _), ?_⟩
      refine va_take 15 rfl rfl rfl rfl (by kernel_rfl) (fun _ _ _ _ h => h) (SE.ent (by repeat' (first | exact SE.refl _ | refine SE.cons _ ?_ | refine SE.trans (se_drop _ _) ?_)) _) (vq_build (us := bvs p ++ (bvs t ++ (.int .u64 (N : Int) :: .int .u64 (A : Int) :: .int .u64 (F : Int) :: (bvs s ++ [])))) rfl rfl (by simp [plOf, Value.cells, pl, tl, sl]) (by rw [hE]; exact l6)) ?_
      rw [hE]
      refine va_one 17 (by kernel_rfl) rfl rfl ?_
      (first | (refine vo_box rfl rfl rfl ?_; intro _) | (refine vo_alloc rfl ?_; intro _) | (refine vo_isStore ?_; first | (refine vo_isPt0 rfl ?_; refine vo_stWA rfl rfl ?_) | (refine vo_isPt rfl ?_; refine vo_stBA rfl rfl ?_) | (refine vo_stO rfl rfl (by rfl) (by first | rfl | assumption) (by first | assumption | (simp; done) | (simp; omega) | omega) rfl ?_; skip)) | (refine vo_isCall ?_; first | (refine vo_isApp ?_; first | (refine vo_append0A rfl rfl rfl ?_; intro _ _ _ _) | (refine vo_appendA rfl rfl rfl ?_; intro _ _ _ _)) | (refine vo_isCopy ?_; refine vo_copyB rfl rfl rfl (by assumption) (by assumption) (by assumption) (by assumption) ?_) | refine vo_yield rfl rfl rfl rfl rfl ?_ | refine vo_callV rfl rfl rfl (vc_in rfl rfl ?_)) | refine vo_convRow rfl rfl ?_ | (refine vo_isBs ?_; refine vo_buildSlice rfl rfl rfl (by decide) (by repeat' (first | exact trivial | rfl | assumption | refine ⟨?_, ?_⟩ | (simp; done) | (simp; omega))) (by decide) rfl ?_; intro _) | (refine vo_buildSlice0 rfl ?_; intro _) | fail)
      refine ⟨.inr (SE.ent (by repeat' (first | exact SE.refl _ | refine SE.cons _ ?_ | refine SE.trans (se_drop _ _) ?_)) _), ?_⟩
      refine va_done (by kernel_rfl) ?_
      exact ⟨rfl, g4, by (repeat' (first | exact Sub.nil _ | refine Sub.cons rfl rfl ?_ | refine Sub.cons rfl ?_ ?_)), Ent.refl _ _⟩
  intro g4
  repeat' (first | (refine go1 ?_; intros) | (refine vl_caseG rfl rfl rfl rfl ?_ ?_ <;> (intro hb; (try simp only [decide_eq_true_eq, decide_eq_false_iff_not, Bool.not_eq_true', Bool.not_eq_false', ne_eq, Decidable.not_not, Option.isNone_iff_eq_none, not_true_eq_false, not_false_eq_true] at hb); try (exfalso; omega))) | (refine v_cond rfl ?_ ?_ <;> (intro hb; (try simp only [decide_eq_true_eq, decide_eq_false_iff_not, Bool.not_eq_true', Bool.not_eq_false', ne_eq, Decidable.not_not, Option.isNone_iff_eq_none, not_true_eq_false, not_false_eq_true] at hb); try (exfalso; omega))) | fail)
  refine vl_o rfl (vo_call rfl rfl ?_)
  refine vc_mono (rCheck_vc w0 _ ⟨p, t, N, A, F, s⟩ o6) ?_
  rintro v L' ⟨rfl, rfl⟩
  have hrr : txRead l = if s = sgn ⟨p, t, N, A, F, s⟩ then (⟨p, t, N, A, F, s⟩, 0) else (zeroTx, 110) := by simp [txRead, h1, h2, hof]
  rw [hrr]
  by_cases hsg : s = sgn ⟨p, t, N, A, F, s⟩
  · rw [if_pos hsg, if_pos hsg]
    repeat' (first | (refine go1 ?_; intros) | (refine vl_caseG rfl rfl rfl rfl ?_ ?_ <;> (intro hb; (try simp only [decide_eq_true_eq, decide_eq_false_iff_not, Bool.not_eq_true', Bool.not_eq_false', ne_eq, Decidable.not_not, Option.isNone_iff_eq_none, not_true_eq_false, not_false_eq_true] at hb); try (exfalso; omega))) | (refine v_cond rfl ?_ ?_ <;> (intro hb; (try simp only [decide_eq_true_eq, decide_eq_false_iff_not, Bool.not_eq_true', Bool.not_eq_false', ne_eq, Decidable.not_not, Option.isNone_iff_eq_none, not_true_eq_false, not_false_eq_true] at hb); try (exfalso; omega))) | fail)
    exact ⟨_, ((se_drop _ _).trans (se_drop _ _)).ent w0, rfl, rfl⟩
  · rw [if_neg hsg, if_neg hsg]
    repeat' (first | (refine go1 ?_; intros) | (refine vl_caseG rfl rfl rfl rfl ?_ ?_ <;> (intro hb; (try simp only [decide_eq_true_eq, decide_eq_false_iff_not, Bool.not_eq_true', Bool.not_eq_false', ne_eq, Decidable.not_not, Option.isNone_iff_eq_none, not_true_eq_false, not_false_eq_true] at hb); try (exfalso; omega))) | (refine v_cond rfl ?_ ?_ <;> (intro hb; (try simp only [decide_eq_true_eq, decide_eq_false_iff_not, Bool.not_eq_true', Bool.not_eq_false', ne_eq, Decidable.not_not, Option.isNone_iff_eq_none, not_true_eq_false, not_false_eq_true] at hb); try (exfalso; omega))) | fail)
    exact ⟨_, ((se_drop _ _).trans (se_drop _ _)).ent w0, rfl, rfl⟩
end Go.Proofs.YtnoihibaoalkaaaDoor
