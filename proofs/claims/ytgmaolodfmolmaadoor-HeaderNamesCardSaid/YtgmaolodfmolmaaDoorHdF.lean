/-
  The chapter's examples of headers: the law.
-/
import Derived.Test.YtgmaolodfmolmaaDoorHdE
import Derived.Test.YtgmaolodfmolmaaDoorGK
import Derived.Test.YtgmaolodfmolmaaDoorGC
set_option linter.unusedVariables false
set_option linter.unusedSimpArgs false
namespace Go.Proofs.YtgmaolodfmolmaaDoor
open Go Go.RowKit
set_option linter.unusedVariables false
set_option linter.unusedSimpArgs false

theorem zeroHd_may : zeroHd.may = true := by decide
theorem zeroHd_bytes : hBytes zeroHd = List.replicate 108 0 := by decide
def hd1 (d : List UInt8) : Hd := ⟨1, d, List.replicate 32 0, List.replicate 32 0, 0⟩
theorem hd1_ok {d : List UInt8} (h : d.length = 32) : (hd1 d).ok := ⟨h, by simp [hd1], by simp [hd1]⟩
def hdNeg : Hd := ⟨-1, List.replicate 32 0, List.replicate 32 0, List.replicate 32 0, 0⟩
def hdMany : Hd := ⟨0, List.replicate 32 0, List.replicate 32 0, List.replicate 32 0, 257⟩
theorem hdNeg_ok : hdNeg.ok := ⟨by simp [hdNeg], by simp [hdNeg], by simp [hdNeg]⟩
theorem hdMany_ok : hdMany.ok := ⟨by simp [hdMany], by simp [hdMany], by simp [hdMany]⟩
theorem hdNeg_may : hdNeg.may = false := by decide
theorem hdMany_may : hdMany.may = false := by decide
theorem follows_d {d : List UInt8} (hd : d = hHash zeroHd) : follows (hd1 d) zeroHd = true := by
  unfold follows
  refine decide_eq_true ⟨?_, ?_, ?_, ?_⟩
  all_goals first | rfl | decide | exact hd | trace_state
set_option maxRecDepth 100000 in
theorem hash_ne : ¬ List.replicate 32 0 = hHash zeroHd := by
  unfold hHash
  rw [zeroHd_bytes]
  decide +kernel
theorem follows_z : follows (hd1 (List.replicate 32 0)) zeroHd = false := by
  cases h : follows (hd1 (List.replicate 32 0)) zeroHd
  · rfl
  · exact absurd (follows_parts h).2 hash_ne
theorem far_all {l : List UInt8} (hl : l.length = 108) (h : ∀ j, j < 108 → l[j]? = some 255) : l = List.replicate 108 255 := by
  apply List.ext_getElem?
  intro i
  by_cases e : i < 108
  · rw [h i e, List.getElem?_replicate, if_pos e]
  · rw [List.getElem?_eq_none (by omega), List.getElem?_eq_none (by simp; omega)]
theorem far_num : 1073741824 < numOf ((List.replicate 108 (255 : UInt8)).take 8) := by decide
set_option maxRecDepth 100000 in
set_option maxHeartbeats 4000000 in
theorem headerNames_vc (w0 : World) [hK : RdA w0 (some ⟨0, 0, none⟩) (wds K64)] :
    VC Tryd.prog w0 3 [] [] fun v L' => v = .bool true := by
  have hzl := Hd.len zeroHd_ok
  refine vc_in rfl rfl ?_
  repeat' (first | (refine go1 ?_; intros) | (refine vl_caseG rfl rfl rfl rfl ?_ ?_ <;> (intro hb; (try simp only [decide_eq_true_eq, decide_eq_false_iff_not, Bool.not_eq_true', Bool.not_eq_false', ne_eq, Decidable.not_not, Option.isNone_iff_eq_none, not_true_eq_false, not_false_eq_true] at hb); try (exfalso; omega))) | (refine v_cond rfl ?_ ?_ <;> (intro hb; (try simp only [decide_eq_true_eq, decide_eq_false_iff_not, Bool.not_eq_true', Bool.not_eq_false', ne_eq, Decidable.not_not, Option.isNone_iff_eq_none, not_true_eq_false, not_false_eq_true] at hb); try (exfalso; omega))) | fail)
  refine vl_o rfl (vo_make (m := 107) rfl rfl rfl (by omega) (by omega) rfl ?_)
  intro g1
  rw [madeB 107]
  repeat' (first | (refine go1 ?_; intros) | (refine vl_caseG rfl rfl rfl rfl ?_ ?_ <;> (intro hb; (try simp only [decide_eq_true_eq, decide_eq_false_iff_not, Bool.not_eq_true', Bool.not_eq_false', ne_eq, Decidable.not_not, Option.isNone_iff_eq_none, not_true_eq_false, not_false_eq_true] at hb); try (exfalso; omega))) | (refine v_cond rfl ?_ ?_ <;> (intro hb; (try simp only [decide_eq_true_eq, decide_eq_false_iff_not, Bool.not_eq_true', Bool.not_eq_false', ne_eq, Decidable.not_not, Option.isNone_iff_eq_none, not_true_eq_false, not_false_eq_true] at hb); try (exfalso; omega))) | fail)
  refine vl_o rfl (vo_call rfl rfl ?_)
  haveI hg1 : ∀ M, RdC w0 (own 5 1 (some ⟨g1, 0, none⟩) 107 107 (bvs (List.replicate 107 0)) :: M) (some ⟨g1, 0, none⟩) (bvs (List.replicate 107 0)) := fun M => inferInstance
  refine vc_mono (hreadLen_vc w0 _ (some ⟨g1, 0, none⟩) 107 (List.replicate 107 0) (by simp) (by simp) (by simp)) ?_
  rintro v L' ⟨rfl, rfl⟩
  rw [if_pos (by simp)]
  repeat' (first | (refine go1 ?_; intros) | (refine vl_caseG rfl rfl rfl rfl ?_ ?_ <;> (intro hb; (try simp only [decide_eq_true_eq, decide_eq_false_iff_not, Bool.not_eq_true', Bool.not_eq_false', ne_eq, Decidable.not_not, Option.isNone_iff_eq_none, not_true_eq_false, not_false_eq_true] at hb); try (exfalso; omega))) | (refine v_cond rfl ?_ ?_ <;> (intro hb; (try simp only [decide_eq_true_eq, decide_eq_false_iff_not, Bool.not_eq_true', Bool.not_eq_false', ne_eq, Decidable.not_not, Option.isNone_iff_eq_none, not_true_eq_false, not_false_eq_true] at hb); try (exfalso; omega))) | fail)
  refine vl_o rfl (vo_make (m := 109) rfl rfl rfl (by omega) (by omega) rfl ?_)
  intro g2
  rw [madeB 109]
  repeat' (first | (refine go1 ?_; intros) | (refine vl_caseG rfl rfl rfl rfl ?_ ?_ <;> (intro hb; (try simp only [decide_eq_true_eq, decide_eq_false_iff_not, Bool.not_eq_true', Bool.not_eq_false', ne_eq, Decidable.not_not, Option.isNone_iff_eq_none, not_true_eq_false, not_false_eq_true] at hb); try (exfalso; omega))) | (refine v_cond rfl ?_ ?_ <;> (intro hb; (try simp only [decide_eq_true_eq, decide_eq_false_iff_not, Bool.not_eq_true', Bool.not_eq_false', ne_eq, Decidable.not_not, Option.isNone_iff_eq_none, not_true_eq_false, not_false_eq_true] at hb); try (exfalso; omega))) | fail)
  refine vl_o rfl (vo_call rfl rfl ?_)
  haveI hg2 : ∀ M, RdC w0 (own 5 1 (some ⟨g2, 0, none⟩) 109 109 (bvs (List.replicate 109 0)) :: M) (some ⟨g2, 0, none⟩) (bvs (List.replicate 109 0)) := fun M => inferInstance
  refine vc_mono (hreadLen_vc w0 _ (some ⟨g2, 0, none⟩) 109 (List.replicate 109 0) (by simp) (by simp) (by simp)) ?_
  rintro v L' ⟨rfl, rfl⟩
  rw [if_neg (by simp)]
  repeat' (first | (refine go1 ?_; intros) | (refine vl_caseG rfl rfl rfl rfl ?_ ?_ <;> (intro hb; (try simp only [decide_eq_true_eq, decide_eq_false_iff_not, Bool.not_eq_true', Bool.not_eq_false', ne_eq, Decidable.not_not, Option.isNone_iff_eq_none, not_true_eq_false, not_false_eq_true] at hb); try (exfalso; omega))) | (refine v_cond rfl ?_ ?_ <;> (intro hb; (try simp only [decide_eq_true_eq, decide_eq_false_iff_not, Bool.not_eq_true', Bool.not_eq_false', ne_eq, Decidable.not_not, Option.isNone_iff_eq_none, not_true_eq_false, not_false_eq_true] at hb); try (exfalso; omega))) | fail)
  refine vl_o rfl (vo_make (m := 108) rfl rfl rfl (by omega) (by omega) rfl ?_)
  intro g3
  rw [madeB 108]
  repeat' (first | (refine go1 ?_; intros) | (refine vl_caseG rfl rfl rfl rfl ?_ ?_ <;> (intro hb; (try simp only [decide_eq_true_eq, decide_eq_false_iff_not, Bool.not_eq_true', Bool.not_eq_false', ne_eq, Decidable.not_not, Option.isNone_iff_eq_none, not_true_eq_false, not_false_eq_true] at hb); try (exfalso; omega))) | (refine v_cond rfl ?_ ?_ <;> (intro hb; (try simp only [decide_eq_true_eq, decide_eq_false_iff_not, Bool.not_eq_true', Bool.not_eq_false', ne_eq, Decidable.not_not, Option.isNone_iff_eq_none, not_true_eq_false, not_false_eq_true] at hb); try (exfalso; omega))) | fail)
  refine v_loopF (Nat × List UInt8) [2, 4, 5] rfl (fun x => [(6, .int .i64 x.1)]) (fun L0 x => L0.set 0 (own 5 1 (some ⟨g3, 0, none⟩) 108 108 (bvs x.2))) (fun x => x.1 ≤ 108 ∧ x.2.length = 108 ∧ ∀ j, j < x.1 → x.2[j]? = some 255) (fun x => 108 - x.1) (0, List.replicate 108 0) ⟨by decide, by simp, fun j h => absurd h (by simp)⟩ (by (repeat' (first | exact Sub.nil _ | refine Sub.cons rfl rfl ?_ | refine Sub.cons rfl ?_ ?_))) (Ent.refl _ _) ?_
  rintro ⟨i, l⟩ ⟨hi, hl, hall⟩
  dsimp only [List.set] at hi hl hall ⊢
  by_cases hlt : i < 108
  · have hsp : splice (bvs l) i [.int .u8 255] = bvs (l.set i 255) := splice_b l i (by omega) 255
    have hfit : i + [Value.int .u8 255].length ≤ (bvs l).length := by rw [bvs_length, hl]; simp; omega
    have hpos : 0 < (bvs l).length := by rw [bvs_length, hl]; decide
    repeat' (first | (refine go1 ?_; intros) | (refine vl_caseG rfl rfl rfl rfl ?_ ?_ <;> (intro hb; (try simp only [decide_eq_true_eq, decide_eq_false_iff_not, Bool.not_eq_true', Bool.not_eq_false', ne_eq, Decidable.not_not, Option.isNone_iff_eq_none, not_true_eq_false, not_false_eq_true] at hb); try (exfalso; omega))) | (refine v_cond rfl ?_ ?_ <;> (intro hb; (try simp only [decide_eq_true_eq, decide_eq_false_iff_not, Bool.not_eq_true', Bool.not_eq_false', ne_eq, Decidable.not_not, Option.isNone_iff_eq_none, not_true_eq_false, not_false_eq_true] at hb); try (exfalso; omega))) | fail)
    rw [hsp]
    refine ⟨rfl, (i + 1, l.set i 255), ⟨by dsimp only; omega, by simp [hl], fun j hj => ?_⟩, by dsimp only; omega, by (repeat' (first | exact Sub.nil _ | refine Sub.cons rfl rfl ?_ | refine Sub.cons rfl ?_ ?_)), Ent.refl _ _⟩
    dsimp only at hj ⊢
    by_cases e : j = i
    · subst e; simp [hl, hlt]
    · rw [List.getElem?_set_ne (Ne.symm e)]; exact hall j (by omega)
  obtain rfl : i = 108 := by omega
  obtain rfl := far_all hl hall
  repeat' (first | (refine go1 ?_; intros) | (refine vl_caseG rfl rfl rfl rfl ?_ ?_ <;> (intro hb; (try simp only [decide_eq_true_eq, decide_eq_false_iff_not, Bool.not_eq_true', Bool.not_eq_false', ne_eq, Decidable.not_not, Option.isNone_iff_eq_none, not_true_eq_false, not_false_eq_true] at hb); try (exfalso; omega))) | (refine v_cond rfl ?_ ?_ <;> (intro hb; (try simp only [decide_eq_true_eq, decide_eq_false_iff_not, Bool.not_eq_true', Bool.not_eq_false', ne_eq, Decidable.not_not, Option.isNone_iff_eq_none, not_true_eq_false, not_false_eq_true] at hb); try (exfalso; omega))) | fail)
  refine vl_o rfl (vo_call rfl rfl ?_)
  haveI hg3 : ∀ M, RdC w0 (own 5 1 (some ⟨g3, 0, none⟩) 108 108 (bvs (List.replicate 108 255)) :: M) (some ⟨g3, 0, none⟩) (bvs (List.replicate 108 255)) := fun M => inferInstance
  refine vc_mono (hreadFar_vc w0 _ (some ⟨g3, 0, none⟩) 108 (List.replicate 108 255) (by simp) (by simp) (by simp) far_num) ?_
  rintro v L' ⟨rfl, rfl⟩
  repeat' (first | (refine go1 ?_; intros) | (refine vl_caseG rfl rfl rfl rfl ?_ ?_ <;> (intro hb; (try simp only [decide_eq_true_eq, decide_eq_false_iff_not, Bool.not_eq_true', Bool.not_eq_false', ne_eq, Decidable.not_not, Option.isNone_iff_eq_none, not_true_eq_false, not_false_eq_true] at hb); try (exfalso; omega))) | (refine v_cond rfl ?_ ?_ <;> (intro hb; (try simp only [decide_eq_true_eq, decide_eq_false_iff_not, Bool.not_eq_true', Bool.not_eq_false', ne_eq, Decidable.not_not, Option.isNone_iff_eq_none, not_true_eq_false, not_false_eq_true] at hb); try (exfalso; omega))) | fail)
  refine vl_o rfl (vo_call rfl rfl ?_)
  show VC _ _ _ [.agg zeroHd.cells.toArray] _ _
  refine vc_mono (hhash_vc w0 _ zeroHd zeroHd_ok) ?_
  rintro v L' ⟨rfl, rfl⟩
  rw [zeroHd_may, if_pos rfl, if_pos rfl]
  obtain ⟨D, hD⟩ : ∃ D, D = hHash zeroHd := ⟨_, rfl⟩
  have lD : D.length = 32 := by rw [hD]; exact hHash_length _
  have hDh : sha (tagB 6 [List.replicate 108 0]) = D := by rw [hD, hHash, zeroHd_bytes]
  rw [← hD]
  repeat' (first | (refine goB ?_; intros) | (refine vl_caseG rfl rfl rfl rfl ?_ ?_ <;> (intro hb; (try simp only [decide_eq_true_eq, decide_eq_false_iff_not, Bool.not_eq_true', Bool.not_eq_false', ne_eq, Decidable.not_not, Option.isNone_iff_eq_none, not_true_eq_false, not_false_eq_true] at hb); try (exfalso; omega))) | (refine v_cond rfl ?_ ?_ <;> (intro hb; (try simp only [decide_eq_true_eq, decide_eq_false_iff_not, Bool.not_eq_true', Bool.not_eq_false', ne_eq, Decidable.not_not, Option.isNone_iff_eq_none, not_true_eq_false, not_false_eq_true] at hb); try (exfalso; omega))) | fail)
  refine vl_q rfl rfl rfl rfl (vq_buildP (cs := hdNeg.cells) rfl (by simp [okS, Value.cells]) rfl) ?_
  repeat' (first | (refine go1 ?_; intros) | (refine vl_caseG rfl rfl rfl rfl ?_ ?_ <;> (intro hb; (try simp only [decide_eq_true_eq, decide_eq_false_iff_not, Bool.not_eq_true', Bool.not_eq_false', ne_eq, Decidable.not_not, Option.isNone_iff_eq_none, not_true_eq_false, not_false_eq_true] at hb); try (exfalso; omega))) | (refine v_cond rfl ?_ ?_ <;> (intro hb; (try simp only [decide_eq_true_eq, decide_eq_false_iff_not, Bool.not_eq_true', Bool.not_eq_false', ne_eq, Decidable.not_not, Option.isNone_iff_eq_none, not_true_eq_false, not_false_eq_true] at hb); try (exfalso; omega))) | fail)
  refine vl_o rfl (vo_call rfl rfl ?_)
  refine vc_mono (hcheck_vc w0 _ hdNeg hdNeg_ok) ?_
  rintro v L' ⟨rfl, rfl⟩
  rw [hdNeg_may, if_neg (by decide)]
  repeat' (first | (refine goE ?_; intros) | (refine vl_caseG rfl rfl rfl rfl ?_ ?_ <;> (intro hb; (try simp only [decide_eq_true_eq, decide_eq_false_iff_not, Bool.not_eq_true', Bool.not_eq_false', ne_eq, Decidable.not_not, Option.isNone_iff_eq_none, not_true_eq_false, not_false_eq_true] at hb); try (exfalso; omega))) | (refine v_cond rfl ?_ ?_ <;> (intro hb; (try simp only [decide_eq_true_eq, decide_eq_false_iff_not, Bool.not_eq_true', Bool.not_eq_false', ne_eq, Decidable.not_not, Option.isNone_iff_eq_none, not_true_eq_false, not_false_eq_true] at hb); try (exfalso; omega))) | fail)
  refine vl_o rfl (vo_call rfl rfl ?_)
  show VC _ _ _ [.agg hdMany.cells.toArray] _ _
  refine vc_mono (hcheck_vc w0 _ hdMany hdMany_ok) ?_
  rintro v L' ⟨rfl, rfl⟩
  rw [hdMany_may, if_neg (by decide)]
  repeat' (first | (refine goE ?_; intros) | (refine vl_caseG rfl rfl rfl rfl ?_ ?_ <;> (intro hb; (try simp only [decide_eq_true_eq, decide_eq_false_iff_not, Bool.not_eq_true', Bool.not_eq_false', ne_eq, Decidable.not_not, Option.isNone_iff_eq_none, not_true_eq_false, not_false_eq_true] at hb); try (exfalso; omega))) | (refine v_cond rfl ?_ ?_ <;> (intro hb; (try simp only [decide_eq_true_eq, decide_eq_false_iff_not, Bool.not_eq_true', Bool.not_eq_false', ne_eq, Decidable.not_not, Option.isNone_iff_eq_none, not_true_eq_false, not_false_eq_true] at hb); try (exfalso; omega))) | fail)
  refine v_draw0 [] (by kernel_rfl) ?_
  refine va_takeA 0 rfl rfl rfl rfl ?_
  refine va_oneG 1 (by kernel_rfl) rfl rfl rfl rfl rfl rfl ?_
  first | refine vo_call rfl rfl ?_ | refine vo_callV rfl rfl rfl ?_
  refine vc_mono (alive14_vc w0 _) ?_
  rintro v L' ⟨rfl, rfl⟩
  refine ⟨.inr (sei _ _ _), ?_⟩
  refine va_takeA 2 rfl rfl rfl rfl ?_
  refine va_takeA 3 rfl rfl rfl rfl ?_
  first | (refine va_takeGA 4 rfl rfl rfl rfl rfl rfl rfl rfl ?_) | (refine va_passGA 4 rfl rfl rfl rfl rfl rfl rfl rfl ?_)
  first | (refine va_takeGA 5 rfl rfl rfl rfl rfl rfl rfl rfl ?_) | (refine va_passGA 5 rfl rfl rfl rfl rfl rfl rfl rfl ?_)
  refine va_takeA 6 rfl rfl rfl rfl ?_
  refine va_takeA 7 rfl rfl rfl rfl ?_
  first | (refine va_takeGA 8 rfl rfl rfl rfl rfl rfl rfl rfl ?_) | (refine va_passGA 8 rfl rfl rfl rfl rfl rfl rfl rfl ?_)
  first | (refine va_takeGA 9 rfl rfl rfl rfl rfl rfl rfl rfl ?_) | (refine va_passGA 9 rfl rfl rfl rfl rfl rfl rfl rfl ?_)
  refine va_takeA 10 rfl rfl rfl rfl ?_
  refine va_takeA 11 rfl rfl rfl rfl ?_
  first | (refine va_takeGA 12 rfl rfl rfl rfl rfl rfl rfl rfl ?_) | (refine va_passGA 12 rfl rfl rfl rfl rfl rfl rfl rfl ?_)
  first | (refine va_takeGA 13 rfl rfl rfl rfl rfl rfl rfl rfl ?_) | (refine va_passGA 13 rfl rfl rfl rfl rfl rfl rfl rfl ?_)
  refine va_takeA 14 rfl rfl rfl rfl ?_
  refine va_takeA 15 rfl rfl rfl rfl ?_
  first | (refine va_takeGA 16 rfl rfl rfl rfl rfl rfl rfl rfl ?_) | (refine va_passGA 16 rfl rfl rfl rfl rfl rfl rfl rfl ?_)
  first | (refine va_takeGA 17 rfl rfl rfl rfl rfl rfl rfl rfl ?_) | (refine va_passGA 17 rfl rfl rfl rfl rfl rfl rfl rfl ?_)
  refine va_takeA 18 rfl rfl rfl rfl ?_
  refine va_takeA 19 rfl rfl rfl rfl ?_
  first | (refine va_takeGA 20 rfl rfl rfl rfl rfl rfl rfl rfl ?_) | (refine va_passGA 20 rfl rfl rfl rfl rfl rfl rfl rfl ?_)
  refine va_oneG 21 (by kernel_rfl) rfl rfl rfl rfl rfl rfl ?_
  refine vo_make (m := 108) rfl rfl rfl (by omega) (by omega) rfl ?_
  intro gm
  rw [madeB 108]
  refine ⟨.inr (sei _ _ _), ?_⟩
  refine va_oneG 22 (by kernel_rfl) rfl rfl rfl rfl rfl rfl ?_
  (first | (refine vo_box rfl rfl rfl ?_; intro _) | (refine vo_alloc rfl ?_; intro _) | (refine vo_isStore ?_; first | (refine vo_isPt0 rfl ?_; refine vo_stWA rfl rfl ?_) | (refine vo_isPt rfl ?_; refine vo_stBA rfl rfl ?_) | (refine vo_stO rfl rfl (by rfl) (by first | rfl | assumption) (by first | assumption | (simp; done) | (simp; omega) | omega) rfl ?_; skip)) | (refine vo_isCall ?_; first | (refine vo_isApp ?_; first | (refine vo_append0A rfl rfl rfl ?_; intro _ _ _ _) | (refine vo_appendA rfl rfl rfl ?_; intro _ _ _ _)) | (refine vo_isCopy ?_; refine vo_copyB rfl rfl rfl (by assumption) (by assumption) (by assumption) (by assumption) ?_) | refine vo_yield rfl rfl rfl rfl rfl ?_ | refine vo_callV rfl rfl rfl (vc_in rfl rfl ?_)) | refine vo_convRow rfl rfl ?_ | (refine vo_isBs ?_; refine vo_buildSlice rfl rfl rfl (by decide) (by repeat' (first | exact trivial | rfl | assumption | refine ⟨?_, ?_⟩ | (simp; done) | (simp; omega))) (by decide) rfl ?_; intro _) | (refine vo_buildSlice0 rfl ?_; intro _) | fail)
  rename_i gb
  refine ⟨.inr (sei _ _ _), ?_⟩
  refine va_oneG 23 (by kernel_rfl) rfl rfl rfl rfl rfl rfl ?_
  first | refine vo_call rfl rfl ?_ | refine vo_callV rfl rfl rfl ?_
  haveI h1 : ∀ L, RdC w0 (own 29 1 (some ⟨gb, 0, none⟩) 1 1 [.slice (some ⟨gm, 0, none⟩) 108 108] :: L) (some ⟨gb, 0, none⟩) (pbs [⟨some ⟨gm, 0, none⟩, 108, List.replicate 108 0⟩]) := fun L => (inferInstance : RdC w0 (own 29 1 (some ⟨gb, 0, none⟩) 1 1 [.slice (some ⟨gm, 0, none⟩) 108 108] :: L) (some ⟨gb, 0, none⟩) [.slice (some ⟨gm, 0, none⟩) 108 108])
  refine vc_mono (tof_vc (hp := rdPs1) w0 _ 6 (by decide) (some ⟨gb, 0, none⟩) 1 [⟨some ⟨gm, 0, none⟩, 108, List.replicate 108 0⟩] rfl (by simp [tagB, ls, digs_length])) ?_
  rintro v L' ⟨rfl, rfl⟩
  rw [show ls [⟨some ⟨gm, 0, none⟩, 108, List.replicate 108 0⟩] = [List.replicate 108 0] from rfl, hDh]
  refine ⟨.inr (sei _ _ _), ?_⟩
  refine va_takeG 24 rfl rfl rfl rfl rfl rfl rfl rfl (by kernel_rfl) (fun _ _ _ _ h => h) (SE.ent (by repeat' (first | exact SE.refl _ | refine SE.cons _ ?_ | refine SE.trans (se_drop _ _) ?_)) _) (vq_eqBS rfl rfl lD) ?_
  refine va_takeA 25 rfl rfl rfl rfl ?_
  refine va_takeA 26 rfl rfl rfl rfl ?_
  first | (refine va_takeGA 27 rfl rfl rfl rfl rfl rfl rfl rfl ?_) | (refine va_passGA 27 rfl rfl rfl rfl rfl rfl rfl rfl ?_)
  refine va_takeA 28 rfl rfl rfl rfl ?_
  refine va_takeA 29 rfl rfl rfl rfl ?_
  first | (refine va_takeGA 30 rfl rfl rfl rfl rfl rfl rfl rfl ?_) | (refine va_passGA 30 rfl rfl rfl rfl rfl rfl rfl rfl ?_)
  refine va_takeG 31 (v := .agg (hd1 D).cells.toArray) rfl rfl rfl rfl rfl rfl rfl rfl (by kernel_rfl) (fun _ _ _ _ h => h) (SE.ent (by repeat' (first | exact SE.refl _ | refine SE.cons _ ?_ | refine SE.trans (se_drop _ _) ?_)) _) ?_ ?_
  · refine vq_buildP (cs := (hd1 D).cells) rfl (by simp [okS, Value.cells, lD]) ?_
    exact splice_mid [.int .i64 1] (bvs (List.replicate 32 0)) (bvs (List.replicate 32 0) ++ (bvs (List.replicate 32 0) ++ [.int .i64 0])) (bvs D) 1 rfl (by simp [lD])
  first | (refine va_takeGA 32 rfl rfl rfl rfl rfl rfl rfl rfl ?_) | (refine va_passGA 32 rfl rfl rfl rfl rfl rfl rfl rfl ?_)
  refine va_oneG 33 (by kernel_rfl) rfl rfl rfl rfl rfl rfl ?_
  first | refine vo_call rfl rfl ?_ | refine vo_callV rfl rfl rfl ?_
  show VC _ _ _ [.agg (hd1 D).cells.toArray, .agg zeroHd.cells.toArray] _ _
  refine vc_mono (hfollows_vc w0 _ (hd1 D) zeroHd (hd1_ok lD) zeroHd_ok) ?_
  rintro v L' ⟨rfl, rfl⟩
  rw [follows_d hD]
  refine ⟨.inr (sei _ _ _), ?_⟩
  refine va_takeA 34 rfl rfl rfl rfl ?_
  refine va_takeA 35 rfl rfl rfl rfl ?_
  refine va_takeG 36 (v := .agg (hd1 (List.replicate 32 0)).cells.toArray) rfl rfl rfl rfl rfl rfl rfl rfl (by kernel_rfl) (fun _ _ _ _ h => h) (SE.ent (by repeat' (first | exact SE.refl _ | refine SE.cons _ ?_ | refine SE.trans (se_drop _ _) ?_)) _) ?_ ?_
  · exact vq_buildP (cs := (hd1 (List.replicate 32 0)).cells) rfl (by simp [okS, Value.cells]) rfl
  first | (refine va_takeGA 37 rfl rfl rfl rfl rfl rfl rfl rfl ?_) | (refine va_passGA 37 rfl rfl rfl rfl rfl rfl rfl rfl ?_)
  refine va_oneG 38 (by kernel_rfl) rfl rfl rfl rfl rfl rfl ?_
  first | refine vo_call rfl rfl ?_ | refine vo_callV rfl rfl rfl ?_
  show VC _ _ _ [.agg (hd1 (List.replicate 32 0)).cells.toArray, .agg zeroHd.cells.toArray] _ _
  refine vc_mono (hfollows_vc w0 _ (hd1 (List.replicate 32 0)) zeroHd (hd1_ok (by simp)) zeroHd_ok) ?_
  rintro v L' ⟨rfl, rfl⟩
  rw [follows_z]
  refine ⟨.inr (sei _ _ _), ?_⟩
  first | (refine va_takeGA 39 rfl rfl rfl rfl rfl rfl rfl rfl ?_) | (refine va_passGA 39 rfl rfl rfl rfl rfl rfl rfl rfl ?_)
  refine va_takeA 40 rfl rfl rfl rfl ?_
  refine va_takeA 41 rfl rfl rfl rfl ?_
  refine va_done (by kernel_rfl) ?_
  skip
  repeat' (first | (refine goE ?_; intros) | (refine vl_caseG rfl rfl rfl rfl ?_ ?_ <;> (intro hb; (try simp only [decide_eq_true_eq, decide_eq_false_iff_not, Bool.not_eq_true', Bool.not_eq_false', ne_eq, Decidable.not_not, Option.isNone_iff_eq_none, not_true_eq_false, not_false_eq_true] at hb); try (exfalso; omega))) | (refine v_cond rfl ?_ ?_ <;> (intro hb; (try simp only [decide_eq_true_eq, decide_eq_false_iff_not, Bool.not_eq_true', Bool.not_eq_false', ne_eq, Decidable.not_not, Option.isNone_iff_eq_none, not_true_eq_false, not_false_eq_true] at hb); try (exfalso; omega))) | fail)
  exact rfl
end Go.Proofs.YtgmaolodfmolmaaDoor
