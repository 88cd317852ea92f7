/-
  Headers of bytes: what is refused.
-/
import Derived.Test.YtgmaolodfmolmaaDoorHdD
import Derived.Test.YtgmaolodfmolmaaDoorGC
import Derived.Test.YtgmaolodfmolmaaDoorGK
set_option linter.unusedVariables false
set_option linter.unusedSimpArgs false
namespace Go.Proofs.YtgmaolodfmolmaaDoor
open Go Go.RowKit
set_option linter.unusedVariables false
set_option linter.unusedSimpArgs false

def zeroHd : Hd := ⟨0, List.replicate 32 0, List.replicate 32 0, List.replicate 32 0, 0⟩
theorem zeroHd_ok : zeroHd.ok := ⟨by simp [zeroHd], by simp [zeroHd], by simp [zeroHd]⟩
set_option maxRecDepth 100000 in
theorem hreadLen_vc (w0 : World) (L : List Asn) (a : Option Addr) (cap : Nat) (l : List UInt8) {n : Nat} (hn : n = l.length) (h : l.length ≠ 108) (hl : l.length ≤ 1000000) [hr : RdC w0 L a (bvs l)] :
    VC Tryd.prog w0 4 [.slice a n cap] L fun v L' => v = .tuple #[.agg zeroHd.cells.toArray, .int .i64 (if l.length < 108 then 10 else 11)] ∧ L' = L := by
  subst hn
  have hlen := Hd.len zeroHd_ok
  refine vc_ent ?_
  refine vc_in rfl rfl ?_
  by_cases h1 : l.length < 108
  · rw [if_pos h1]
    repeat' (first | (refine go1 ?_; intros) | (refine vl_caseG rfl rfl rfl rfl ?_ ?_ <;> (intro hb; (try simp only [decide_eq_true_eq, decide_eq_false_iff_not, Bool.not_eq_true', Bool.not_eq_false', ne_eq, Decidable.not_not, Option.isNone_iff_eq_none, not_true_eq_false, not_false_eq_true] at hb); try (exfalso; omega))) | (refine v_cond rfl ?_ ?_ <;> (intro hb; (try simp only [decide_eq_true_eq, decide_eq_false_iff_not, Bool.not_eq_true', Bool.not_eq_false', ne_eq, Decidable.not_not, Option.isNone_iff_eq_none, not_true_eq_false, not_false_eq_true] at hb); try (exfalso; omega))) | fail)
    exact ⟨L, sei _ _ _, rfl, rfl⟩
  · rw [if_neg h1]
    repeat' (first | (refine go1 ?_; intros) | (refine vl_caseG rfl rfl rfl rfl ?_ ?_ <;> (intro hb; (try simp only [decide_eq_true_eq, decide_eq_false_iff_not, Bool.not_eq_true', Bool.not_eq_false', ne_eq, Decidable.not_not, Option.isNone_iff_eq_none, not_true_eq_false, not_false_eq_true] at hb); try (exfalso; omega))) | (refine v_cond rfl ?_ ?_ <;> (intro hb; (try simp only [decide_eq_true_eq, decide_eq_false_iff_not, Bool.not_eq_true', Bool.not_eq_false', ne_eq, Decidable.not_not, Option.isNone_iff_eq_none, not_true_eq_false, not_false_eq_true] at hb); try (exfalso; omega))) | fail)
    exact ⟨L, sei _ _ _, rfl, rfl⟩
set_option maxRecDepth 100000 in
set_option maxHeartbeats 2000000 in
theorem hreadFar_vc (w0 : World) (L : List Asn) (a : Option Addr) (cap : Nat) (l : List UInt8) {n : Nat} (hn : n = l.length) (h : l.length = 108) (hcap : l.length ≤ cap) (hfar : 1073741824 < numOf (l.take 8)) [hr : RdC w0 L a (bvs l)] :
    VC Tryd.prog w0 4 [.slice a n cap] L fun v L' => v = .tuple #[.agg zeroHd.cells.toArray, .int .i64 8] ∧ L' = L := by
  subst hn
  have hlen := Hd.len zeroHd_ok
  refine vc_ent ?_
  refine vc_in rfl rfl ?_
  repeat' (first | (refine go1 ?_; intros) | (refine vl_caseG rfl rfl rfl rfl ?_ ?_ <;> (intro hb; (try simp only [decide_eq_true_eq, decide_eq_false_iff_not, Bool.not_eq_true', Bool.not_eq_false', ne_eq, Decidable.not_not, Option.isNone_iff_eq_none, not_true_eq_false, not_false_eq_true] at hb); try (exfalso; omega))) | (refine v_cond rfl ?_ ?_ <;> (intro hb; (try simp only [decide_eq_true_eq, decide_eq_false_iff_not, Bool.not_eq_true', Bool.not_eq_false', ne_eq, Decidable.not_not, Option.isNone_iff_eq_none, not_true_eq_false, not_false_eq_true] at hb); try (exfalso; omega))) | fail)
  refine vl_o rfl (vo_call rfl rfl ?_)
  refine vc_mono (take_vc w0 _ a cap l 8 rfl (by decide) (by decide) (by omega) hcap (by omega)) ?_
  rintro v L' ⟨a1, c1, hc1, rfl, rfl⟩
  generalize hN : numOf (l.take 8) = N at hfar ⊢
  have hN64 : N < 18446744073709551616 := by rw [← hN]; exact numOf_lt _
  repeat' (first | (refine goW ?_; intros) | (refine vl_caseG rfl rfl rfl rfl ?_ ?_ <;> (intro hb; (try simp only [decide_eq_true_eq, decide_eq_false_iff_not, Bool.not_eq_true', Bool.not_eq_false', ne_eq, Decidable.not_not, Option.isNone_iff_eq_none, not_true_eq_false, not_false_eq_true] at hb); try (exfalso; omega))) | (refine v_cond rfl ?_ ?_ <;> (intro hb; (try simp only [decide_eq_true_eq, decide_eq_false_iff_not, Bool.not_eq_true', Bool.not_eq_false', ne_eq, Decidable.not_not, Option.isNone_iff_eq_none, not_true_eq_false, not_false_eq_true] at hb); try (exfalso; omega))) | fail)
  rename_i g2 _ g7
  have hdl : (l.drop 8).length = 100 := by simp; omega
  refine v_loopF (Nat × Option Addr × Nat × List UInt8 × List Value) [2, 4, 7] rfl (fun x => [(33, .int .i64 x.1), (5, .slice x.2.1 x.2.2.2.1.length x.2.2.1)]) (fun _ x => blk g7 40 [.pointer (some ⟨g2, 0 + 1, none⟩), .pointer (some ⟨g2, 0 + 33, none⟩), .pointer (some ⟨g2, 0 + 65, none⟩)] :: blk g2 25 x.2.2.2.2 :: ownB a1 c1 (l.drop 8) :: L)
    (fun x => x.1 ≤ 3 ∧ x.2.2.2.1.length = 100 - 32 * x.1 ∧ x.2.2.2.1.length ≤ x.2.2.1 ∧ x.2.2.2.2.length = 98 ∧ RdC w0 (ownB a1 c1 (l.drop 8) :: L) x.2.1 (bvs x.2.2.2.1)) (fun x => 3 - x.1)
    (0, a1, c1, l.drop 8, zeroHd.cells) ⟨Nat.zero_le _, hdl, by dsimp only; omega, hlen, inferInstance⟩ (by dsimp only; rw [hdl, show (100 : Nat) = l.length - 8 by omega]; (repeat' (first | exact Sub.nil _ | refine Sub.cons rfl rfl ?_ | refine Sub.cons rfl ?_ ?_))) ((SE.cons _ (se_swap _ _ _)).ent w0) ?_
  rintro ⟨i, a', c', ys, cs⟩ ⟨hi, hyl, hyc, hcl, hry⟩
  dsimp only at hi hyl hyc hcl hry ⊢
  have hm : min ys.length 32 = 32 ∨ i = 3 := by omega
  rcases (show i = 0 ∨ i = 1 ∨ i = 2 ∨ i = 3 by omega) with rfl | rfl | rfl | rfl
  · skip
    have hm32 : min ys.length 32 = 32 := by omega
    obtain ⟨zs, hzs⟩ : ∃ zs, ys.take (min ys.length 32) = zs := ⟨_, rfl⟩
    have hzl : zs.length = min ys.length 32 := by rw [← hzs, List.length_take]; omega
    obtain ⟨cs', hcs'⟩ : ∃ cs', splice cs (0 + 1) (bvs zs) = cs' := ⟨_, rfl⟩
    have hfit : 0 + 1 + zs.length ≤ cs.length := by omega
    have hcl2 : cs'.length = 98 := by rw [← hcs', splice_len _ _ _ (by rw [bvs_length]; omega), hcl]
    haveI hrd : RdC w0 (ownB a1 c1 (l.drop 8) :: L) (subA a' 32 c' 1) (bvs (ys.drop 32)) := rd_drop 32 c' hyc
    repeat' (first | (refine go1 ?_; intros) | (refine vl_caseG rfl rfl rfl rfl ?_ ?_ <;> (intro hb; (try simp only [decide_eq_true_eq, decide_eq_false_iff_not, Bool.not_eq_true', Bool.not_eq_false', ne_eq, Decidable.not_not, Option.isNone_iff_eq_none, not_true_eq_false, not_false_eq_true] at hb); try (exfalso; omega))) | (refine v_cond rfl ?_ ?_ <;> (intro hb; (try simp only [decide_eq_true_eq, decide_eq_false_iff_not, Bool.not_eq_true', Bool.not_eq_false', ne_eq, Decidable.not_not, Option.isNone_iff_eq_none, not_true_eq_false, not_false_eq_true] at hb); try (exfalso; omega))) | fail)
    rw [hm32]
    refine ⟨rfl, (1, subA a' 32 c' 1, c' - 32, ys.drop 32, cs'), ⟨by dsimp only; omega, by dsimp only; rw [List.length_drop]; omega, by dsimp only; rw [List.length_drop]; omega, hcl2, hrd⟩, by dsimp only; omega, ?_, Ent.refl _ _⟩
    dsimp only
    rw [List.length_drop]
    (repeat' (first | exact Sub.nil _ | refine Sub.cons rfl rfl ?_ | refine Sub.cons rfl ?_ ?_))
  · skip
    have hm32 : min ys.length 32 = 32 := by omega
    obtain ⟨zs, hzs⟩ : ∃ zs, ys.take (min ys.length 32) = zs := ⟨_, rfl⟩
    have hzl : zs.length = min ys.length 32 := by rw [← hzs, List.length_take]; omega
    obtain ⟨cs', hcs'⟩ : ∃ cs', splice cs (0 + 33) (bvs zs) = cs' := ⟨_, rfl⟩
    have hfit : 0 + 33 + zs.length ≤ cs.length := by omega
    have hcl2 : cs'.length = 98 := by rw [← hcs', splice_len _ _ _ (by rw [bvs_length]; omega), hcl]
    haveI hrd : RdC w0 (ownB a1 c1 (l.drop 8) :: L) (subA a' 32 c' 1) (bvs (ys.drop 32)) := rd_drop 32 c' hyc
    repeat' (first | (refine go1 ?_; intros) | (refine vl_caseG rfl rfl rfl rfl ?_ ?_ <;> (intro hb; (try simp only [decide_eq_true_eq, decide_eq_false_iff_not, Bool.not_eq_true', Bool.not_eq_false', ne_eq, Decidable.not_not, Option.isNone_iff_eq_none, not_true_eq_false, not_false_eq_true] at hb); try (exfalso; omega))) | (refine v_cond rfl ?_ ?_ <;> (intro hb; (try simp only [decide_eq_true_eq, decide_eq_false_iff_not, Bool.not_eq_true', Bool.not_eq_false', ne_eq, Decidable.not_not, Option.isNone_iff_eq_none, not_true_eq_false, not_false_eq_true] at hb); try (exfalso; omega))) | fail)
    rw [hm32]
    refine ⟨rfl, (2, subA a' 32 c' 1, c' - 32, ys.drop 32, cs'), ⟨by dsimp only; omega, by dsimp only; rw [List.length_drop]; omega, by dsimp only; rw [List.length_drop]; omega, hcl2, hrd⟩, by dsimp only; omega, ?_, Ent.refl _ _⟩
    dsimp only
    rw [List.length_drop]
    (repeat' (first | exact Sub.nil _ | refine Sub.cons rfl rfl ?_ | refine Sub.cons rfl ?_ ?_))
  · skip
    have hm32 : min ys.length 32 = 32 := by omega
    obtain ⟨zs, hzs⟩ : ∃ zs, ys.take (min ys.length 32) = zs := ⟨_, rfl⟩
    have hzl : zs.length = min ys.length 32 := by rw [← hzs, List.length_take]; omega
    obtain ⟨cs', hcs'⟩ : ∃ cs', splice cs (0 + 65) (bvs zs) = cs' := ⟨_, rfl⟩
    have hfit : 0 + 65 + zs.length ≤ cs.length := by omega
    have hcl2 : cs'.length = 98 := by rw [← hcs', splice_len _ _ _ (by rw [bvs_length]; omega), hcl]
    haveI hrd : RdC w0 (ownB a1 c1 (l.drop 8) :: L) (subA a' 32 c' 1) (bvs (ys.drop 32)) := rd_drop 32 c' hyc
    repeat' (first | (refine go1 ?_; intros) | (refine vl_caseG rfl rfl rfl rfl ?_ ?_ <;> (intro hb; (try simp only [decide_eq_true_eq, decide_eq_false_iff_not, Bool.not_eq_true', Bool.not_eq_false', ne_eq, Decidable.not_not, Option.isNone_iff_eq_none, not_true_eq_false, not_false_eq_true] at hb); try (exfalso; omega))) | (refine v_cond rfl ?_ ?_ <;> (intro hb; (try simp only [decide_eq_true_eq, decide_eq_false_iff_not, Bool.not_eq_true', Bool.not_eq_false', ne_eq, Decidable.not_not, Option.isNone_iff_eq_none, not_true_eq_false, not_false_eq_true] at hb); try (exfalso; omega))) | fail)
    rw [hm32]
    refine ⟨rfl, (3, subA a' 32 c' 1, c' - 32, ys.drop 32, cs'), ⟨by dsimp only; omega, by dsimp only; rw [List.length_drop]; omega, by dsimp only; rw [List.length_drop]; omega, hcl2, hrd⟩, by dsimp only; omega, ?_, Ent.refl _ _⟩
    dsimp only
    rw [List.length_drop]
    (repeat' (first | exact Sub.nil _ | refine Sub.cons rfl rfl ?_ | refine Sub.cons rfl ?_ ?_))
  · haveI := hry
    have hfar' : (1073741824 : Int) < (N : Int) := by omega
    repeat' (first | (refine go1 ?_; intros) | (refine vl_caseG rfl rfl rfl rfl ?_ ?_ <;> (intro hb; (try simp only [decide_eq_true_eq, decide_eq_false_iff_not, Bool.not_eq_true', Bool.not_eq_false', ne_eq, Decidable.not_not, Option.isNone_iff_eq_none, not_true_eq_false, not_false_eq_true] at hb); try (exfalso; omega))) | (refine v_cond rfl ?_ ?_ <;> (intro hb; (try simp only [decide_eq_true_eq, decide_eq_false_iff_not, Bool.not_eq_true', Bool.not_eq_false', ne_eq, Decidable.not_not, Option.isNone_iff_eq_none, not_true_eq_false, not_false_eq_true] at hb); try (exfalso; omega))) | fail)
    refine vl_o rfl (vo_call rfl rfl ?_)
    refine vc_mono (take_vc w0 _ a' c' ys 4 rfl (by decide) (by decide) (by omega) hyc (by omega)) ?_
    rintro v L' ⟨a9, c9, hc9, rfl, rfl⟩
    generalize hM : numOf (ys.take 4) = M
    have hM64 : M < 18446744073709551616 := by rw [← hM]; exact numOf_lt _
    repeat' (first | (refine go1 ?_; intros) | (refine vl_caseG rfl rfl rfl rfl ?_ ?_ <;> (intro hb; (try simp only [decide_eq_true_eq, decide_eq_false_iff_not, Bool.not_eq_true', Bool.not_eq_false', ne_eq, Decidable.not_not, Option.isNone_iff_eq_none, not_true_eq_false, not_false_eq_true] at hb); try (exfalso; omega))) | (refine v_cond rfl ?_ ?_ <;> (intro hb; (try simp only [decide_eq_true_eq, decide_eq_false_iff_not, Bool.not_eq_true', Bool.not_eq_false', ne_eq, Decidable.not_not, Option.isNone_iff_eq_none, not_true_eq_false, not_false_eq_true] at hb); try (exfalso; omega))) | fail)
    exact ⟨L, sei _ _ _, rfl, rfl⟩
end Go.Proofs.YtgmaolodfmolmaaDoor
