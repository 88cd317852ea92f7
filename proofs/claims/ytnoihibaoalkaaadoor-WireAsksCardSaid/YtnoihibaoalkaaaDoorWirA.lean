/-
  The document's numbers and digests at a place.
-/
import Derived.Test.YtnoihibaoalkaaaDoorWirQ
import Derived.Test.YtnoihibaoalkaaaDoorVIfc
import Derived.Test.YtnoihibaoalkaaaDoorGC
import Derived.Test.YtnoihibaoalkaaaDoorGK
set_option linter.unusedVariables false
set_option linter.unusedSimpArgs false
namespace Go.Proofs.YtnoihibaoalkaaaDoor
open Go Go.RowKit
set_option linter.unusedVariables false
set_option linter.unusedSimpArgs false
open Classical

theorem rnumber22_vc (w0 : World) (L : List Asn) (n : Int) (s : Nat) (h0 : 0 ≤ n) (h1 : n < 9223372036854775808) (hs : 0 < s) (hs8 : s ≤ 8) :
    VC Tryd.prog w0 129 [.int .i64 n, .int .i64 s] L fun v L' => ∃ a' c', v = .slice a' s c' ∧ L' = ownB a' c' (digs n.toNat s) :: L := by
  obtain ⟨k, rfl⟩ : ∃ k : Nat, n = k := ⟨n.toNat, by omega⟩
  rw [Int.toNat_natCast]
  have hw : IntKind.u64.wrap (k : Int) = (k : Int) := by simp only [IntKind.wrap_u64]; omega
  have hl := digs_length k s
  refine vc_ent ?_
  refine vc_in rfl rfl ?_
  repeat' (first | (refine go1 ?_; intros) | (refine vl_caseG rfl rfl rfl rfl ?_ ?_ <;> (intro hb; (try simp only [decide_eq_true_eq, decide_eq_false_iff_not, Bool.not_eq_true', Bool.not_eq_false', ne_eq, Decidable.not_not, Option.isNone_iff_eq_none, not_true_eq_false, not_false_eq_true] at hb); try (exfalso; omega))) | (refine v_cond rfl ?_ ?_ <;> (intro hb; (try simp only [decide_eq_true_eq, decide_eq_false_iff_not, Bool.not_eq_true', Bool.not_eq_false', ne_eq, Decidable.not_not, Option.isNone_iff_eq_none, not_true_eq_false, not_false_eq_true] at hb); try (exfalso; omega))) | fail)
  refine vl_o rfl (vo_call rfl rfl ?_)
  refine vc_mono (digits_vc w0 _ k s hs hs8 (by omega)) ?_
  rintro v L' ⟨a', c', b, rfl, rfl⟩
  repeat' (first | (refine go1 ?_; intros) | (refine vl_caseG rfl rfl rfl rfl ?_ ?_ <;> (intro hb; (try simp only [decide_eq_true_eq, decide_eq_false_iff_not, Bool.not_eq_true', Bool.not_eq_false', ne_eq, Decidable.not_not, Option.isNone_iff_eq_none, not_true_eq_false, not_false_eq_true] at hb); try (exfalso; omega))) | (refine v_cond rfl ?_ ?_ <;> (intro hb; (try simp only [decide_eq_true_eq, decide_eq_false_iff_not, Bool.not_eq_true', Bool.not_eq_false', ne_eq, Decidable.not_not, Option.isNone_iff_eq_none, not_true_eq_false, not_false_eq_true] at hb); try (exfalso; omega))) | fail)
  exact ⟨_, sei _ _ (ownB a' c' (digs k s) :: L), a', c', rfl, rfl⟩
set_option maxRecDepth 100000 in
theorem rsmall22_vc (w0 : World) (L : List Asn) (a : Option Addr) (c : Nat) (b : List UInt8) (i s : Nat) {n : Nat} (hn : n = b.length) (hc : b.length ≤ c) (hl : b.length ≤ 1000000) (hi : i ≤ 100) (hs : s ≤ 8) [hr : RdC w0 L a (bvs b)] :
    VC Tryd.prog w0 83 [.slice a n c, .int .i64 i, .int .i64 s] L fun v L' => v = .int .i64 (small22 b i s) ∧ L' = L := by
  subst hn
  have hb := numOf_lt ((b.drop i).take s)
  refine vc_ent ?_
  refine vc_in rfl rfl ?_
  by_cases h : b.length < i + s
  · have e : small22 b i s = -1 := by unfold small22; rw [if_pos h]
    rw [e]
    repeat' (first | (refine go1 ?_; intros) | (refine vl_caseG rfl rfl rfl rfl ?_ ?_ <;> (intro hb; (try simp only [decide_eq_true_eq, decide_eq_false_iff_not, Bool.not_eq_true', Bool.not_eq_false', ne_eq, Decidable.not_not, Option.isNone_iff_eq_none, not_true_eq_false, not_false_eq_true] at hb); try (exfalso; omega))) | (refine v_cond rfl ?_ ?_ <;> (intro hb; (try simp only [decide_eq_true_eq, decide_eq_false_iff_not, Bool.not_eq_true', Bool.not_eq_false', ne_eq, Decidable.not_not, Option.isNone_iff_eq_none, not_true_eq_false, not_false_eq_true] at hb); try (exfalso; omega))) | fail)
    all_goals first | (exfalso; omega) | exact ⟨L, sei _ _ _, rfl, rfl⟩
  have e : small22 b i s = if 2147483648 ≤ numOf ((b.drop i).take s) then (-1 : Int) else (numOf ((b.drop i).take s) : Int) := by unfold small22; rw [if_neg h]
  have hsl : ((b.drop i).take s).length = s := by simp; omega
  have hc2 : i + s ≤ c := by omega
  haveI hcut := rd_cut (w0 := w0) (L := L) (a := a) (l := b) i (i + s) c hc2
  rw [List.drop_take, Nat.add_sub_cancel_left] at hcut
  rw [e]
  repeat' (first | (refine go1 ?_; intros) | (refine vl_caseG rfl rfl rfl rfl ?_ ?_ <;> (intro hb; (try simp only [decide_eq_true_eq, decide_eq_false_iff_not, Bool.not_eq_true', Bool.not_eq_false', ne_eq, Decidable.not_not, Option.isNone_iff_eq_none, not_true_eq_false, not_false_eq_true] at hb); try (exfalso; omega))) | (refine v_cond rfl ?_ ?_ <;> (intro hb; (try simp only [decide_eq_true_eq, decide_eq_false_iff_not, Bool.not_eq_true', Bool.not_eq_false', ne_eq, Decidable.not_not, Option.isNone_iff_eq_none, not_true_eq_false, not_false_eq_true] at hb); try (exfalso; omega))) | fail)
  all_goals first | (exfalso; omega) | skip
  refine vl_o rfl (vo_call rfl rfl ?_)
  refine vc_mono (number_vc w0 _ (subA a i c 1) (c - i) ((b.drop i).take s) (by omega) (by omega)) ?_
  rintro v L' ⟨rfl, hL⟩
  obtain rfl := hL.symm
  have hb := numOf_lt ((b.drop i).take s)
  generalize numOf ((b.drop i).take s) = N at *
  by_cases h2 : 2147483648 ≤ N
  · rw [if_pos h2]
    repeat' (first | (refine go1 ?_; intros) | (refine vl_caseG rfl rfl rfl rfl ?_ ?_ <;> (intro hb; (try simp only [decide_eq_true_eq, decide_eq_false_iff_not, Bool.not_eq_true', Bool.not_eq_false', ne_eq, Decidable.not_not, Option.isNone_iff_eq_none, not_true_eq_false, not_false_eq_true] at hb); try (exfalso; omega))) | (refine v_cond rfl ?_ ?_ <;> (intro hb; (try simp only [decide_eq_true_eq, decide_eq_false_iff_not, Bool.not_eq_true', Bool.not_eq_false', ne_eq, Decidable.not_not, Option.isNone_iff_eq_none, not_true_eq_false, not_false_eq_true] at hb); try (exfalso; omega))) | fail)
    all_goals first | (exfalso; omega) | exact ⟨L, sei _ _ _, rfl, rfl⟩
  · rw [if_neg h2]
    have hw : IntKind.i64.wrap (N : Int) = (N : Int) := by simp only [IntKind.wrap_i64]; omega
    repeat' (first | (refine go1 ?_; intros) | (refine vl_caseG rfl rfl rfl rfl ?_ ?_ <;> (intro hb; (try simp only [decide_eq_true_eq, decide_eq_false_iff_not, Bool.not_eq_true', Bool.not_eq_false', ne_eq, Decidable.not_not, Option.isNone_iff_eq_none, not_true_eq_false, not_false_eq_true] at hb); try (exfalso; omega))) | (refine v_cond rfl ?_ ?_ <;> (intro hb; (try simp only [decide_eq_true_eq, decide_eq_false_iff_not, Bool.not_eq_true', Bool.not_eq_false', ne_eq, Decidable.not_not, Option.isNone_iff_eq_none, not_true_eq_false, not_false_eq_true] at hb); try (exfalso; omega))) | fail)
    all_goals first | (exfalso; omega) | exact ⟨L, sei _ _ _, rfl, rfl⟩
/-- A digest, so far. -/
def dgj (b : List UInt8) (i j : Nat) : List UInt8 := (b.drop i).take j ++ List.replicate (32 - ((b.drop i).take j).length) 0
theorem dgj_len (b : List UInt8) (i : Nat) {j : Nat} (hj : j ≤ 32) : (dgj b i j).length = 32 := by
  unfold dgj
  simp only [List.length_append, List.length_replicate, List.length_take, List.length_drop]
  omega
theorem dgj_set {b : List UInt8} {i j : Nat} (h : i + j < b.length) (hj : j < 32) : (dgj b i j).set j b[i + j] = dgj b i (j + 1) := by
  have l1 : ((b.drop i).take j).length = j := by simp; omega
  have l2 : ((b.drop i).take (j + 1)).length = j + 1 := by simp; omega
  unfold dgj
  rw [l1, l2, List.set_append_right _ _ (by omega), l1, Nat.sub_self, show 32 - j = (32 - (j + 1)) + 1 by omega, List.replicate_succ, List.set_cons_zero, List.take_succ_eq_append_getElem (by simp; omega), List.getElem_drop, List.append_assoc]
  rfl
theorem dgj_end {b : List UInt8} {i j : Nat} (hj : j ≤ 32) (h : j = 0 ∨ i + j ≤ b.length) (hn : ¬ (j < 32 ∧ i + j < b.length)) : dgj b i j = dig22 b i := by
  have e : (b.drop i).take j = (b.drop i).take 32 := by
    by_cases h3 : j = 32
    · rw [h3]
    · rw [List.take_of_length_le (by simp; omega), List.take_of_length_le (by simp; omega)]
  unfold dgj dig22
  rw [e]
set_option maxRecDepth 100000 in
set_option maxHeartbeats 1000000 in
theorem rdigest22_vc (w0 : World) (L : List Asn) (a : Option Addr) (c : Nat) (b : List UInt8) (i : Nat) {n : Nat} (hn : n = b.length) (hl : b.length ≤ 1000000) (hi : i ≤ 100) [hr : RdC w0 L a (bvs b)] :
    VC Tryd.prog w0 82 [.slice a n c, .int .i64 i] L fun v L' => v = .agg (bvs (dig22 b i)).toArray ∧ L' = L := by
  subst hn
  have hdl := dig22_len b i
  refine vc_ent ?_
  refine vc_in rfl rfl ?_
  repeat' (first | (refine go1 ?_; intros) | (refine vl_caseG rfl rfl rfl rfl ?_ ?_ <;> (intro hb; (try simp only [decide_eq_true_eq, decide_eq_false_iff_not, Bool.not_eq_true', Bool.not_eq_false', ne_eq, Decidable.not_not, Option.isNone_iff_eq_none, not_true_eq_false, not_false_eq_true] at hb); try (exfalso; omega))) | (refine v_cond rfl ?_ ?_ <;> (intro hb; (try simp only [decide_eq_true_eq, decide_eq_false_iff_not, Bool.not_eq_true', Bool.not_eq_false', ne_eq, Decidable.not_not, Option.isNone_iff_eq_none, not_true_eq_false, not_false_eq_true] at hb); try (exfalso; omega))) | fail)
  rename_i g4 g5
  refine v_loopF Nat [0, 1, 4, 5] rfl (fun j => [(6, .int .i64 j)]) (fun _ j => blk g5 26 (bvs (dgj b i j)) :: blk g4 26 (bvs (List.replicate 32 0)) :: L) (fun j => j ≤ 32 ∧ (j = 0 ∨ i + j ≤ b.length)) (fun j => 32 - j) 0 ⟨by omega, .inl rfl⟩ (by (repeat' (first | exact Sub.nil _ | refine Sub.cons rfl rfl ?_ | refine Sub.cons rfl ?_ ?_))) (Ent.refl _ _) ?_
  rintro j ⟨hj, hjl⟩
  have hjw := dgj_len b i hj
  by_cases hlt : j < 32 ∧ i + j < b.length
  · obtain ⟨h1, h2⟩ := hlt
    have hg := bvs_at b (i + j) h2
    have hbp : 0 < (bvs b).length := by rw [bvs_length]; omega
    have hst := dgj_set h2 h1
    have hsp : splice (bvs (dgj b i j)) (0 + j) [.int .u8 (b[i + j]).toNat] = bvs (dgj b i (j + 1)) := by
      rw [Nat.zero_add, splice_b _ _ (by omega), hst]
    have hcl : (bvs (dgj b i j)).length = 32 := by rw [bvs_length]; exact hjw
    generalize bvs (dgj b i j) = cs at *
    repeat' (first | (refine go1 ?_; intros) | (refine vl_caseG rfl rfl rfl rfl ?_ ?_ <;> (intro hb; (try simp only [decide_eq_true_eq, decide_eq_false_iff_not, Bool.not_eq_true', Bool.not_eq_false', ne_eq, Decidable.not_not, Option.isNone_iff_eq_none, not_true_eq_false, not_false_eq_true] at hb); try (exfalso; omega))) | (refine v_cond rfl ?_ ?_ <;> (intro hb; (try simp only [decide_eq_true_eq, decide_eq_false_iff_not, Bool.not_eq_true', Bool.not_eq_false', ne_eq, Decidable.not_not, Option.isNone_iff_eq_none, not_true_eq_false, not_false_eq_true] at hb); try (exfalso; omega))) | fail)
    rw [hsp]
    exact ⟨rfl, j + 1, ⟨by omega, .inr (by omega)⟩, by omega, by (repeat' (first | exact Sub.nil _ | refine Sub.cons rfl rfl ?_ | refine Sub.cons rfl ?_ ?_)), Ent.refl _ _⟩
  · have e : dgj b i j = dig22 b i := dgj_end hj hjl hlt
    rw [e]
    repeat' (first | (refine go1 ?_; intros) | (refine vl_caseG rfl rfl rfl rfl ?_ ?_ <;> (intro hb; (try simp only [decide_eq_true_eq, decide_eq_false_iff_not, Bool.not_eq_true', Bool.not_eq_false', ne_eq, Decidable.not_not, Option.isNone_iff_eq_none, not_true_eq_false, not_false_eq_true] at hb); try (exfalso; omega))) | (refine v_cond rfl ?_ ?_ <;> (intro hb; (try simp only [decide_eq_true_eq, decide_eq_false_iff_not, Bool.not_eq_true', Bool.not_eq_false', ne_eq, Decidable.not_not, Option.isNone_iff_eq_none, not_true_eq_false, not_false_eq_true] at hb); try (exfalso; omega))) | fail)
    all_goals first | (exfalso; omega) | exact ⟨L, sei _ _ _, rfl, rfl⟩
end Go.Proofs.YtnoihibaoalkaaaDoor
