/-
  The document's digest: the walk.
-/
import Derived.Test.YtpnhgmmijkjmlaaDoorShaD
namespace Go.Proofs.YtpnhgmmijkjmlaaDoor
open Go Go.RowKit
set_option linter.unusedVariables false
set_option linter.unusedSimpArgs false

def tl8 (D : List UInt8) (j : Nat) : List UInt8 := List.replicate (8 - j) 0 ++ D.drop (8 - j)
theorem tl8_length (D : List UInt8) (hD : D.length = 8) (j : Nat) (hj : j ≤ 8) : (tl8 D j).length = 8 := by
  simp only [tl8, List.length_append, List.length_replicate, List.length_drop, hD]; omega
theorem tl8_set (D : List UInt8) (hD : D.length = 8) (j : Nat) (hj : j < 8) (x : UInt8) (hx : D[7 - j]? = some x) : (tl8 D j).set (7 - j) x = tl8 D (j + 1) := by
  obtain ⟨h1, rfl⟩ := List.getElem?_eq_some_iff.1 hx
  unfold tl8
  rw [show 8 - j = (7 - j) + 1 by omega, show 8 - (j + 1) = 7 - j by omega, List.replicate_succ', List.append_assoc, List.set_append_right _ _ (by simp), List.length_replicate, Nat.sub_self, List.singleton_append, List.set_cons_zero, List.drop_eq_getElem_cons h1]
theorem q256 (n : Nat) (h : n < 18446744073709551616) : IntKind.u64.wrap ((n : Int).tdiv 256) = ((n / 256 : Nat) : Int) := by
  rw [Int.tdiv_eq_ediv_of_nonneg (by omega), IntKind.wrap_u64]; omega
theorem b256 (n : Nat) : IntKind.u8.wrap (((n : Int).tmod 256)) = ((UInt8.ofNat n).toNat : Int) := by
  rw [Int.tmod_eq_emod_of_nonneg (by omega), u8_wrapD]
  congr 2
  apply UInt8.toNat_inj.1
  rw [UInt8.toNat_ofNat', UInt8.toNat_ofNat']
  omega

set_option maxRecDepth 100000 in
set_option maxHeartbeats 1600000 in
theorem padded_vc (w0 : World) (L : List Asn) (a : Option Addr) (cap : Nat) (l : List UInt8) {n : Nat} (hn : n = l.length) (hl : l.length ≤ 1000000000) [hr : RdC w0 L a (bvs l)] :
    VC Tryd.prog w0 89 [.slice a n cap] L fun v L' => ∃ a' c', v = .slice a' (pad l).length c' ∧ L' = ownB a' c' (pad l) :: L ∧ (pad l).length ≤ c' := by
  subst hn
  have hP : pad l = l ++ padTail l := rfl
  refine vc_ent ?_
  refine vc_in rfl rfl ?_
  repeat' (first | (refine vl_id ?_; first | refine vl_nil ?_ | refine vl_qW rfl rfl rfl rfl ?_ | (refine vl_o rfl ?_; (first | (refine vo_box rfl rfl rfl ?_; intro _) | (refine vo_alloc rfl ?_; intro _) | (refine vo_isStore ?_; first | (refine vo_isPt0 rfl ?_; refine vo_stWA rfl rfl ?_) | (refine vo_isPt rfl ?_; refine vo_stBA rfl rfl ?_) | (refine vo_stO rfl rfl (by rfl) (by rfl) (by first | (simp; done) | (simp; omega) | omega) rfl ?_; skip)) | (refine vo_isCall ?_; first | (refine vo_isApp ?_; first | (refine vo_append0A rfl rfl rfl ?_; intro _ _ _ _) | (refine vo_appendA rfl rfl rfl ?_; intro _ _ _ _)) | (refine vo_isCopy ?_; refine vo_copyB rfl rfl rfl (by assumption) (by assumption) (by assumption) (by assumption) ?_) | refine vo_yield rfl rfl rfl rfl rfl ?_ | refine vo_callV rfl rfl rfl (vc_in rfl rfl ?_)) | refine vo_convRow rfl rfl ?_ | (refine vo_isBs ?_; refine vo_buildSlice rfl rfl rfl (by decide) (by repeat' (first | exact trivial | rfl | refine ⟨?_, ?_⟩ | (simp; done) | (simp; omega))) (by decide) rfl ?_; intro _) | (refine vo_buildSlice0 rfl ?_; intro _) | fail)) | refine vl_guard rfl rfl rfl rfl rfl ?_ | refine vl_pass rfl rfl rfl rfl rfl rfl rfl ?_ | (refine vl_caseG rfl rfl rfl rfl ?_ ?_ <;> (intro hb; (try simp only [decide_eq_true_eq, decide_eq_false_iff_not, Bool.not_eq_true', Bool.not_eq_false', ne_eq, Decidable.not_not, Option.isNone_iff_eq_none, not_true_eq_false, not_false_eq_true] at hb); try (exfalso; omega)))) | (refine v_id ?_; first | refine v_seq ?_ | refine v_region ?_ | refine v_condT rfl ?_ | refine v_condF rfl ?_ | (refine v_cond rfl ?_ ?_ <;> (intro hb; (try simp only [decide_eq_true_eq, decide_eq_false_iff_not, Bool.not_eq_true', Bool.not_eq_false', ne_eq, Decidable.not_not, Option.isNone_iff_eq_none, not_true_eq_false, not_false_eq_true] at hb); try (exfalso; omega))) | refine v_block ?_ | refine v_skip ?_ | refine v_ret ?_ | refine v_exit ?_ | refine v_label ?_ | refine v_scope (fun _ _ _ _ h => h) ?_ | refine v_code ?_) | refine thn_n ?_ | refine inb_n ?_ | refine inb_r ?_ | refine thn_r ?_ | refine thn_e ?_ | refine inb_e rfl ?_ | refine inb_o rfl ?_ | refine beginR ?_ | refine rangeEnd_done (by decide) ?_ | refine rangeEnd_jump (by decide) ?_ | refine ret_mark ?_ | refine roundQ_n ?_ | refine roundQ_r ?_ | refine roundQ_e ?_ | refine ret0 rfl ?_ | refine ret1A rfl ?_ | refine ret2A rfl ?_ | refine ret3A rfl ?_ | fail )
  rename_i a1 c1 _ _ gb a2 c2 _ hc2
  refine v_loopF (Nat × Option Addr × Nat) [0] rfl (fun x => [(3, .slice x.2.1 (l ++ 128 :: List.replicate x.1 0).length x.2.2)]) (fun _ x => ownB x.2.1 x.2.2 (l ++ 128 :: List.replicate x.1 0) :: L) (fun x => x.1 ≤ fill l.length ∧ (l ++ 128 :: List.replicate x.1 0).length ≤ x.2.2) (fun x => fill l.length - x.1) (0, a2, c2) ⟨Nat.zero_le _, by simpa using hc2⟩ (by rw [show l.length + 1 = (l ++ 128 :: List.replicate (0, a2, c2).1 0).length by simp]; (repeat' (first | exact Sub.nil _ | refine Sub.cons rfl rfl ?_ | refine Sub.cons rfl ?_ ?_))) ?_ ?_
  · have e := own_snoc2 (a := a2) (c := c2) (l := l) (l' := l ++ 128 :: List.replicate 0 0) (x := 128) rfl
    dsimp only
    rw [← e]
    exact (se_drop _ _).ent w0
  rintro ⟨j, a3, c3⟩ ⟨hj, hc3⟩
  dsimp only at hj hc3 ⊢
  have hf64 := fill_lt l.length
  have hll : (l ++ 128 :: List.replicate j 0).length = l.length + 1 + j := by simp; omega
  by_cases hjf : j < fill l.length
  · have hne := fill_before l.length j (by omega)
    generalize hB : l ++ 128 :: List.replicate j 0 = B at *
    repeat' (first | (refine vl_id ?_; first | refine vl_nil ?_ | refine vl_qW rfl rfl rfl rfl ?_ | (refine vl_o rfl ?_; (first | (refine vo_box rfl rfl rfl ?_; intro _) | (refine vo_alloc rfl ?_; intro _) | (refine vo_isStore ?_; first | (refine vo_isPt0 rfl ?_; refine vo_stWA rfl rfl ?_) | (refine vo_isPt rfl ?_; refine vo_stBA rfl rfl ?_) | (refine vo_stO rfl rfl (by rfl) (by rfl) (by first | (simp; done) | (simp; omega) | omega) rfl ?_; skip)) | (refine vo_isCall ?_; first | (refine vo_isApp ?_; first | (refine vo_append0A rfl rfl rfl ?_; intro _ _ _ _) | (refine vo_appendA rfl rfl rfl ?_; intro _ _ _ _)) | (refine vo_isCopy ?_; refine vo_copyB rfl rfl rfl (by assumption) (by assumption) (by assumption) (by assumption) ?_) | refine vo_yield rfl rfl rfl rfl rfl ?_ | refine vo_callV rfl rfl rfl (vc_in rfl rfl ?_)) | refine vo_convRow rfl rfl ?_ | (refine vo_isBs ?_; refine vo_buildSlice rfl rfl rfl (by decide) (by repeat' (first | exact trivial | rfl | refine ⟨?_, ?_⟩ | (simp; done) | (simp; omega))) (by decide) rfl ?_; intro _) | (refine vo_buildSlice0 rfl ?_; intro _) | fail)) | refine vl_guard rfl rfl rfl rfl rfl ?_ | refine vl_pass rfl rfl rfl rfl rfl rfl rfl ?_ | (refine vl_caseG rfl rfl rfl rfl ?_ ?_ <;> (intro hb; (try simp only [decide_eq_true_eq, decide_eq_false_iff_not, Bool.not_eq_true', Bool.not_eq_false', ne_eq, Decidable.not_not, Option.isNone_iff_eq_none, not_true_eq_false, not_false_eq_true] at hb); try (exfalso; omega)))) | (refine v_id ?_; first | refine v_seq ?_ | refine v_region ?_ | refine v_condT rfl ?_ | refine v_condF rfl ?_ | (refine v_cond rfl ?_ ?_ <;> (intro hb; (try simp only [decide_eq_true_eq, decide_eq_false_iff_not, Bool.not_eq_true', Bool.not_eq_false', ne_eq, Decidable.not_not, Option.isNone_iff_eq_none, not_true_eq_false, not_false_eq_true] at hb); try (exfalso; omega))) | refine v_block ?_ | refine v_skip ?_ | refine v_ret ?_ | refine v_exit ?_ | refine v_label ?_ | refine v_scope (fun _ _ _ _ h => h) ?_ | refine v_code ?_) | refine thn_n ?_ | refine inb_n ?_ | refine inb_r ?_ | refine thn_r ?_ | refine thn_e ?_ | refine inb_e rfl ?_ | refine inb_o rfl ?_ | refine beginR ?_ | refine rangeEnd_done (by decide) ?_ | refine rangeEnd_jump (by decide) ?_ | refine ret_mark ?_ | refine roundQ_n ?_ | refine roundQ_r ?_ | refine roundQ_e ?_ | refine ret0 rfl ?_ | refine ret1A rfl ?_ | refine ret2A rfl ?_ | refine ret3A rfl ?_ | fail )
    rename_i gz a4 c4 _ hc4
    have hB' : l ++ 128 :: List.replicate (j + 1) 0 = B ++ [0] := by rw [← hB, List.replicate_succ']; simp
    refine ⟨rfl, (j + 1, a4, c4), ⟨hjf, by dsimp only; rw [hB']; simpa using hc4⟩, by dsimp only; omega, ?_, ?_⟩
    · dsimp only
      have hl1 : (B ++ [(0 : UInt8)]).length = B.length + 1 := by simp
      rw [hB', hl1]
      (repeat' (first | exact Sub.nil _ | refine Sub.cons rfl rfl ?_ | refine Sub.cons rfl ?_ ?_))
    · dsimp only
      rw [hB', ← own_snoc]
      exact (se_drop _ _).ent w0
  have hjq : j = fill l.length := by omega
  subst hjq
  have hne := fill_at l.length
  have hPd : pad l = (l ++ 128 :: List.replicate (fill l.length) 0) ++ digs (8 * l.length) 8 := by rw [hP]; simp [padTail, tail8]
  generalize hB : l ++ 128 :: List.replicate (fill l.length) 0 = B at *
  repeat' (first | (refine vl_id ?_; first | refine vl_nil ?_ | refine vl_qW rfl rfl rfl rfl ?_ | (refine vl_o rfl ?_; (first | (refine vo_box rfl rfl rfl ?_; intro _) | (refine vo_alloc rfl ?_; intro _) | (refine vo_isStore ?_; first | (refine vo_isPt0 rfl ?_; refine vo_stWA rfl rfl ?_) | (refine vo_isPt rfl ?_; refine vo_stBA rfl rfl ?_) | (refine vo_stO rfl rfl (by rfl) (by rfl) (by first | (simp; done) | (simp; omega) | omega) rfl ?_; skip)) | (refine vo_isCall ?_; first | (refine vo_isApp ?_; first | (refine vo_append0A rfl rfl rfl ?_; intro _ _ _ _) | (refine vo_appendA rfl rfl rfl ?_; intro _ _ _ _)) | (refine vo_isCopy ?_; refine vo_copyB rfl rfl rfl (by assumption) (by assumption) (by assumption) (by assumption) ?_) | refine vo_yield rfl rfl rfl rfl rfl ?_ | refine vo_callV rfl rfl rfl (vc_in rfl rfl ?_)) | refine vo_convRow rfl rfl ?_ | (refine vo_isBs ?_; refine vo_buildSlice rfl rfl rfl (by decide) (by repeat' (first | exact trivial | rfl | refine ⟨?_, ?_⟩ | (simp; done) | (simp; omega))) (by decide) rfl ?_; intro _) | (refine vo_buildSlice0 rfl ?_; intro _) | fail)) | refine vl_guard rfl rfl rfl rfl rfl ?_ | refine vl_pass rfl rfl rfl rfl rfl rfl rfl ?_ | (refine vl_caseG rfl rfl rfl rfl ?_ ?_ <;> (intro hb; (try simp only [decide_eq_true_eq, decide_eq_false_iff_not, Bool.not_eq_true', Bool.not_eq_false', ne_eq, Decidable.not_not, Option.isNone_iff_eq_none, not_true_eq_false, not_false_eq_true] at hb); try (exfalso; omega)))) | (refine v_id ?_; first | refine v_seq ?_ | refine v_region ?_ | refine v_condT rfl ?_ | refine v_condF rfl ?_ | (refine v_cond rfl ?_ ?_ <;> (intro hb; (try simp only [decide_eq_true_eq, decide_eq_false_iff_not, Bool.not_eq_true', Bool.not_eq_false', ne_eq, Decidable.not_not, Option.isNone_iff_eq_none, not_true_eq_false, not_false_eq_true] at hb); try (exfalso; omega))) | refine v_block ?_ | refine v_skip ?_ | refine v_ret ?_ | refine v_exit ?_ | refine v_label ?_ | refine v_scope (fun _ _ _ _ h => h) ?_ | refine v_code ?_) | refine thn_n ?_ | refine inb_n ?_ | refine inb_r ?_ | refine thn_r ?_ | refine thn_e ?_ | refine inb_e rfl ?_ | refine inb_o rfl ?_ | refine beginR ?_ | refine rangeEnd_done (by decide) ?_ | refine rangeEnd_jump (by decide) ?_ | refine ret_mark ?_ | refine roundQ_n ?_ | refine roundQ_r ?_ | refine roundQ_e ?_ | refine ret0 rfl ?_ | refine ret1A rfl ?_ | refine ret2A rfl ?_ | refine ret3A rfl ?_ | fail )
  rename_i g5
  have hD8 := digs_length (8 * l.length) 8
  have hDat := fun j (hj : j < 8) => digs_at (8 * l.length) 8 j hj
  rw [show IntKind.u64.wrap (8 * (l.length : Int)) = ((8 * l.length : Nat) : Int) by rw [IntKind.wrap_u64]; omega]
  have hN : 8 * l.length < 18446744073709551616 := by omega
  generalize digs (8 * l.length) 8 = D at *
  generalize 8 * l.length = N at *
  refine v_loopF Nat [3, 5] rfl (fun j => [(6, .int .i64 (7 - (j : Int))), (4, .int .u64 ((N / 256 ^ j : Nat) : Int))]) (fun _ j => blk g5 142 (bvs (tl8 D j)) :: ownB a3 c3 B :: L) (fun j => j ≤ 8) (fun j => 8 - j) 0 (Nat.zero_le _) (by rw [Nat.pow_zero, Nat.div_one]; (repeat' (first | exact Sub.nil _ | refine Sub.cons rfl rfl ?_ | refine Sub.cons rfl ?_ ?_))) (by rw [show tl8 D 0 = List.replicate 8 0 by simp [tl8, hD8]]; exact Ent.refl _ _) ?_
  intro j hj8
  have hT := tl8_length D hD8 j hj8
  by_cases hj7 : j < 8
  · have hD7 := hDat (7 - j) (by omega)
    rw [show 8 - 1 - (7 - j) = j by omega] at hD7
    have hst := tl8_set D hD8 j hj7 _ hD7
    have hnl : N / 256 ^ j < 18446744073709551616 := Nat.lt_of_le_of_lt (Nat.div_le_self _ _) hN
    have hns : N / 256 ^ (j + 1) = N / 256 ^ j / 256 := by rw [Nat.pow_succ, Nat.div_div_eq_div_mul]
    generalize N / 256 ^ j = M at *
    generalize tl8 D j = T at *
    repeat' (first | (refine vl_id ?_; first | refine vl_nil ?_ | refine vl_qW rfl rfl rfl rfl ?_ | (refine vl_o rfl ?_; (first | (refine vo_box rfl rfl rfl ?_; intro _) | (refine vo_alloc rfl ?_; intro _) | (refine vo_isStore ?_; first | (refine vo_isPt0 rfl ?_; refine vo_stWA rfl rfl ?_) | (refine vo_isPt rfl ?_; refine vo_stBA rfl rfl ?_) | (refine vo_stO rfl rfl (by rfl) (by rfl) (by first | (simp; done) | (simp; omega) | omega) rfl ?_; skip)) | (refine vo_isCall ?_; first | (refine vo_isApp ?_; first | (refine vo_append0A rfl rfl rfl ?_; intro _ _ _ _) | (refine vo_appendA rfl rfl rfl ?_; intro _ _ _ _)) | (refine vo_isCopy ?_; refine vo_copyB rfl rfl rfl (by assumption) (by assumption) (by assumption) (by assumption) ?_) | refine vo_yield rfl rfl rfl rfl rfl ?_ | refine vo_callV rfl rfl rfl (vc_in rfl rfl ?_)) | refine vo_convRow rfl rfl ?_ | (refine vo_isBs ?_; refine vo_buildSlice rfl rfl rfl (by decide) (by repeat' (first | exact trivial | rfl | refine ⟨?_, ?_⟩ | (simp; done) | (simp; omega))) (by decide) rfl ?_; intro _) | (refine vo_buildSlice0 rfl ?_; intro _) | fail)) | refine vl_guard rfl rfl rfl rfl rfl ?_ | refine vl_pass rfl rfl rfl rfl rfl rfl rfl ?_ | (refine vl_caseG rfl rfl rfl rfl ?_ ?_ <;> (intro hb; (try simp only [decide_eq_true_eq, decide_eq_false_iff_not, Bool.not_eq_true', Bool.not_eq_false', ne_eq, Decidable.not_not, Option.isNone_iff_eq_none, not_true_eq_false, not_false_eq_true] at hb); try (exfalso; omega)))) | (refine v_id ?_; first | refine v_seq ?_ | refine v_region ?_ | refine v_condT rfl ?_ | refine v_condF rfl ?_ | (refine v_cond rfl ?_ ?_ <;> (intro hb; (try simp only [decide_eq_true_eq, decide_eq_false_iff_not, Bool.not_eq_true', Bool.not_eq_false', ne_eq, Decidable.not_not, Option.isNone_iff_eq_none, not_true_eq_false, not_false_eq_true] at hb); try (exfalso; omega))) | refine v_block ?_ | refine v_skip ?_ | refine v_ret ?_ | refine v_exit ?_ | refine v_label ?_ | refine v_scope (fun _ _ _ _ h => h) ?_ | refine v_code ?_) | refine thn_n ?_ | refine inb_n ?_ | refine inb_r ?_ | refine thn_r ?_ | refine thn_e ?_ | refine inb_e rfl ?_ | refine inb_o rfl ?_ | refine beginR ?_ | refine rangeEnd_done (by decide) ?_ | refine rangeEnd_jump (by decide) ?_ | refine ret_mark ?_ | refine roundQ_n ?_ | refine roundQ_r ?_ | refine roundQ_e ?_ | refine ret0 rfl ?_ | refine ret1A rfl ?_ | refine ret2A rfl ?_ | refine ret3A rfl ?_ | fail )
    refine ⟨rfl, j + 1, by omega, by omega, ?_, ?_⟩
    · rw [q256 M hnl, hns, show (7 - (j : Int) - 1) = 7 - ((j + 1 : Nat) : Int) by omega]
      (repeat' (first | exact Sub.nil _ | refine Sub.cons rfl rfl ?_ | refine Sub.cons rfl ?_ ?_))
    · rw [b256, show 0 + (7 - (j : Int)).toNat * 1 = 7 - j by omega, splice_setB _ _ (by omega), hst]
      exact Ent.refl _ _
  obtain rfl : j = 8 := by omega
  rw [show tl8 D 8 = D by simp [tl8]]
  repeat' (first | (refine vl_id ?_; first | refine vl_nil ?_ | refine vl_qW rfl rfl rfl rfl ?_ | (refine vl_o rfl ?_; (first | (refine vo_box rfl rfl rfl ?_; intro _) | (refine vo_alloc rfl ?_; intro _) | (refine vo_isStore ?_; first | (refine vo_isPt0 rfl ?_; refine vo_stWA rfl rfl ?_) | (refine vo_isPt rfl ?_; refine vo_stBA rfl rfl ?_) | (refine vo_stO rfl rfl (by rfl) (by rfl) (by first | (simp; done) | (simp; omega) | omega) rfl ?_; skip)) | (refine vo_isCall ?_; first | (refine vo_isApp ?_; first | (refine vo_append0A rfl rfl rfl ?_; intro _ _ _ _) | (refine vo_appendA rfl rfl rfl ?_; intro _ _ _ _)) | (refine vo_isCopy ?_; refine vo_copyB rfl rfl rfl (by assumption) (by assumption) (by assumption) (by assumption) ?_) | refine vo_yield rfl rfl rfl rfl rfl ?_ | refine vo_callV rfl rfl rfl (vc_in rfl rfl ?_)) | refine vo_convRow rfl rfl ?_ | (refine vo_isBs ?_; refine vo_buildSlice rfl rfl rfl (by decide) (by repeat' (first | exact trivial | rfl | refine ⟨?_, ?_⟩ | (simp; done) | (simp; omega))) (by decide) rfl ?_; intro _) | (refine vo_buildSlice0 rfl ?_; intro _) | fail)) | refine vl_guard rfl rfl rfl rfl rfl ?_ | refine vl_pass rfl rfl rfl rfl rfl rfl rfl ?_ | (refine vl_caseG rfl rfl rfl rfl ?_ ?_ <;> (intro hb; (try simp only [decide_eq_true_eq, decide_eq_false_iff_not, Bool.not_eq_true', Bool.not_eq_false', ne_eq, Decidable.not_not, Option.isNone_iff_eq_none, not_true_eq_false, not_false_eq_true] at hb); try (exfalso; omega)))) | (refine v_id ?_; first | refine v_seq ?_ | refine v_region ?_ | refine v_condT rfl ?_ | refine v_condF rfl ?_ | (refine v_cond rfl ?_ ?_ <;> (intro hb; (try simp only [decide_eq_true_eq, decide_eq_false_iff_not, Bool.not_eq_true', Bool.not_eq_false', ne_eq, Decidable.not_not, Option.isNone_iff_eq_none, not_true_eq_false, not_false_eq_true] at hb); try (exfalso; omega))) | refine v_block ?_ | refine v_skip ?_ | refine v_ret ?_ | refine v_exit ?_ | refine v_label ?_ | refine v_scope (fun _ _ _ _ h => h) ?_ | refine v_code ?_) | refine thn_n ?_ | refine inb_n ?_ | refine inb_r ?_ | refine thn_r ?_ | refine thn_e ?_ | refine inb_e rfl ?_ | refine inb_o rfl ?_ | refine beginR ?_ | refine rangeEnd_done (by decide) ?_ | refine rangeEnd_jump (by decide) ?_ | refine ret_mark ?_ | refine roundQ_n ?_ | refine roundQ_r ?_ | refine roundQ_e ?_ | refine ret0 rfl ?_ | refine ret1A rfl ?_ | refine ret2A rfl ?_ | refine ret3A rfl ?_ | fail )
  rename_i a4 c4 _ hc4
  have hpl : (pad l).length = B.length + 8 := by rw [hPd, List.length_append, hD8]
  have hpb : bvs (pad l) = bvs B ++ bvs D := by rw [hPd, bvs_append]
  refine ⟨_, ?_, a4, c4, ?_, rfl, ?_⟩
  · unfold ownB
    rw [hpl, hpb]
    exact (se_drop _ _).ent w0
  · rw [hpl]
  · rw [hpl]; exact hc4

set_option maxRecDepth 100000 in
set_option maxHeartbeats 1600000 in
theorem words_vc (w0 : World) (L : List Asn) :
    VC Tryd.prog w0 90 [] L fun v L' => v = .agg (wds K64).toArray ∧ L' = L := by
  refine vc_ent ?_
  refine vc_in rfl rfl ?_
  repeat' (first | (refine vl_id ?_; first | refine vl_nil ?_ | refine vl_qW rfl rfl rfl rfl ?_ | (refine vl_o rfl ?_; (first | (refine vo_box rfl rfl rfl ?_; intro _) | (refine vo_alloc rfl ?_; intro _) | (refine vo_isStore ?_; first | (refine vo_isPt0 rfl ?_; refine vo_stWA rfl rfl ?_) | (refine vo_isPt rfl ?_; refine vo_stBA rfl rfl ?_) | (refine vo_stO rfl rfl (by rfl) (by rfl) (by first | (simp; done) | (simp; omega) | omega) rfl ?_; skip)) | (refine vo_isCall ?_; first | (refine vo_isApp ?_; first | (refine vo_append0A rfl rfl rfl ?_; intro _ _ _ _) | (refine vo_appendA rfl rfl rfl ?_; intro _ _ _ _)) | (refine vo_isCopy ?_; refine vo_copyB rfl rfl rfl (by assumption) (by assumption) (by assumption) (by assumption) ?_) | refine vo_yield rfl rfl rfl rfl rfl ?_ | refine vo_callV rfl rfl rfl (vc_in rfl rfl ?_)) | refine vo_convRow rfl rfl ?_ | (refine vo_isBs ?_; refine vo_buildSlice rfl rfl rfl (by decide) (by repeat' (first | exact trivial | rfl | refine ⟨?_, ?_⟩ | (simp; done) | (simp; omega))) (by decide) rfl ?_; intro _) | (refine vo_buildSlice0 rfl ?_; intro _) | fail)) | refine vl_guard rfl rfl rfl rfl rfl ?_ | refine vl_pass rfl rfl rfl rfl rfl rfl rfl ?_ | (refine vl_caseG rfl rfl rfl rfl ?_ ?_ <;> (intro hb; (try simp only [decide_eq_true_eq, decide_eq_false_iff_not, Bool.not_eq_true', Bool.not_eq_false', ne_eq, Decidable.not_not, Option.isNone_iff_eq_none, not_true_eq_false, not_false_eq_true] at hb); try (exfalso; omega)))) | (refine v_id ?_; first | refine v_seq ?_ | refine v_region ?_ | refine v_condT rfl ?_ | refine v_condF rfl ?_ | (refine v_cond rfl ?_ ?_ <;> (intro hb; (try simp only [decide_eq_true_eq, decide_eq_false_iff_not, Bool.not_eq_true', Bool.not_eq_false', ne_eq, Decidable.not_not, Option.isNone_iff_eq_none, not_true_eq_false, not_false_eq_true] at hb); try (exfalso; omega))) | refine v_block ?_ | refine v_skip ?_ | refine v_ret ?_ | refine v_exit ?_ | refine v_label ?_ | refine v_scope (fun _ _ _ _ h => h) ?_ | refine v_code ?_) | refine thn_n ?_ | refine inb_n ?_ | refine inb_r ?_ | refine thn_r ?_ | refine thn_e ?_ | refine inb_e rfl ?_ | refine inb_o rfl ?_ | refine beginR ?_ | refine rangeEnd_done (by decide) ?_ | refine rangeEnd_jump (by decide) ?_ | refine ret_mark ?_ | refine roundQ_n ?_ | refine roundQ_r ?_ | refine roundQ_e ?_ | refine ret0 rfl ?_ | refine ret1A rfl ?_ | refine ret2A rfl ?_ | refine ret3A rfl ?_ | fail )
  exact ⟨_, (se_drop _ _).ent w0, rfl, rfl⟩
end Go.Proofs.YtpnhgmmijkjmlaaDoor
