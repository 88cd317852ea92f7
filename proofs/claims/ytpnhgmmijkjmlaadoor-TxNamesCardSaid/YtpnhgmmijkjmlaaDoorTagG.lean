/-
  The writer of kinds and parts; how great parts are.
-/
import Derived.Test.YtpnhgmmijkjmlaaDoorTagF
import Derived.Test.YtpnhgmmijkjmlaaDoorVPut
namespace Go.Proofs.YtpnhgmmijkjmlaaDoor
open Go Go.RowKit
set_option linter.unusedVariables false
set_option linter.unusedSimpArgs false
/-- Parts that could be read when the call began. -/
class RdAs (w0 : World) (ps : List PB) : Prop where
  out : ∀ p ∈ ps, RdA w0 p.a (bvs p.l)
instance (w0 : World) (L : List Asn) (ps : List PB) [h : RdAs w0 ps] : RdPs w0 L ps := ⟨fun p hp => by
  haveI := h.out p hp
  infer_instance⟩

/-- The bytes that stand for a kind and its parts. -/
def tagB (k : Nat) (xs : List (List UInt8)) : List UInt8 := UInt8.ofNat k :: xs.flatMap fun x => digs x.length 4 ++ x
theorem tagB_snoc (k : Nat) (xs : List (List UInt8)) (x : List UInt8) : tagB k (xs ++ [x]) = tagB k xs ++ (digs x.length 4 ++ x) := by simp [tagB]

theorem tagB_bound (k : Nat) (xs : List (List UInt8)) (h : ∀ x ∈ xs, x.length ≤ 300) : (tagB k xs).length ≤ 1 + 304 * xs.length := by
  induction xs with
  | nil => simp [tagB]
  | cons x xs ih =>
    have := ih (fun y hy => h y (by simp [hy]))
    have hx := h x (by simp)
    simp [tagB, digs_length] at this ⊢
    omega

theorem take_bound {xs : List (List UInt8)} (h : ∀ x ∈ xs, x.length ≤ 300) (j : Nat) : ∀ x ∈ xs.take j, x.length ≤ 300 := fun x hx => h x (List.mem_of_mem_take hx)
theorem tagB_append (k : Nat) (xs ys : List (List UInt8)) : tagB k (xs ++ ys) = tagB k xs ++ ys.flatMap fun x => digs x.length 4 ++ x := by simp [tagB]
theorem tagB_take (k : Nat) (xs : List (List UInt8)) (j : Nat) : (tagB k (xs.take j)).length ≤ (tagB k xs).length := by
  have h := tagB_append k (xs.take j) (xs.drop j)
  rw [List.take_append_drop] at h
  rw [h, List.length_append]; omega
theorem tagB_count (k : Nat) : ∀ (xs : List (List UInt8)), xs.length ≤ (tagB k xs).length
  | [] => by simp
  | x :: xs => by
    have := tagB_count k xs
    simp only [tagB, List.flatMap_cons, List.length_cons, List.length_append, digs_length] at this ⊢
    omega
theorem tagB_part {k : Nat} : ∀ {xs : List (List UInt8)} {x : List UInt8}, x ∈ xs → x.length ≤ (tagB k xs).length
  | y :: xs, x, h => by
    simp only [tagB, List.flatMap_cons, List.length_cons, List.length_append]
    rcases List.mem_cons.1 h with rfl | h
    · omega
    · have := tagB_part (k := k) h
      simp only [tagB, List.length_cons] at this
      omega
set_option maxHeartbeats 2000000 in
theorem tbytesG_vc (w0 : World) (L : List Asn) (k : Nat) (hk : k < 256) (a : Option Addr) (cap : Nat) (ps : List PB) {n : Nat} (hn : n = ps.length) (hB : (tagB k (ls ps)).length ≤ 1000000000) [hr : RdC w0 L a (pbs ps)] [hp : RdPs w0 L ps] :
    VC Tryd.prog w0 14 [.int .u8 k, .slice a n cap] L fun v L' => ∃ a' cap', v = .slice a' (tagB k (ls ps)).length cap' ∧ (tagB k (ls ps)).length ≤ cap' ∧ L' = ownB a' cap' (tagB k (ls ps)) :: L := by
  subst hn
  refine vc_in rfl rfl ?_
  repeat' (first | (refine vl_id ?_; first | refine vl_nil ?_ | refine vl_qA rfl rfl rfl rfl ?_ | (refine vl_o rfl ?_; (first | (refine vo_box rfl rfl rfl ?_; intro _) | (refine vo_alloc rfl ?_; intro _) | (refine vo_isStore ?_; first | (refine vo_isPt0 rfl ?_; refine vo_stWA rfl rfl ?_) | (refine vo_isPt rfl ?_; refine vo_stBA rfl rfl ?_) | (refine vo_stO rfl rfl (by rfl) (by rfl) (by first | (simp; done) | (simp; omega) | omega) rfl ?_; skip)) | (refine vo_isCall ?_; first | (refine vo_isApp ?_; first | (refine vo_append0A rfl rfl rfl ?_; intro _ _ _ _) | (refine vo_appendA rfl rfl rfl ?_; intro _ _ _ _)) | (refine vo_isCopy ?_; refine vo_copyB rfl rfl rfl (by assumption) (by assumption) (by assumption) (by assumption) ?_) | refine vo_yield rfl rfl rfl rfl rfl ?_ | refine vo_callV rfl rfl rfl (vc_in rfl rfl ?_)) | refine vo_convRow rfl rfl ?_ | (refine vo_isBs ?_; refine vo_buildSlice rfl rfl rfl (by decide) (by repeat' (first | exact trivial | rfl | refine ⟨?_, ?_⟩ | (simp; done) | (simp; omega))) (by decide) rfl ?_; intro _) | (refine vo_buildSlice0 rfl ?_; intro _) | fail)) | refine vl_guard rfl rfl rfl rfl rfl ?_ | refine vl_pass rfl rfl rfl rfl rfl rfl rfl ?_ | (refine vl_caseG rfl rfl rfl rfl ?_ ?_ <;> (intro hb; (try simp only [decide_eq_true_eq, decide_eq_false_iff_not, Bool.not_eq_true', Bool.not_eq_false', ne_eq, Decidable.not_not, Option.isNone_iff_eq_none, not_true_eq_false, not_false_eq_true] at hb); try (exfalso; omega)))) | (refine v_id ?_; first | refine v_seq ?_ | refine v_region ?_ | refine v_condT rfl ?_ | refine v_condF rfl ?_ | (refine v_cond rfl ?_ ?_ <;> (intro hb; (try simp only [decide_eq_true_eq, decide_eq_false_iff_not, Bool.not_eq_true', Bool.not_eq_false', ne_eq, Decidable.not_not, Option.isNone_iff_eq_none, not_true_eq_false, not_false_eq_true] at hb); try (exfalso; omega))) | refine v_block ?_ | refine v_skip ?_ | refine v_ret ?_ | refine v_exit ?_ | refine v_label ?_ | refine v_scope (fun _ _ _ _ h => h) ?_ | refine v_code ?_) | refine thn_n ?_ | refine inb_n ?_ | refine inb_r ?_ | refine thn_r ?_ | refine thn_e ?_ | refine inb_e rfl ?_ | refine inb_o rfl ?_ | refine beginR ?_ | refine rangeEnd_done (by decide) ?_ | refine rangeEnd_jump (by decide) ?_ | refine ret_mark ?_ | refine roundQ_n ?_ | refine roundQ_r ?_ | refine roundQ_e ?_ | refine ret0 rfl ?_ | refine ret1A rfl ?_ | refine ret2A rfl ?_ | refine ret3A rfl ?_ | fail )
  rename_i g
  refine v_loopF (Nat × Option Addr × Nat) [12, 13] rfl (fun x => [(5, .slice x.2.1 (tagB k ((ls ps).take x.1)).length x.2.2), (14, .int .i64 x.1)]) (fun L0 x => match L0 with | _ :: L1 => ownB x.2.1 x.2.2 (tagB k ((ls ps).take x.1)) :: L1 | L0 => L0) (fun x => x.1 ≤ ps.length ∧ (tagB k ((ls ps).take x.1)).length ≤ x.2.2) (fun x => ps.length - x.1) (0, some ⟨g, 0, none⟩, 1) ⟨Nat.zero_le _, by simp [tagB]⟩ (by (repeat' (first | exact Sub.nil _ | refine Sub.cons rfl rfl ?_ | refine Sub.cons rfl ?_ ?_))) ?_ ?_
  · have e : [Value.int IntKind.u8 (k : Int)] = bvs (tagB k ((ls ps).take 0)) := by simp [tagB, bvs, bv]; omega
    rw [e]
    exact Ent.refl _ _
  rintro ⟨j, oa, oc⟩ ⟨hj, hoc⟩
  dsimp only at hj hoc ⊢
  have hb1 := tagB_take k (ls ps) j
  have hpn : ps.length ≤ (tagB k (ls ps)).length := by simpa [ls] using tagB_count k (ls ps)
  generalize hT : tagB k ((ls ps).take j) = T at *
  by_cases hlt : j < ps.length
  · have hg := pbs_get ps j hlt
    haveI := hp.at j hlt
    have hxj : (ps[j]).l.length ≤ (tagB k (ls ps)).length := tagB_part (List.mem_map.2 ⟨ps[j], List.getElem_mem _, rfl⟩)
    have e32 : IntKind.u64.wrap (IntKind.u32.wrap ((ps[j]).l.length : Int)) = ((ps[j]).l.length : Nat) := by simp only [IntKind.wrap_u64, IntKind.wrap_u32]; omega
    repeat' (first | (refine vl_id ?_; first | refine vl_nil ?_ | refine vl_qA rfl rfl rfl rfl ?_ | (refine vl_o rfl ?_; (first | (refine vo_box rfl rfl rfl ?_; intro _) | (refine vo_alloc rfl ?_; intro _) | (refine vo_isStore ?_; first | (refine vo_isPt0 rfl ?_; refine vo_stWA rfl rfl ?_) | (refine vo_isPt rfl ?_; refine vo_stBA rfl rfl ?_) | (refine vo_stO rfl rfl (by rfl) (by rfl) (by first | (simp; done) | (simp; omega) | omega) rfl ?_; skip)) | (refine vo_isCall ?_; first | (refine vo_isApp ?_; first | (refine vo_append0A rfl rfl rfl ?_; intro _ _ _ _) | (refine vo_appendA rfl rfl rfl ?_; intro _ _ _ _)) | (refine vo_isCopy ?_; refine vo_copyB rfl rfl rfl (by assumption) (by assumption) (by assumption) (by assumption) ?_) | refine vo_yield rfl rfl rfl rfl rfl ?_ | refine vo_callV rfl rfl rfl (vc_in rfl rfl ?_)) | refine vo_convRow rfl rfl ?_ | (refine vo_isBs ?_; refine vo_buildSlice rfl rfl rfl (by decide) (by repeat' (first | exact trivial | rfl | refine ⟨?_, ?_⟩ | (simp; done) | (simp; omega))) (by decide) rfl ?_; intro _) | (refine vo_buildSlice0 rfl ?_; intro _) | fail)) | refine vl_guard rfl rfl rfl rfl rfl ?_ | refine vl_pass rfl rfl rfl rfl rfl rfl rfl ?_ | (refine vl_caseG rfl rfl rfl rfl ?_ ?_ <;> (intro hb; (try simp only [decide_eq_true_eq, decide_eq_false_iff_not, Bool.not_eq_true', Bool.not_eq_false', ne_eq, Decidable.not_not, Option.isNone_iff_eq_none, not_true_eq_false, not_false_eq_true] at hb); try (exfalso; omega)))) | (refine v_id ?_; first | refine v_seq ?_ | refine v_region ?_ | refine v_condT rfl ?_ | refine v_condF rfl ?_ | (refine v_cond rfl ?_ ?_ <;> (intro hb; (try simp only [decide_eq_true_eq, decide_eq_false_iff_not, Bool.not_eq_true', Bool.not_eq_false', ne_eq, Decidable.not_not, Option.isNone_iff_eq_none, not_true_eq_false, not_false_eq_true] at hb); try (exfalso; omega))) | refine v_block ?_ | refine v_skip ?_ | refine v_ret ?_ | refine v_exit ?_ | refine v_label ?_ | refine v_scope (fun _ _ _ _ h => h) ?_ | refine v_code ?_) | refine thn_n ?_ | refine inb_n ?_ | refine inb_r ?_ | refine thn_r ?_ | refine thn_e ?_ | refine inb_e rfl ?_ | refine inb_o rfl ?_ | refine beginR ?_ | refine rangeEnd_done (by decide) ?_ | refine rangeEnd_jump (by decide) ?_ | refine ret_mark ?_ | refine roundQ_n ?_ | refine roundQ_r ?_ | refine roundQ_e ?_ | refine ret0 rfl ?_ | refine ret1A rfl ?_ | refine ret2A rfl ?_ | refine ret3A rfl ?_ | fail )
    rw [e32]
    refine vl_o rfl (vo_call rfl rfl ?_)
    refine vc_mono (put_vc w0 _ (ps[j]).l.length 4 (by decide) (by decide) (by omega)) ?_
    rintro v L' ⟨a4, c4, rfl, rfl⟩
    have hd4 := digs_length (ps[j]).l.length 4
    have hsn : tagB k ((ls ps).take (j + 1)) = T ++ (digs (ps[j]).l.length 4 ++ (ps[j]).l) := by
      rw [List.take_succ_eq_append_getElem (by simpa [ls]), tagB_snoc, hT]; simp [ls]
    have hb2 := tagB_take k (ls ps) (j + 1)
    have hsl : (tagB k ((ls ps).take (j + 1))).length = T.length + 4 + (ps[j]).l.length := by rw [hsn]; simp; omega
    repeat' (first | (refine vl_id ?_; first | refine vl_nil ?_ | refine vl_qA rfl rfl rfl rfl ?_ | (refine vl_o rfl ?_; (first | (refine vo_box rfl rfl rfl ?_; intro _) | (refine vo_alloc rfl ?_; intro _) | (refine vo_isStore ?_; first | (refine vo_isPt0 rfl ?_; refine vo_stWA rfl rfl ?_) | (refine vo_isPt rfl ?_; refine vo_stBA rfl rfl ?_) | (refine vo_stO rfl rfl (by rfl) (by rfl) (by first | (simp; done) | (simp; omega) | omega) rfl ?_; skip)) | (refine vo_isCall ?_; first | (refine vo_isApp ?_; first | (refine vo_append0A rfl rfl rfl ?_; intro _ _ _ _) | (refine vo_appendA rfl rfl rfl ?_; intro _ _ _ _)) | (refine vo_isCopy ?_; refine vo_copyB rfl rfl rfl (by assumption) (by assumption) (by assumption) (by assumption) ?_) | refine vo_yield rfl rfl rfl rfl rfl ?_ | refine vo_callV rfl rfl rfl (vc_in rfl rfl ?_)) | refine vo_convRow rfl rfl ?_ | (refine vo_isBs ?_; refine vo_buildSlice rfl rfl rfl (by decide) (by repeat' (first | exact trivial | rfl | refine ⟨?_, ?_⟩ | (simp; done) | (simp; omega))) (by decide) rfl ?_; intro _) | (refine vo_buildSlice0 rfl ?_; intro _) | fail)) | refine vl_guard rfl rfl rfl rfl rfl ?_ | refine vl_pass rfl rfl rfl rfl rfl rfl rfl ?_ | (refine vl_caseG rfl rfl rfl rfl ?_ ?_ <;> (intro hb; (try simp only [decide_eq_true_eq, decide_eq_false_iff_not, Bool.not_eq_true', Bool.not_eq_false', ne_eq, Decidable.not_not, Option.isNone_iff_eq_none, not_true_eq_false, not_false_eq_true] at hb); try (exfalso; omega)))) | (refine v_id ?_; first | refine v_seq ?_ | refine v_region ?_ | refine v_condT rfl ?_ | refine v_condF rfl ?_ | (refine v_cond rfl ?_ ?_ <;> (intro hb; (try simp only [decide_eq_true_eq, decide_eq_false_iff_not, Bool.not_eq_true', Bool.not_eq_false', ne_eq, Decidable.not_not, Option.isNone_iff_eq_none, not_true_eq_false, not_false_eq_true] at hb); try (exfalso; omega))) | refine v_block ?_ | refine v_skip ?_ | refine v_ret ?_ | refine v_exit ?_ | refine v_label ?_ | refine v_scope (fun _ _ _ _ h => h) ?_ | refine v_code ?_) | refine thn_n ?_ | refine inb_n ?_ | refine inb_r ?_ | refine thn_r ?_ | refine thn_e ?_ | refine inb_e rfl ?_ | refine inb_o rfl ?_ | refine beginR ?_ | refine rangeEnd_done (by decide) ?_ | refine rangeEnd_jump (by decide) ?_ | refine ret_mark ?_ | refine roundQ_n ?_ | refine roundQ_r ?_ | refine roundQ_e ?_ | refine ret0 rfl ?_ | refine ret1A rfl ?_ | refine ret2A rfl ?_ | refine ret3A rfl ?_ | fail )
    rename_i a5 c5 _ _ a6 c6 _ _
    refine ⟨rfl, (j + 1, a6, c6), ⟨by omega, by dsimp only; omega⟩, by dsimp only; omega, ?_, ?_⟩
    · dsimp only
      rw [hsl]
      (repeat' (first | exact Sub.nil _ | refine Sub.cons rfl rfl ?_ | refine Sub.cons rfl ?_ ?_))
    · dsimp only
      unfold ownB
      rw [hsl, hsn, bvs_append, bvs_append, ← List.append_assoc]
      exact SE.ent (se_drop _ _) w0
  · obtain rfl : j = ps.length := by omega
    rw [List.take_of_length_le (by simp [ls])] at hT
    repeat' (first | (refine vl_id ?_; first | refine vl_nil ?_ | refine vl_qA rfl rfl rfl rfl ?_ | (refine vl_o rfl ?_; (first | (refine vo_box rfl rfl rfl ?_; intro _) | (refine vo_alloc rfl ?_; intro _) | (refine vo_isStore ?_; first | (refine vo_isPt0 rfl ?_; refine vo_stWA rfl rfl ?_) | (refine vo_isPt rfl ?_; refine vo_stBA rfl rfl ?_) | (refine vo_stO rfl rfl (by rfl) (by rfl) (by first | (simp; done) | (simp; omega) | omega) rfl ?_; skip)) | (refine vo_isCall ?_; first | (refine vo_isApp ?_; first | (refine vo_append0A rfl rfl rfl ?_; intro _ _ _ _) | (refine vo_appendA rfl rfl rfl ?_; intro _ _ _ _)) | (refine vo_isCopy ?_; refine vo_copyB rfl rfl rfl (by assumption) (by assumption) (by assumption) (by assumption) ?_) | refine vo_yield rfl rfl rfl rfl rfl ?_ | refine vo_callV rfl rfl rfl (vc_in rfl rfl ?_)) | refine vo_convRow rfl rfl ?_ | (refine vo_isBs ?_; refine vo_buildSlice rfl rfl rfl (by decide) (by repeat' (first | exact trivial | rfl | refine ⟨?_, ?_⟩ | (simp; done) | (simp; omega))) (by decide) rfl ?_; intro _) | (refine vo_buildSlice0 rfl ?_; intro _) | fail)) | refine vl_guard rfl rfl rfl rfl rfl ?_ | refine vl_pass rfl rfl rfl rfl rfl rfl rfl ?_ | (refine vl_caseG rfl rfl rfl rfl ?_ ?_ <;> (intro hb; (try simp only [decide_eq_true_eq, decide_eq_false_iff_not, Bool.not_eq_true', Bool.not_eq_false', ne_eq, Decidable.not_not, Option.isNone_iff_eq_none, not_true_eq_false, not_false_eq_true] at hb); try (exfalso; omega)))) | (refine v_id ?_; first | refine v_seq ?_ | refine v_region ?_ | refine v_condT rfl ?_ | refine v_condF rfl ?_ | (refine v_cond rfl ?_ ?_ <;> (intro hb; (try simp only [decide_eq_true_eq, decide_eq_false_iff_not, Bool.not_eq_true', Bool.not_eq_false', ne_eq, Decidable.not_not, Option.isNone_iff_eq_none, not_true_eq_false, not_false_eq_true] at hb); try (exfalso; omega))) | refine v_block ?_ | refine v_skip ?_ | refine v_ret ?_ | refine v_exit ?_ | refine v_label ?_ | refine v_scope (fun _ _ _ _ h => h) ?_ | refine v_code ?_) | refine thn_n ?_ | refine inb_n ?_ | refine inb_r ?_ | refine thn_r ?_ | refine thn_e ?_ | refine inb_e rfl ?_ | refine inb_o rfl ?_ | refine beginR ?_ | refine rangeEnd_done (by decide) ?_ | refine rangeEnd_jump (by decide) ?_ | refine ret_mark ?_ | refine roundQ_n ?_ | refine roundQ_r ?_ | refine roundQ_e ?_ | refine ret0 rfl ?_ | refine ret1A rfl ?_ | refine ret2A rfl ?_ | refine ret3A rfl ?_ | fail )
    subst hT
    exact ⟨_, _, rfl, hoc, rfl⟩
theorem tbytes_vc (w0 : World) (L : List Asn) (k : Nat) (hk : k < 256) (a : Option Addr) (cap : Nat) (ps : List PB) {n : Nat} (hn : n = ps.length) (hl : ps.length ≤ 8) (hx : ∀ x ∈ ls ps, x.length ≤ 300) [hr : RdC w0 L a (pbs ps)] [hp : RdPs w0 L ps] :
    VC Tryd.prog w0 14 [.int .u8 k, .slice a n cap] L fun v L' => ∃ a' cap', v = .slice a' (tagB k (ls ps)).length cap' ∧ (tagB k (ls ps)).length ≤ cap' ∧ L' = ownB a' cap' (tagB k (ls ps)) :: L :=
  tbytesG_vc w0 L k hk a cap ps hn (by
    have := tagB_bound k (ls ps) hx
    have h2 : (ls ps).length = ps.length := by simp [ls]
    omega)
end Go.Proofs.YtpnhgmmijkjmlaaDoor
