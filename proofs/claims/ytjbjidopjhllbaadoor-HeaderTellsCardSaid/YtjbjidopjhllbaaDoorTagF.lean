/-
  The reader of kinds and parts answers as the second writing of it does.
-/
import Derived.Test.YtjbjidopjhllbaaDoorTagE
namespace Go.Proofs.YtjbjidopjhllbaaDoor
open Go Go.RowKit
set_option linter.unusedVariables false
set_option linter.unusedSimpArgs false

theorem vc_ent' {P : Program} {w0 : World} {f : FuncId} {args : List Value} {L : List Asn} {R R' : Value → List Asn → Prop} (h : VC P w0 f args L fun v L' => ∃ L'', Ent w0 L' L'' ∧ R v L'') (hr : ∀ v L', R v L' → R' v L') : VC P w0 f args L R' := vc_mono (vc_ent h) hr
theorem u8_wrap (I : Int) : IntKind.u8.wrap I = ((UInt8.ofNat (I % 256).toNat).toNat : Int) := by
  rw [UInt8.toNat_ofNat']
  simp [IntKind.wrap, IntKind.bits, IntKind.signed]
  omega
theorem splice_set (l : List UInt8) (k : Nat) (h : k < l.length) (c : UInt8) : splice (bvs l) k [.int .u8 c.toNat] = bvs (l.set k c) := by
  have e1 : bvs l = (bvs l).take k ++ ([(bvs l)[k]'(by simpa)] ++ (bvs l).drop (k + 1)) := by simp
  rw [e1, splice_mid _ _ _ _ _ (by simp; omega) (by simp)]
  have e2 : l.set k c = l.take k ++ ([c] ++ l.drop (k + 1)) := by rw [List.set_eq_take_append_cons_drop, if_pos h]; rfl
  rw [e2]
  simp [bvs, bv]

set_option maxHeartbeats 1000000 in
theorem spoil_vc (w0 : World) (L : List Asn) (a : Option Addr) (cap : Nat) (l : List UInt8) {n : Nat} (hn : n = l.length) (hl : l.length ≤ 1000000000000) :
    VC Tryd.prog w0 18 [.slice a n cap] (ownB a cap l :: L) fun v L' => v = .tuple #[] ∧ ∃ l', l'.length = l.length ∧ L' = ownB a cap l' :: L := by
  subst hn
  refine vc_in rfl rfl ?_
  repeat' (first | (refine vl_id ?_; first | refine vl_nil ?_ | refine vl_qA rfl rfl rfl rfl ?_ | (refine vl_o rfl ?_; (first | (refine vo_box rfl rfl rfl ?_; intro _) | (refine vo_alloc rfl ?_; intro _) | (refine vo_isStore ?_; first | (refine vo_isPt0 rfl ?_; refine vo_stWA rfl rfl ?_) | (refine vo_isPt rfl ?_; refine vo_stBA rfl rfl ?_) | (refine vo_stO rfl rfl (by rfl) (by rfl) (by simp; omega) rfl ?_; skip)) | (refine vo_isCall ?_; first | (refine vo_isApp ?_; first | (refine vo_append0A rfl rfl rfl ?_; intro _ _ _ _) | (refine vo_appendA rfl rfl rfl ?_; intro _ _ _ _)) | refine vo_yield rfl rfl rfl rfl rfl ?_ | refine vo_callV rfl rfl rfl (vc_in rfl rfl ?_)) | refine vo_convRow rfl rfl ?_ | (refine vo_isBs ?_; refine vo_buildSlice rfl rfl rfl (by decide) (by repeat' (first | exact trivial | rfl | refine ⟨?_, ?_⟩ | (simp; done) | (simp; omega))) (by decide) rfl ?_; intro _) | (refine vo_buildSlice0 rfl ?_; intro _) | fail)) | refine vl_guard rfl rfl rfl rfl rfl ?_ | refine vl_pass rfl rfl rfl rfl rfl rfl rfl ?_ | (refine vl_caseG rfl rfl rfl rfl ?_ ?_ <;> (intro hb; (try simp only [decide_eq_true_eq, decide_eq_false_iff_not, Bool.not_eq_true', Bool.not_eq_false', ne_eq, Decidable.not_not, Option.isNone_iff_eq_none, not_true_eq_false, not_false_eq_true] at hb); try (exfalso; omega)))) | (refine v_id ?_; first | refine v_seq ?_ | refine v_region ?_ | refine v_condT rfl ?_ | refine v_condF rfl ?_ | (refine v_cond rfl ?_ ?_ <;> (intro hb; (try simp only [decide_eq_true_eq, decide_eq_false_iff_not, Bool.not_eq_true', Bool.not_eq_false', ne_eq, Decidable.not_not, Option.isNone_iff_eq_none, not_true_eq_false, not_false_eq_true] at hb); try (exfalso; omega))) | refine v_block ?_ | refine v_skip ?_ | refine v_ret ?_ | refine v_exit ?_ | refine v_label ?_ | refine v_scope (fun _ _ _ _ h => h) ?_ | refine v_code ?_) | refine thn_n ?_ | refine inb_n ?_ | refine inb_r ?_ | refine thn_r ?_ | refine thn_e ?_ | refine inb_e rfl ?_ | refine inb_o rfl ?_ | refine beginR ?_ | refine rangeEnd_done (by decide) ?_ | refine rangeEnd_jump (by decide) ?_ | refine ret_mark ?_ | refine roundQ_n ?_ | refine roundQ_r ?_ | refine roundQ_e ?_ | refine ret0 rfl ?_ | refine ret1A rfl ?_ | refine ret2A rfl ?_ | refine ret3A rfl ?_ | fail )
  refine v_loopF (Nat × List UInt8) [0] rfl (fun x => [(2, .int .i64 x.1)]) (fun _ x => ownB a cap x.2 :: L) (fun x => x.2.length = l.length ∧ x.1 ≤ l.length) (fun x => l.length - x.1) (0, l) ⟨rfl, Nat.zero_le _⟩ (by (repeat' (first | exact Sub.nil _ | refine Sub.cons rfl rfl ?_ | refine Sub.cons rfl ?_ ?_))) (Ent.refl _ _) ?_
  rintro ⟨k, m⟩ ⟨hm, hk⟩
  dsimp only at hm hk ⊢
  by_cases hlt : k < l.length
  · have hg := bvs_at m k (by omega)
    repeat' (first | (refine vl_id ?_; first | refine vl_nil ?_ | refine vl_qA rfl rfl rfl rfl ?_ | (refine vl_o rfl ?_; (first | (refine vo_box rfl rfl rfl ?_; intro _) | (refine vo_alloc rfl ?_; intro _) | (refine vo_isStore ?_; first | (refine vo_isPt0 rfl ?_; refine vo_stWA rfl rfl ?_) | (refine vo_isPt rfl ?_; refine vo_stBA rfl rfl ?_) | (refine vo_stO rfl rfl (by rfl) (by rfl) (by simp; omega) rfl ?_; skip)) | (refine vo_isCall ?_; first | (refine vo_isApp ?_; first | (refine vo_append0A rfl rfl rfl ?_; intro _ _ _ _) | (refine vo_appendA rfl rfl rfl ?_; intro _ _ _ _)) | refine vo_yield rfl rfl rfl rfl rfl ?_ | refine vo_callV rfl rfl rfl (vc_in rfl rfl ?_)) | refine vo_convRow rfl rfl ?_ | (refine vo_isBs ?_; refine vo_buildSlice rfl rfl rfl (by decide) (by repeat' (first | exact trivial | rfl | refine ⟨?_, ?_⟩ | (simp; done) | (simp; omega))) (by decide) rfl ?_; intro _) | (refine vo_buildSlice0 rfl ?_; intro _) | fail)) | refine vl_guard rfl rfl rfl rfl rfl ?_ | refine vl_pass rfl rfl rfl rfl rfl rfl rfl ?_ | (refine vl_caseG rfl rfl rfl rfl ?_ ?_ <;> (intro hb; (try simp only [decide_eq_true_eq, decide_eq_false_iff_not, Bool.not_eq_true', Bool.not_eq_false', ne_eq, Decidable.not_not, Option.isNone_iff_eq_none, not_true_eq_false, not_false_eq_true] at hb); try (exfalso; omega)))) | (refine v_id ?_; first | refine v_seq ?_ | refine v_region ?_ | refine v_condT rfl ?_ | refine v_condF rfl ?_ | (refine v_cond rfl ?_ ?_ <;> (intro hb; (try simp only [decide_eq_true_eq, decide_eq_false_iff_not, Bool.not_eq_true', Bool.not_eq_false', ne_eq, Decidable.not_not, Option.isNone_iff_eq_none, not_true_eq_false, not_false_eq_true] at hb); try (exfalso; omega))) | refine v_block ?_ | refine v_skip ?_ | refine v_ret ?_ | refine v_exit ?_ | refine v_label ?_ | refine v_scope (fun _ _ _ _ h => h) ?_ | refine v_code ?_) | refine thn_n ?_ | refine inb_n ?_ | refine inb_r ?_ | refine thn_r ?_ | refine thn_e ?_ | refine inb_e rfl ?_ | refine inb_o rfl ?_ | refine beginR ?_ | refine rangeEnd_done (by decide) ?_ | refine rangeEnd_jump (by decide) ?_ | refine ret_mark ?_ | refine roundQ_n ?_ | refine roundQ_r ?_ | refine roundQ_e ?_ | refine ret0 rfl ?_ | refine ret1A rfl ?_ | refine ret2A rfl ?_ | refine ret3A rfl ?_ | fail )
    refine ⟨rfl, (k + 1, m.set k (UInt8.ofNat (((m[k].toNat : Int) + 1) % 256).toNat)), ⟨by simpa using hm, by omega⟩, by omega, ?_, ?_⟩
    · (repeat' (first | exact Sub.nil _ | refine Sub.cons rfl rfl ?_ | refine Sub.cons rfl ?_ ?_))
    · dsimp only
      rw [u8_wrap, splice_set m k (by omega)]
      unfold ownB
      rw [List.length_set]
      exact Ent.refl _ _
  · repeat' (first | (refine vl_id ?_; first | refine vl_nil ?_ | refine vl_qA rfl rfl rfl rfl ?_ | (refine vl_o rfl ?_; (first | (refine vo_box rfl rfl rfl ?_; intro _) | (refine vo_alloc rfl ?_; intro _) | (refine vo_isStore ?_; first | (refine vo_isPt0 rfl ?_; refine vo_stWA rfl rfl ?_) | (refine vo_isPt rfl ?_; refine vo_stBA rfl rfl ?_) | (refine vo_stO rfl rfl (by rfl) (by rfl) (by simp; omega) rfl ?_; skip)) | (refine vo_isCall ?_; first | (refine vo_isApp ?_; first | (refine vo_append0A rfl rfl rfl ?_; intro _ _ _ _) | (refine vo_appendA rfl rfl rfl ?_; intro _ _ _ _)) | refine vo_yield rfl rfl rfl rfl rfl ?_ | refine vo_callV rfl rfl rfl (vc_in rfl rfl ?_)) | refine vo_convRow rfl rfl ?_ | (refine vo_isBs ?_; refine vo_buildSlice rfl rfl rfl (by decide) (by repeat' (first | exact trivial | rfl | refine ⟨?_, ?_⟩ | (simp; done) | (simp; omega))) (by decide) rfl ?_; intro _) | (refine vo_buildSlice0 rfl ?_; intro _) | fail)) | refine vl_guard rfl rfl rfl rfl rfl ?_ | refine vl_pass rfl rfl rfl rfl rfl rfl rfl ?_ | (refine vl_caseG rfl rfl rfl rfl ?_ ?_ <;> (intro hb; (try simp only [decide_eq_true_eq, decide_eq_false_iff_not, Bool.not_eq_true', Bool.not_eq_false', ne_eq, Decidable.not_not, Option.isNone_iff_eq_none, not_true_eq_false, not_false_eq_true] at hb); try (exfalso; omega)))) | (refine v_id ?_; first | refine v_seq ?_ | refine v_region ?_ | refine v_condT rfl ?_ | refine v_condF rfl ?_ | (refine v_cond rfl ?_ ?_ <;> (intro hb; (try simp only [decide_eq_true_eq, decide_eq_false_iff_not, Bool.not_eq_true', Bool.not_eq_false', ne_eq, Decidable.not_not, Option.isNone_iff_eq_none, not_true_eq_false, not_false_eq_true] at hb); try (exfalso; omega))) | refine v_block ?_ | refine v_skip ?_ | refine v_ret ?_ | refine v_exit ?_ | refine v_label ?_ | refine v_scope (fun _ _ _ _ h => h) ?_ | refine v_code ?_) | refine thn_n ?_ | refine inb_n ?_ | refine inb_r ?_ | refine thn_r ?_ | refine thn_e ?_ | refine inb_e rfl ?_ | refine inb_o rfl ?_ | refine beginR ?_ | refine rangeEnd_done (by decide) ?_ | refine rangeEnd_jump (by decide) ?_ | refine ret_mark ?_ | refine roundQ_n ?_ | refine roundQ_r ?_ | refine roundQ_e ?_ | refine ret0 rfl ?_ | refine ret1A rfl ?_ | refine ret2A rfl ?_ | refine ret3A rfl ?_ | fail )
    exact ⟨rfl, m, hm, rfl⟩

theorem partsG_bound : ∀ (f : Nat) (l : List UInt8), (partsG f l).2.length ≤ l.length ∧ ∀ x ∈ (partsG f l).2, x.length ≤ l.length
  | 0, l => by simp [partsG]
  | f + 1, l => by
    unfold partsG
    split
    · simp
    split
    · simp
    split
    · simp
    split
    · simp
    · have ⟨h1, h2⟩ := partsG_bound f (l.drop (4 + numOf (l.take 4)))
      simp only [List.length_drop] at h1 h2
      refine ⟨by simp only [List.length_cons]; omega, fun x hx => ?_⟩
      rcases List.mem_cons.1 hx with rfl | hx
      · simp; omega
      · have := h2 x hx; omega
theorem tagOf_bound (l : List UInt8) : (tagOf l).2.1.length ≤ l.length ∧ ∀ x ∈ (tagOf l).2.1, x.length ≤ l.length := by
  have ⟨h1, h2⟩ := partsG_bound (l.drop 1).length (l.drop 1)
  simp only [List.length_drop] at h1 h2
  unfold tagOf
  split
  · simp
  split
  · refine ⟨?_, fun x hx => ?_⟩
    · show (parts (l.drop 1)).2.length ≤ _
      unfold parts
      simp only [List.length_drop]; omega
    · unfold parts at hx
      simp only [List.length_drop] at hx
      have := h2 x hx; omega
  · simp

theorem psA_set (ps : List PB) (L : List Asn) (k : Nat) (hk : k < ps.length) (p : PB) : SE (ownB p.a p.cap p.l :: psA (ps.eraseIdx k) :: L) (psA (ps.set k p) :: L) := by
  refine se_psA_push _ _ L p ?_
  have := perm_pull (ps.set k p) k p (by simp [hk])
  rw [List.eraseIdx_set_eq] at this
  exact this.symm

end Go.Proofs.YtjbjidopjhllbaaDoor
