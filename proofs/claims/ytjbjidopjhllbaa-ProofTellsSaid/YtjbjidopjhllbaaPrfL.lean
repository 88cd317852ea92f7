/-
  The program's twin of a proof.
-/
import Derived.Test.YtjbjidopjhllbaaPrfK
namespace Go.Proofs.Ytjbjidopjhllbaa
open Go Go.RowKit
set_option linter.unusedVariables false

set_option maxRecDepth 100000 in
set_option maxHeartbeats 1000000 in
theorem twinp_vc (w0 : World) (L : List Asn) (p : Prf) (h : p.ok) [hr : RdC w0 L p.va (bvs p.vl)] [hr2 : RdC w0 L p.pa (bvs p.pl.flatten)] :
    VC Try.prog w0 28 [.agg p.cells.toArray] L fun v L' => ∃ a1 c1 a2 c2, v = .agg ({ p with va := a1, vc := c1, pa := a2, pc := c2 } : Prf).cells.toArray ∧ L' = ownD a2 c2 p.pl :: ownB a1 c1 p.vl :: L := by
  have f3 := Prf.f3 h
  have f4 := Prf.f4 h
  have hlen := Prf.len h
  have hfx := h.dg.len
  have hvl := h.vl
  have hpl := h.pl
  refine vc_ent ?_
  refine vc_in rfl rfl ?_
  repeat' (first | (refine vl_id ?_; first | refine vl_nil ?_ | refine vl_qA rfl rfl rfl rfl ?_ | (refine vl_o rfl ?_; (first | (refine vo_box rfl rfl rfl ?_; intro _) | (refine vo_alloc rfl ?_; intro _) | (refine vo_isStore ?_; first | refine vo_stWA rfl rfl ?_ | refine vo_stBA rfl rfl ?_ | (refine vo_stO rfl rfl (by rfl) (by rfl) (by simp; omega) rfl ?_; skip)) | (refine vo_isCall ?_; first | (refine vo_append0A rfl rfl rfl ?_; intro _ _ _ _) | (refine vo_appendA rfl rfl rfl ?_; intro _ _ _ _) | refine vo_yield rfl rfl rfl rfl rfl ?_ | refine vo_callV rfl rfl rfl (vc_in rfl rfl ?_)) | refine vo_convRow rfl rfl ?_ | (refine vo_buildSlice rfl rfl rfl (by decide) (by repeat' (first | exact trivial | rfl | refine ⟨?_, ?_⟩ | (simp; done) | (simp; omega))) (by decide) rfl ?_; intro _) | (refine vo_buildSlice0 rfl ?_; intro _) | fail)) | refine vl_guard rfl rfl rfl rfl rfl ?_ | refine vl_pass rfl rfl rfl rfl rfl rfl rfl ?_ | (refine vl_caseG rfl rfl rfl rfl ?_ ?_ <;> (intro hb; (try simp only [decide_eq_true_eq, decide_eq_false_iff_not, Bool.not_eq_true', Bool.not_eq_false', ne_eq, Decidable.not_not, Option.isNone_iff_eq_none, not_true_eq_false, not_false_eq_true] at hb); try (exfalso; omega)))) | (refine v_id ?_; first | refine v_seq ?_ | refine v_region ?_ | refine v_condT rfl ?_ | refine v_condF rfl ?_ | (refine v_cond rfl ?_ ?_ <;> (intro hb; (try simp only [decide_eq_true_eq, decide_eq_false_iff_not, Bool.not_eq_true', Bool.not_eq_false', ne_eq, Decidable.not_not, Option.isNone_iff_eq_none, not_true_eq_false, not_false_eq_true] at hb); try (exfalso; omega))) | refine v_block ?_ | refine v_skip ?_ | refine v_ret ?_ | refine v_exit ?_ | refine v_label ?_ | refine v_scope (fun _ _ _ _ h => h) ?_ | refine v_code ?_) | refine thn_n ?_ | refine inb_n ?_ | refine inb_r ?_ | refine thn_r ?_ | refine thn_e ?_ | refine inb_e rfl ?_ | refine inb_o rfl ?_ | refine beginR ?_ | refine rangeEnd_done (by decide) ?_ | refine rangeEnd_jump (by decide) ?_ | refine ret_mark ?_ | refine roundQ_n ?_ | refine roundQ_r ?_ | refine roundQ_e ?_ | refine ret0 rfl ?_ | refine ret1A rfl ?_ | refine ret2A rfl ?_ | refine ret3A rfl ?_ | fail )
  (refine v_draw0 [7, 9] (by kernel_rfl) ?_ <;> (refine va_takeA 0 rfl rfl rfl rfl ?_) <;> (refine va_takeA 1 rfl rfl rfl rfl ?_) <;> (refine va_takeA 3 rfl rfl rfl rfl ?_) <;> (refine va_takeA 4 rfl rfl rfl rfl ?_))
  refine va_one 2 (by kernel_rfl) rfl rfl (vo_call rfl rfl ?_)
  refine vc_mono (clone_vc w0 _ p.va p.vc p.vl rfl hvl) ?_
  rintro v L' ⟨a1, c1, _, rfl, rfl⟩
  refine ⟨.inr (SE.ent (by repeat' (first | exact SE.refl _ | refine SE.cons _ ?_ | refine SE.trans (se_drop _ _) ?_)) _), ?_⟩
  ((refine va_takeA 6 rfl rfl rfl rfl ?_))
  refine va_one 5 (by kernel_rfl) rfl rfl (vo_call rfl rfl ?_)
  refine vc_mono (cloneD_vc w0 _ p.pa p.pc p.pl rfl h.dg hpl) ?_
  rintro v L' ⟨a2, c2, rfl, rfl⟩
  refine ⟨.inr (SE.ent (by repeat' (first | exact SE.refl _ | refine SE.cons _ ?_ | refine SE.trans (se_drop _ _) ?_)) _), ?_⟩
  have h' : ({ p with va := a1, vc := c1 } : Prf).ok := ⟨h.key, h.kind, h.other, h.dg, h.vl, h.pl⟩
  have e3 := Prf.set3 h a1 c1
  have e4 := Prf.set4 h' a2 c2
  dsimp only at e4
  have hs3 : (splice p.cells (0 + 65) [Value.slice a1 p.vl.length c1]).length = 67 := by rw [e3]; exact Prf.len h'
  have hlen2 : ({ p with va := a1, vc := c1, pa := a2, pc := c2 } : Prf).cells.length = 67 := Prf.len (p := { p with va := a1, vc := c1, pa := a2, pc := c2 }) ⟨h.key, h.kind, h.other, h.dg, h.vl, h.pl⟩
  have hs4 : 0 + 66 + [Value.slice a2 p.pl.length c2].length ≤ (splice p.cells (0 + 65) [Value.slice a1 p.vl.length c1]).length := by rw [hs3]; simp
  ((refine va_one 7 (by kernel_rfl) rfl rfl ?_; (first | (refine vo_box rfl rfl rfl ?_; intro _) | (refine vo_alloc rfl ?_; intro _) | (refine vo_isStore ?_; first | refine vo_stWA rfl rfl ?_ | refine vo_stBA rfl rfl ?_ | (refine vo_stO rfl rfl (by rfl) (by rfl) (by simp; omega) rfl ?_; skip)) | (refine vo_isCall ?_; first | (refine vo_append0A rfl rfl rfl ?_; intro _ _ _ _) | (refine vo_appendA rfl rfl rfl ?_; intro _ _ _ _) | refine vo_yield rfl rfl rfl rfl rfl ?_ | refine vo_callV rfl rfl rfl (vc_in rfl rfl ?_)) | refine vo_convRow rfl rfl ?_ | (refine vo_buildSlice rfl rfl rfl (by decide) (by repeat' (first | exact trivial | rfl | refine ⟨?_, ?_⟩ | (simp; done) | (simp; omega))) (by decide) rfl ?_; intro _) | (refine vo_buildSlice0 rfl ?_; intro _) | fail); refine ⟨.inl (by kernel_rfl), ?_⟩) <;> (refine va_takePA 8 rfl rfl rfl rfl ?_) <;> (refine va_one 9 (by kernel_rfl) rfl rfl ?_; (first | (refine vo_box rfl rfl rfl ?_; intro _) | (refine vo_alloc rfl ?_; intro _) | (refine vo_isStore ?_; first | refine vo_stWA rfl rfl ?_ | refine vo_stBA rfl rfl ?_ | (refine vo_stO rfl rfl (by rfl) (by rfl) (by simp; omega) rfl ?_; skip)) | (refine vo_isCall ?_; first | (refine vo_append0A rfl rfl rfl ?_; intro _ _ _ _) | (refine vo_appendA rfl rfl rfl ?_; intro _ _ _ _) | refine vo_yield rfl rfl rfl rfl rfl ?_ | refine vo_callV rfl rfl rfl (vc_in rfl rfl ?_)) | refine vo_convRow rfl rfl ?_ | (refine vo_buildSlice rfl rfl rfl (by decide) (by repeat' (first | exact trivial | rfl | refine ⟨?_, ?_⟩ | (simp; done) | (simp; omega))) (by decide) rfl ?_; intro _) | (refine vo_buildSlice0 rfl ?_; intro _) | fail); refine ⟨.inl (by kernel_rfl), ?_⟩) <;> (refine va_done (by kernel_rfl) ?_))
  rw [e3, e4]
  repeat' (first | (refine vl_id ?_; first | refine vl_nil ?_ | refine vl_qA rfl rfl rfl rfl ?_ | (refine vl_o rfl ?_; (first | (refine vo_box rfl rfl rfl ?_; intro _) | (refine vo_alloc rfl ?_; intro _) | (refine vo_isStore ?_; first | refine vo_stWA rfl rfl ?_ | refine vo_stBA rfl rfl ?_ | (refine vo_stO rfl rfl (by rfl) (by rfl) (by simp; omega) rfl ?_; skip)) | (refine vo_isCall ?_; first | (refine vo_append0A rfl rfl rfl ?_; intro _ _ _ _) | (refine vo_appendA rfl rfl rfl ?_; intro _ _ _ _) | refine vo_yield rfl rfl rfl rfl rfl ?_ | refine vo_callV rfl rfl rfl (vc_in rfl rfl ?_)) | refine vo_convRow rfl rfl ?_ | (refine vo_buildSlice rfl rfl rfl (by decide) (by repeat' (first | exact trivial | rfl | refine ⟨?_, ?_⟩ | (simp; done) | (simp; omega))) (by decide) rfl ?_; intro _) | (refine vo_buildSlice0 rfl ?_; intro _) | fail)) | refine vl_guard rfl rfl rfl rfl rfl ?_ | refine vl_pass rfl rfl rfl rfl rfl rfl rfl ?_ | (refine vl_caseG rfl rfl rfl rfl ?_ ?_ <;> (intro hb; (try simp only [decide_eq_true_eq, decide_eq_false_iff_not, Bool.not_eq_true', Bool.not_eq_false', ne_eq, Decidable.not_not, Option.isNone_iff_eq_none, not_true_eq_false, not_false_eq_true] at hb); try (exfalso; omega)))) | (refine v_id ?_; first | refine v_seq ?_ | refine v_region ?_ | refine v_condT rfl ?_ | refine v_condF rfl ?_ | (refine v_cond rfl ?_ ?_ <;> (intro hb; (try simp only [decide_eq_true_eq, decide_eq_false_iff_not, Bool.not_eq_true', Bool.not_eq_false', ne_eq, Decidable.not_not, Option.isNone_iff_eq_none, not_true_eq_false, not_false_eq_true] at hb); try (exfalso; omega))) | refine v_block ?_ | refine v_skip ?_ | refine v_ret ?_ | refine v_exit ?_ | refine v_label ?_ | refine v_scope (fun _ _ _ _ h => h) ?_ | refine v_code ?_) | refine thn_n ?_ | refine inb_n ?_ | refine inb_r ?_ | refine thn_r ?_ | refine thn_e ?_ | refine inb_e rfl ?_ | refine inb_o rfl ?_ | refine beginR ?_ | refine rangeEnd_done (by decide) ?_ | refine rangeEnd_jump (by decide) ?_ | refine ret_mark ?_ | refine roundQ_n ?_ | refine roundQ_r ?_ | refine roundQ_e ?_ | refine ret0 rfl ?_ | refine ret1A rfl ?_ | refine ret2A rfl ?_ | refine ret3A rfl ?_ | fail )
  exact ⟨_, (SE.cons _ (SE.cons _ ((se_drop _ _).trans (se_drop _ _)))).ent w0, a1, c1, a2, c2, rfl, rfl⟩
end Go.Proofs.Ytjbjidopjhllbaa
