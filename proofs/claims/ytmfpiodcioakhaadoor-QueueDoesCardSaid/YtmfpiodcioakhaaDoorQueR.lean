/-
  Lines: the law of QueueDoes.
-/
import Derived.Test.YtmfpiodcioakhaaDoorGZ
set_option linter.unusedVariables false
set_option linter.unusedSimpArgs false
namespace Go.Proofs.YtmfpiodcioakhaaDoor
open Go Go.RowKit
set_option linter.unusedVariables false
set_option linter.unusedSimpArgs false
open Classical

set_option maxRecDepth 100000 in
set_option maxHeartbeats 16000000 in
theorem queueDoes_vc (w0 : World) (l o : Ln) (x : Tx) (k : Nat) (h0 : l.ok0) (k0 : o.ok0) (hx : x.ok) (hk : k < 18446744073709551616) [hK : RdA w0 (some ⟨0, 0, none⟩) (wds K64)] [hr : RdA w0 l.a (txc l.xs)] [hs : RdA w0 o.a (txc o.xs)] :
    VC Tryd.prog w0 12 [.agg l.cells.toArray, .agg o.cells.toArray, .agg x.cells.toArray, .int .u64 k] [] fun v L' => v = .bool true := by
  have hll := h0.len
  have hol := k0.len
  have hlc := Ln.len h0.own
  have hoc := Ln.len k0.own
  have hf1 := Ln.f1 h0.own
  have kf1 := Ln.f1 k0.own
  have hxl := Tx.len hx
  refine vc_in rfl rfl ?_
  by_cases hbig : (12 < l.xs.length ∧ l.xs.length < 256) ∨ 258 < l.xs.length ∨ 12 < o.xs.length
  · repeat' (first | (refine go1 ?_; intros) | (refine vl_caseG rfl rfl rfl rfl ?_ ?_ <;> (intro hb; (try simp only [decide_eq_true_eq, decide_eq_false_iff_not, Bool.not_eq_true', Bool.not_eq_false', ne_eq, Decidable.not_not, Option.isNone_iff_eq_none, not_true_eq_false, not_false_eq_true] at hb); try (exfalso; omega))) | (refine v_cond rfl ?_ ?_ <;> (intro hb; (try simp only [decide_eq_true_eq, decide_eq_false_iff_not, Bool.not_eq_true', Bool.not_eq_false', ne_eq, Decidable.not_not, Option.isNone_iff_eq_none, not_true_eq_false, not_false_eq_true] at hb); try (exfalso; omega))) | fail)
    all_goals first | exact rfl | (exfalso; omega)
  have h : l.ok := h0.up (by omega)
  have hh : o.ok := k0.up (by omega)
  have hP := putT_ok h hx
  have hQ := pastQ_ok h k
  have hR := readyQ_ok h k
  refine v_seq ?_
  refine v_region ?_
  repeat' (first | (refine vl_id ?_; first | refine vl_nil ?_ | refine vl_qA rfl rfl rfl rfl ?_ | (refine vl_o rfl ?_; (first | (refine vo_box rfl rfl rfl ?_; intro _) | (refine vo_alloc rfl ?_; intro _) | (refine vo_isStore ?_; first | (refine vo_isPt0 rfl ?_; refine vo_stWA rfl rfl ?_) | (refine vo_isPt rfl ?_; refine vo_stBA rfl rfl ?_) | (refine vo_stO rfl rfl (by rfl) (by first | rfl | assumption) (by first | assumption | (simp; done) | (simp; omega) | omega) rfl ?_; skip)) | (refine vo_isCall ?_; first | (refine vo_isApp ?_; first | (refine vo_append0A rfl rfl rfl ?_; intro _ _ _ _) | (refine vo_appendA rfl rfl rfl ?_; intro _ _ _ _)) | (refine vo_isCopy ?_; refine vo_copyB rfl rfl rfl (by assumption) (by assumption) (by assumption) (by assumption) ?_) | refine vo_yield rfl rfl rfl rfl rfl ?_ | refine vo_callV rfl rfl rfl (vc_in rfl rfl ?_)) | refine vo_convRow rfl rfl ?_ | (refine vo_isBs ?_; refine vo_buildSlice rfl rfl rfl (by decide) (by repeat' (first | exact trivial | rfl | assumption | refine ⟨?_, ?_⟩ | (simp; done) | (simp; omega))) (by decide) rfl ?_; intro _) | (refine vo_buildSlice0 rfl ?_; intro _) | fail)) | refine vl_guard rfl rfl rfl rfl rfl ?_ | refine vl_pass rfl rfl rfl rfl rfl rfl rfl ?_) | refine thn_n ?_ | fail)
  rename_i g1 g2 g3
  refine v_seq ?_
  refine v_cut Unit [3, 4, 5, 6, 8] rfl (fun _ => [(52, .bool (decide (12 < (o.xs.length : Int))))]) (fun _ => [blk g3 77 x.cells, blk g2 69 o.cells, blk g1 69 l.cells]) ?_ ?_
  · repeat' (first | (refine go1 ?_; intros) | (refine vl_caseG rfl rfl rfl rfl ?_ ?_ <;> (intro hb; (try simp only [decide_eq_true_eq, decide_eq_false_iff_not, Bool.not_eq_true', Bool.not_eq_false', ne_eq, Decidable.not_not, Option.isNone_iff_eq_none, not_true_eq_false, not_false_eq_true] at hb); try (exfalso; omega))) | (refine v_cond rfl ?_ ?_ <;> (intro hb; (try simp only [decide_eq_true_eq, decide_eq_false_iff_not, Bool.not_eq_true', Bool.not_eq_false', ne_eq, Decidable.not_not, Option.isNone_iff_eq_none, not_true_eq_false, not_false_eq_true] at hb); try (exfalso; omega))) | fail)
    all_goals first | (exfalso; omega) | exact ⟨rfl, (), by (repeat' (first | exact Sub.nil _ | refine Sub.cons rfl rfl ?_ | refine Sub.cons rfl ?_ ?_)), Ent.refl _ _⟩
  intro _
  repeat' (first | (refine go1 ?_; intros) | (refine vl_caseG rfl rfl rfl rfl ?_ ?_ <;> (intro hb; (try simp only [decide_eq_true_eq, decide_eq_false_iff_not, Bool.not_eq_true', Bool.not_eq_false', ne_eq, Decidable.not_not, Option.isNone_iff_eq_none, not_true_eq_false, not_false_eq_true] at hb); try (exfalso; omega))) | (refine v_cond rfl ?_ ?_ <;> (intro hb; (try simp only [decide_eq_true_eq, decide_eq_false_iff_not, Bool.not_eq_true', Bool.not_eq_false', ne_eq, Decidable.not_not, Option.isNone_iff_eq_none, not_true_eq_false, not_false_eq_true] at hb); try (exfalso; omega))) | fail)
  refine vl_o rfl (vo_call rfl rfl ?_)
  refine vc_mono (rtwinL_vc w0 _ l h) ?_
  rintro v L' ⟨a0, c0, rfl, rfl⟩
  refine vl_know (φ := l.xs.length ≤ c0) (fun w hs => (hs.ownLen 0 rfl).2.1) (fun hc0 => ?_)
  have hw : (Ln.mk l.own a0 c0 l.xs).ok := ⟨h.own, h.ts⟩
  have hwc := Ln.len hw.own
  repeat' (first | (refine go1 ?_; intros) | (refine vl_caseG rfl rfl rfl rfl ?_ ?_ <;> (intro hb; (try simp only [decide_eq_true_eq, decide_eq_false_iff_not, Bool.not_eq_true', Bool.not_eq_false', ne_eq, Decidable.not_not, Option.isNone_iff_eq_none, not_true_eq_false, not_false_eq_true] at hb); try (exfalso; omega))) | (refine v_cond rfl ?_ ?_ <;> (intro hb; (try simp only [decide_eq_true_eq, decide_eq_false_iff_not, Bool.not_eq_true', Bool.not_eq_false', ne_eq, Decidable.not_not, Option.isNone_iff_eq_none, not_true_eq_false, not_false_eq_true] at hb); try (exfalso; omega))) | fail)
  refine vl_o rfl (vo_call rfl rfl ?_)
  refine vc_mono (qput_vc w0 _ _ hw x hx) ?_
  rintro v L' ⟨a1, c1, b1, d1, rfl, rfl⟩
  rw [show putT (Ln.mk l.own a0 c0 l.xs) x = putT l x from rfl]
  generalize hq : putT l x = q at hP ⊢
  obtain ⟨o1, xs1, ys1, e1⟩ := q
  obtain ⟨p1, p2, p3⟩ := hP
  dsimp only at p1 p2 p3 ⊢
  have hl1 := Ln.len (l := Ln.mk o1 a1 c1 xs1) p1
  repeat' (first | (refine go1 ?_; intros) | (refine vl_caseG rfl rfl rfl rfl ?_ ?_ <;> (intro hb; (try simp only [decide_eq_true_eq, decide_eq_false_iff_not, Bool.not_eq_true', Bool.not_eq_false', ne_eq, Decidable.not_not, Option.isNone_iff_eq_none, not_true_eq_false, not_false_eq_true] at hb); try (exfalso; omega))) | (refine v_cond rfl ?_ ?_ <;> (intro hb; (try simp only [decide_eq_true_eq, decide_eq_false_iff_not, Bool.not_eq_true', Bool.not_eq_false', ne_eq, Decidable.not_not, Option.isNone_iff_eq_none, not_true_eq_false, not_false_eq_true] at hb); try (exfalso; omega))) | fail)
  refine vl_o rfl (vo_call rfl rfl ?_)
  refine vc_mono (rput19_vc w0 _ l h x hx) ?_
  rintro v L' ⟨a2, c2, b2, d2, rfl, rfl⟩
  rw [hq]
  dsimp only
  have hl2 := Ln.len (l := Ln.mk o1 a2 c2 xs1) p1
  repeat' (first | (refine go1 ?_; intros) | (refine vl_caseG rfl rfl rfl rfl ?_ ?_ <;> (intro hb; (try simp only [decide_eq_true_eq, decide_eq_false_iff_not, Bool.not_eq_true', Bool.not_eq_false', ne_eq, Decidable.not_not, Option.isNone_iff_eq_none, not_true_eq_false, not_false_eq_true] at hb); try (exfalso; omega))) | (refine v_cond rfl ?_ ?_ <;> (intro hb; (try simp only [decide_eq_true_eq, decide_eq_false_iff_not, Bool.not_eq_true', Bool.not_eq_false', ne_eq, Decidable.not_not, Option.isNone_iff_eq_none, not_true_eq_false, not_false_eq_true] at hb); try (exfalso; omega))) | fail)
  refine vl_o rfl (vo_call rfl rfl ?_)
  refine vc_mono (qready_vc w0 _ _ hw hc0 k hk) ?_
  rintro v L' ⟨b3, d3, rfl, rfl⟩
  rw [show readyQ (Ln.mk l.own a0 c0 l.xs) k = readyQ l k from rfl]
  generalize hqr : readyQ l k = q at hR ⊢
  obtain ⟨ys3, e3⟩ := q
  dsimp only at hR ⊢
  repeat' (first | (refine go1 ?_; intros) | (refine vl_caseG rfl rfl rfl rfl ?_ ?_ <;> (intro hb; (try simp only [decide_eq_true_eq, decide_eq_false_iff_not, Bool.not_eq_true', Bool.not_eq_false', ne_eq, Decidable.not_not, Option.isNone_iff_eq_none, not_true_eq_false, not_false_eq_true] at hb); try (exfalso; omega))) | (refine v_cond rfl ?_ ?_ <;> (intro hb; (try simp only [decide_eq_true_eq, decide_eq_false_iff_not, Bool.not_eq_true', Bool.not_eq_false', ne_eq, Decidable.not_not, Option.isNone_iff_eq_none, not_true_eq_false, not_false_eq_true] at hb); try (exfalso; omega))) | fail)
  refine vl_o rfl (vo_call rfl rfl ?_)
  refine vc_mono (rready19_vc w0 _ l h k hk) ?_
  rintro v L' ⟨b4, d4, rfl, rfl⟩
  rw [hqr]
  dsimp only
  repeat' (first | (refine go1 ?_; intros) | (refine vl_caseG rfl rfl rfl rfl ?_ ?_ <;> (intro hb; (try simp only [decide_eq_true_eq, decide_eq_false_iff_not, Bool.not_eq_true', Bool.not_eq_false', ne_eq, Decidable.not_not, Option.isNone_iff_eq_none, not_true_eq_false, not_false_eq_true] at hb); try (exfalso; omega))) | (refine v_cond rfl ?_ ?_ <;> (intro hb; (try simp only [decide_eq_true_eq, decide_eq_false_iff_not, Bool.not_eq_true', Bool.not_eq_false', ne_eq, Decidable.not_not, Option.isNone_iff_eq_none, not_true_eq_false, not_false_eq_true] at hb); try (exfalso; omega))) | fail)
  refine vl_o rfl (vo_call rfl rfl ?_)
  refine vc_mono (qpast_vc w0 _ _ hw hc0 k hk) ?_
  rintro v L' ⟨a5, c5, b5, d5, rfl, rfl⟩
  rw [show pastQ (Ln.mk l.own a0 c0 l.xs) k = pastQ l k from rfl]
  generalize hqp : pastQ l k = q at hQ ⊢
  obtain ⟨o5, xs5, ys5, e5⟩ := q
  obtain ⟨q1, q2, q3⟩ := hQ
  dsimp only at q1 q2 q3 ⊢
  have hl5 := Ln.len (l := Ln.mk o5 a5 c5 xs5) q1
  repeat' (first | (refine go1 ?_; intros) | (refine vl_caseG rfl rfl rfl rfl ?_ ?_ <;> (intro hb; (try simp only [decide_eq_true_eq, decide_eq_false_iff_not, Bool.not_eq_true', Bool.not_eq_false', ne_eq, Decidable.not_not, Option.isNone_iff_eq_none, not_true_eq_false, not_false_eq_true] at hb); try (exfalso; omega))) | (refine v_cond rfl ?_ ?_ <;> (intro hb; (try simp only [decide_eq_true_eq, decide_eq_false_iff_not, Bool.not_eq_true', Bool.not_eq_false', ne_eq, Decidable.not_not, Option.isNone_iff_eq_none, not_true_eq_false, not_false_eq_true] at hb); try (exfalso; omega))) | fail)
  refine vl_o rfl (vo_call rfl rfl ?_)
  refine vc_mono (rpast_vc w0 _ l h k hk) ?_
  rintro v L' ⟨a6, c6, b6, d6, rfl, rfl⟩
  rw [hqp]
  dsimp only
  have hl6 := Ln.len (l := Ln.mk o5 a6 c6 xs5) q1
  repeat' (first | (refine go1 ?_; intros) | (refine vl_caseG rfl rfl rfl rfl ?_ ?_ <;> (intro hb; (try simp only [decide_eq_true_eq, decide_eq_false_iff_not, Bool.not_eq_true', Bool.not_eq_false', ne_eq, Decidable.not_not, Option.isNone_iff_eq_none, not_true_eq_false, not_false_eq_true] at hb); try (exfalso; omega))) | (refine v_cond rfl ?_ ?_ <;> (intro hb; (try simp only [decide_eq_true_eq, decide_eq_false_iff_not, Bool.not_eq_true', Bool.not_eq_false', ne_eq, Decidable.not_not, Option.isNone_iff_eq_none, not_true_eq_false, not_false_eq_true] at hb); try (exfalso; omega))) | fail)
  refine vl_o rfl (vo_call rfl rfl ?_)
  refine vc_mono (rsameL_vc w0 _ (Ln.mk o1 a1 c1 xs1) (Ln.mk o1 a2 c2 xs1) ⟨p1, p2⟩ ⟨p1, p2⟩) ?_
  rintro v L' ⟨rfl, rfl⟩
  rw [decide_eq_true (show o1 = o1 ∧ xs1 = xs1 from ⟨rfl, rfl⟩)]
  repeat' (first | (refine goE ?_; intros) | (refine vl_caseG rfl rfl rfl rfl ?_ ?_ <;> (intro hb; (try simp only [decide_eq_true_eq, decide_eq_false_iff_not, Bool.not_eq_true', Bool.not_eq_false', ne_eq, Decidable.not_not, Option.isNone_iff_eq_none, not_true_eq_false, not_false_eq_true] at hb); try (exfalso; omega))) | (refine v_cond rfl ?_ ?_ <;> (intro hb; (try simp only [decide_eq_true_eq, decide_eq_false_iff_not, Bool.not_eq_true', Bool.not_eq_false', ne_eq, Decidable.not_not, Option.isNone_iff_eq_none, not_true_eq_false, not_false_eq_true] at hb); try (exfalso; omega))) | fail)
  refine vl_o rfl (vo_call rfl rfl ?_)
  refine vc_mono (rsameTs_vc w0 _ b1 d1 ys1 b2 d2 ys1 rfl rfl p3 p3) ?_
  rintro v L' ⟨rfl, rfl⟩
  rw [decide_eq_true (Eq.refl ys1)]
  repeat' (first | (refine goE ?_; intros) | (refine vl_caseG rfl rfl rfl rfl ?_ ?_ <;> (intro hb; (try simp only [decide_eq_true_eq, decide_eq_false_iff_not, Bool.not_eq_true', Bool.not_eq_false', ne_eq, Decidable.not_not, Option.isNone_iff_eq_none, not_true_eq_false, not_false_eq_true] at hb); try (exfalso; omega))) | (refine v_cond rfl ?_ ?_ <;> (intro hb; (try simp only [decide_eq_true_eq, decide_eq_false_iff_not, Bool.not_eq_true', Bool.not_eq_false', ne_eq, Decidable.not_not, Option.isNone_iff_eq_none, not_true_eq_false, not_false_eq_true] at hb); try (exfalso; omega))) | fail)
  refine vl_o rfl (vo_call rfl rfl ?_)
  refine vc_mono (rsameTs_vc w0 _ b3 d3 ys3 b4 d4 ys3 rfl rfl hR hR) ?_
  rintro v L' ⟨rfl, rfl⟩
  rw [decide_eq_true (Eq.refl ys3)]
  repeat' (first | (refine goE ?_; intros) | (refine vl_caseG rfl rfl rfl rfl ?_ ?_ <;> (intro hb; (try simp only [decide_eq_true_eq, decide_eq_false_iff_not, Bool.not_eq_true', Bool.not_eq_false', ne_eq, Decidable.not_not, Option.isNone_iff_eq_none, not_true_eq_false, not_false_eq_true] at hb); try (exfalso; omega))) | (refine v_cond rfl ?_ ?_ <;> (intro hb; (try simp only [decide_eq_true_eq, decide_eq_false_iff_not, Bool.not_eq_true', Bool.not_eq_false', ne_eq, Decidable.not_not, Option.isNone_iff_eq_none, not_true_eq_false, not_false_eq_true] at hb); try (exfalso; omega))) | fail)
  refine v_sub (selE_sub [4, 5, 6, 9, 10, 20, 21, 22, 23, 24, 25, 26] _ rfl) ?_
  (refine v_draw0 [] (by kernel_rfl) ?_ <;> (refine va_takeA 0 rfl rfl rfl rfl ?_) <;> (refine va_takeA 1 rfl rfl rfl rfl ?_))
  refine va_one 2 (by kernel_rfl) rfl rfl (vo_call rfl rfl ?_)
  refine vc_mono (rsameL_vc w0 _ (Ln.mk o5 a5 c5 xs5) (Ln.mk o5 a6 c6 xs5) ⟨q1, q2⟩ ⟨q1, q2⟩) ?_
  rintro v L' ⟨rfl, rfl⟩
  rw [decide_eq_true (show o5 = o5 ∧ xs5 = xs5 from ⟨rfl, rfl⟩)]
  refine ⟨.inr (SE.ent (by repeat' (first | exact SE.refl _ | refine SE.cons _ ?_ | refine SE.trans (se_drop _ _) ?_)) _), ?_⟩
  ((refine va_takeA 3 rfl rfl rfl rfl ?_) <;> (first | refine va_takeGA 4 rfl rfl rfl rfl rfl rfl rfl rfl ?_ | refine va_passGA 4 rfl rfl rfl rfl rfl rfl rfl rfl ?_ | (refine va_caseG 4 rfl rfl rfl rfl rfl ?_ ?_ <;> (intro hb; (try simp only [decide_eq_true_eq, decide_eq_false_iff_not, Bool.not_eq_true', Bool.not_eq_false', ne_eq, Decidable.not_not, Option.isNone_iff_eq_none, not_true_eq_false, not_false_eq_true] at hb); try (exfalso; omega)) <;> first | refine va_takeGA 4 rfl rfl rfl rfl rfl rfl rfl rfl ?_ | refine va_passGA 4 rfl rfl rfl rfl rfl rfl rfl rfl ?_)) <;> (first | refine va_takeGA 5 rfl rfl rfl rfl rfl rfl rfl rfl ?_ | refine va_passGA 5 rfl rfl rfl rfl rfl rfl rfl rfl ?_ | (refine va_caseG 5 rfl rfl rfl rfl rfl ?_ ?_ <;> (intro hb; (try simp only [decide_eq_true_eq, decide_eq_false_iff_not, Bool.not_eq_true', Bool.not_eq_false', ne_eq, Decidable.not_not, Option.isNone_iff_eq_none, not_true_eq_false, not_false_eq_true] at hb); try (exfalso; omega)) <;> first | refine va_takeGA 5 rfl rfl rfl rfl rfl rfl rfl rfl ?_ | refine va_passGA 5 rfl rfl rfl rfl rfl rfl rfl rfl ?_)))
  refine va_oneG 6 (by kernel_rfl) rfl rfl rfl rfl rfl rfl (vo_call rfl rfl ?_)
  refine vc_mono (rsameTs_vc w0 _ b5 d5 ys5 b6 d6 ys5 rfl rfl q3 q3) ?_
  rintro v L' ⟨rfl, rfl⟩
  rw [decide_eq_true (Eq.refl ys5)]
  refine ⟨.inr (SE.ent (by repeat' (first | exact SE.refl _ | refine SE.cons _ ?_ | refine SE.trans (se_drop _ _) ?_)) _), ?_⟩
  ((refine va_takeA 7 rfl rfl rfl rfl ?_) <;> (refine va_takeA 8 rfl rfl rfl rfl ?_) <;> (first | refine va_takeGA 9 rfl rfl rfl rfl rfl rfl rfl rfl ?_ | refine va_passGA 9 rfl rfl rfl rfl rfl rfl rfl rfl ?_ | (refine va_caseG 9 rfl rfl rfl rfl rfl ?_ ?_ <;> (intro hb; (try simp only [decide_eq_true_eq, decide_eq_false_iff_not, Bool.not_eq_true', Bool.not_eq_false', ne_eq, Decidable.not_not, Option.isNone_iff_eq_none, not_true_eq_false, not_false_eq_true] at hb); try (exfalso; omega)) <;> first | refine va_takeGA 9 rfl rfl rfl rfl rfl rfl rfl rfl ?_ | refine va_passGA 9 rfl rfl rfl rfl rfl rfl rfl rfl ?_)) <;> (first | refine va_takeGA 10 rfl rfl rfl rfl rfl rfl rfl rfl ?_ | refine va_passGA 10 rfl rfl rfl rfl rfl rfl rfl rfl ?_ | (refine va_caseG 10 rfl rfl rfl rfl rfl ?_ ?_ <;> (intro hb; (try simp only [decide_eq_true_eq, decide_eq_false_iff_not, Bool.not_eq_true', Bool.not_eq_false', ne_eq, Decidable.not_not, Option.isNone_iff_eq_none, not_true_eq_false, not_false_eq_true] at hb); try (exfalso; omega)) <;> first | refine va_takeGA 10 rfl rfl rfl rfl rfl rfl rfl rfl ?_ | refine va_passGA 10 rfl rfl rfl rfl rfl rfl rfl rfl ?_)) <;> (first | refine va_takeG 11 rfl rfl rfl rfl rfl rfl rfl rfl (by kernel_rfl) (fun _ _ _ _ h => h) (SE.ent (by repeat' (first | exact SE.refl _ | refine SE.cons _ ?_ | refine SE.trans (se_drop _ _) ?_)) _) (by (first | (apply vq_isBin; first | exact vq_neS rfl rfl | exact vq_neBoolS rfl rfl | (apply vq_isOp .neq; first | exact vq_neBS rfl rfl (by first | assumption | (simp; done)) | exact vq_neTxS rfl rfl (by assumption)) | (apply vq_isOp .eql; first | exact vq_eqS rfl rfl | exact vq_eqBS rfl rfl (by first | assumption | (simp; done)) | exact vq_eqTxS rfl rfl (by assumption) | exact vq_eqHdS rfl rfl (by assumption) | exact vq_eqRecS rfl rfl (by assumption) | exact vq_eqTx rfl rfl (by assumption) (by assumption))) | (apply vq_isBin; first | exact vq_lt rfl rfl | exact vq_eq rfl rfl | exact vq_ne rfl rfl | (apply vq_isOp .add; exact vq_add rfl rfl (by first | exact wr_add (by omega) | exact wu_add (by omega) | exact wr_id (by omega) (by omega) | rfl)) | (apply vq_isOp .sub; exact vq_minus rfl rfl (by first | exact wr_sub (by omega) (by omega) | exact wu_sub (by omega) (by omega) | exact wr_id (by omega) (by omega) | rfl)) | exact vq_gt rfl rfl | exact vq_le rfl rfl | exact vq_ge rfl rfl | (apply vq_isOp .mul; exact vq_mul rfl rfl (by first | exact wr_mul (by omega) | exact wr_id (by omega) (by omega) | rfl)) | (apply vq_isOp .or; exact vq_or rfl rfl (by rfl)) | (apply vq_isOp .and; exact vq_and rfl rfl (by rfl)) | (apply vq_isOp .xor; exact vq_xor rfl rfl (by rfl)) | (apply vq_isOp .shl; exact vq_shl rfl rfl (by omega) (by rfl)) | (apply vq_isOp .shr; exact vq_shr rfl rfl (by omega) (by rfl)) | (apply vq_isOp .quo; exact vq_quo rfl rfl (by decide) (by first | exact q8_i64 (by omega) | exact q2_u8 (by omega) | exact q4_i64 (by omega) | assumption | rfl)) | (apply vq_isOp .rem; exact vq_rem rfl rfl (by decide) (by first | exact r8 | exact r2 | exact r4 | exact r64 | assumption | rfl)) | exact vq_eqNil rfl rfl | exact vq_eqBool rfl rfl | (apply vq_isOp .eql; exact vq_eqB rfl rfl (by first | assumption | (simp; done)) (by first | assumption | (simp; done))) | (apply vq_isOp .neq; first | exact vq_neBool rfl rfl | exact vq_neB rfl rfl (by first | assumption | (simp; done)) (by first | assumption | (simp; done)))))) ?_ | refine va_passGA 11 rfl rfl rfl rfl rfl rfl rfl rfl ?_ | (refine va_caseG 11 rfl rfl rfl rfl rfl ?_ ?_ <;> (intro hb; (try simp only [decide_eq_true_eq, decide_eq_false_iff_not, Bool.not_eq_true', Bool.not_eq_false', ne_eq, Decidable.not_not, Option.isNone_iff_eq_none, not_true_eq_false, not_false_eq_true] at hb); try (exfalso; omega)) <;> first | refine va_takeG 11 rfl rfl rfl rfl rfl rfl rfl rfl (by kernel_rfl) (fun _ _ _ _ h => h) (SE.ent (by repeat' (first | exact SE.refl _ | refine SE.cons _ ?_ | refine SE.trans (se_drop _ _) ?_)) _) (by (first | (apply vq_isBin; first | exact vq_neS rfl rfl | exact vq_neBoolS rfl rfl | (apply vq_isOp .neq; first | exact vq_neBS rfl rfl (by first | assumption | (simp; done)) | exact vq_neTxS rfl rfl (by assumption)) | (apply vq_isOp .eql; first | exact vq_eqS rfl rfl | exact vq_eqBS rfl rfl (by first | assumption | (simp; done)) | exact vq_eqTxS rfl rfl (by assumption) | exact vq_eqHdS rfl rfl (by assumption) | exact vq_eqRecS rfl rfl (by assumption) | exact vq_eqTx rfl rfl (by assumption) (by assumption))) | (apply vq_isBin; first | exact vq_lt rfl rfl | exact vq_eq rfl rfl | exact vq_ne rfl rfl | (apply vq_isOp .add; exact vq_add rfl rfl (by first | exact wr_add (by omega) | exact wu_add (by omega) | exact wr_id (by omega) (by omega) | rfl)) | (apply vq_isOp .sub; exact vq_minus rfl rfl (by first | exact wr_sub (by omega) (by omega) | exact wu_sub (by omega) (by omega) | exact wr_id (by omega) (by omega) | rfl)) | exact vq_gt rfl rfl | exact vq_le rfl rfl | exact vq_ge rfl rfl | (apply vq_isOp .mul; exact vq_mul rfl rfl (by first | exact wr_mul (by omega) | exact wr_id (by omega) (by omega) | rfl)) | (apply vq_isOp .or; exact vq_or rfl rfl (by rfl)) | (apply vq_isOp .and; exact vq_and rfl rfl (by rfl)) | (apply vq_isOp .xor; exact vq_xor rfl rfl (by rfl)) | (apply vq_isOp .shl; exact vq_shl rfl rfl (by omega) (by rfl)) | (apply vq_isOp .shr; exact vq_shr rfl rfl (by omega) (by rfl)) | (apply vq_isOp .quo; exact vq_quo rfl rfl (by decide) (by first | exact q8_i64 (by omega) | exact q2_u8 (by omega) | exact q4_i64 (by omega) | assumption | rfl)) | (apply vq_isOp .rem; exact vq_rem rfl rfl (by decide) (by first | exact r8 | exact r2 | exact r4 | exact r64 | assumption | rfl)) | exact vq_eqNil rfl rfl | exact vq_eqBool rfl rfl | (apply vq_isOp .eql; exact vq_eqB rfl rfl (by first | assumption | (simp; done)) (by first | assumption | (simp; done))) | (apply vq_isOp .neq; first | exact vq_neBool rfl rfl | exact vq_neB rfl rfl (by first | assumption | (simp; done)) (by first | assumption | (simp; done)))))) ?_ | refine va_passGA 11 rfl rfl rfl rfl rfl rfl rfl rfl ?_)) <;> (refine va_takeA 12 rfl rfl rfl rfl ?_) <;> (refine va_takeA 13 rfl rfl rfl rfl ?_) <;> (first | refine va_takeGA 14 rfl rfl rfl rfl rfl rfl rfl rfl ?_ | refine va_passGA 14 rfl rfl rfl rfl rfl rfl rfl rfl ?_ | (refine va_caseG 14 rfl rfl rfl rfl rfl ?_ ?_ <;> (intro hb; (try simp only [decide_eq_true_eq, decide_eq_false_iff_not, Bool.not_eq_true', Bool.not_eq_false', ne_eq, Decidable.not_not, Option.isNone_iff_eq_none, not_true_eq_false, not_false_eq_true] at hb); try (exfalso; omega)) <;> first | refine va_takeGA 14 rfl rfl rfl rfl rfl rfl rfl rfl ?_ | refine va_passGA 14 rfl rfl rfl rfl rfl rfl rfl rfl ?_)) <;> (first | refine va_takeGA 16 rfl rfl rfl rfl rfl rfl rfl rfl ?_ | refine va_passGA 16 rfl rfl rfl rfl rfl rfl rfl rfl ?_ | (refine va_caseG 16 rfl rfl rfl rfl rfl ?_ ?_ <;> (intro hb; (try simp only [decide_eq_true_eq, decide_eq_false_iff_not, Bool.not_eq_true', Bool.not_eq_false', ne_eq, Decidable.not_not, Option.isNone_iff_eq_none, not_true_eq_false, not_false_eq_true] at hb); try (exfalso; omega)) <;> first | refine va_takeGA 16 rfl rfl rfl rfl rfl rfl rfl rfl ?_ | refine va_passGA 16 rfl rfl rfl rfl rfl rfl rfl rfl ?_)))
  refine va_oneG 15 (by kernel_rfl) rfl rfl rfl rfl rfl rfl (vo_call rfl rfl ?_)
  refine vc_mono (qcheck_vc w0 _ _ hw) ?_
  rintro v L' ⟨rfl, rfl⟩
  rw [show (Ln.mk l.own a0 c0 l.xs).may = l.may from rfl]
  refine ⟨.inr (SE.ent (by repeat' (first | exact SE.refl _ | refine SE.cons _ ?_ | refine SE.trans (se_drop _ _) ?_)) _), ?_⟩
  skip
  refine va_oneG 17 (by kernel_rfl) rfl rfl rfl rfl rfl rfl (vo_call rfl rfl ?_)
  refine vc_mono (rcheck19_vc w0 _ l h) ?_
  rintro v L' ⟨rfl, rfl⟩
  generalize (if l.may = true then (0 : Int) else 8) = em
  refine ⟨.inr (SE.ent (by repeat' (first | exact SE.refl _ | refine SE.cons _ ?_ | refine SE.trans (se_drop _ _) ?_)) _), ?_⟩
  ((first | refine va_takeG 18 rfl rfl rfl rfl rfl rfl rfl rfl (by kernel_rfl) (fun _ _ _ _ h => h) (SE.ent (by repeat' (first | exact SE.refl _ | refine SE.cons _ ?_ | refine SE.trans (se_drop _ _) ?_)) _) (by (first | (apply vq_isBin; first | exact vq_neS rfl rfl | exact vq_neBoolS rfl rfl | (apply vq_isOp .neq; first | exact vq_neBS rfl rfl (by first | assumption | (simp; done)) | exact vq_neTxS rfl rfl (by assumption)) | (apply vq_isOp .eql; first | exact vq_eqS rfl rfl | exact vq_eqBS rfl rfl (by first | assumption | (simp; done)) | exact vq_eqTxS rfl rfl (by assumption) | exact vq_eqHdS rfl rfl (by assumption) | exact vq_eqRecS rfl rfl (by assumption) | exact vq_eqTx rfl rfl (by assumption) (by assumption))) | (apply vq_isBin; first | exact vq_lt rfl rfl | exact vq_eq rfl rfl | exact vq_ne rfl rfl | (apply vq_isOp .add; exact vq_add rfl rfl (by first | exact wr_add (by omega) | exact wu_add (by omega) | exact wr_id (by omega) (by omega) | rfl)) | (apply vq_isOp .sub; exact vq_minus rfl rfl (by first | exact wr_sub (by omega) (by omega) | exact wu_sub (by omega) (by omega) | exact wr_id (by omega) (by omega) | rfl)) | exact vq_gt rfl rfl | exact vq_le rfl rfl | exact vq_ge rfl rfl | (apply vq_isOp .mul; exact vq_mul rfl rfl (by first | exact wr_mul (by omega) | exact wr_id (by omega) (by omega) | rfl)) | (apply vq_isOp .or; exact vq_or rfl rfl (by rfl)) | (apply vq_isOp .and; exact vq_and rfl rfl (by rfl)) | (apply vq_isOp .xor; exact vq_xor rfl rfl (by rfl)) | (apply vq_isOp .shl; exact vq_shl rfl rfl (by omega) (by rfl)) | (apply vq_isOp .shr; exact vq_shr rfl rfl (by omega) (by rfl)) | (apply vq_isOp .quo; exact vq_quo rfl rfl (by decide) (by first | exact q8_i64 (by omega) | exact q2_u8 (by omega) | exact q4_i64 (by omega) | assumption | rfl)) | (apply vq_isOp .rem; exact vq_rem rfl rfl (by decide) (by first | exact r8 | exact r2 | exact r4 | exact r64 | assumption | rfl)) | exact vq_eqNil rfl rfl | exact vq_eqBool rfl rfl | (apply vq_isOp .eql; exact vq_eqB rfl rfl (by first | assumption | (simp; done)) (by first | assumption | (simp; done))) | (apply vq_isOp .neq; first | exact vq_neBool rfl rfl | exact vq_neB rfl rfl (by first | assumption | (simp; done)) (by first | assumption | (simp; done)))))) ?_ | refine va_passGA 18 rfl rfl rfl rfl rfl rfl rfl rfl ?_ | (refine va_caseG 18 rfl rfl rfl rfl rfl ?_ ?_ <;> (intro hb; (try simp only [decide_eq_true_eq, decide_eq_false_iff_not, Bool.not_eq_true', Bool.not_eq_false', ne_eq, Decidable.not_not, Option.isNone_iff_eq_none, not_true_eq_false, not_false_eq_true] at hb); try (exfalso; omega)) <;> first | refine va_takeG 18 rfl rfl rfl rfl rfl rfl rfl rfl (by kernel_rfl) (fun _ _ _ _ h => h) (SE.ent (by repeat' (first | exact SE.refl _ | refine SE.cons _ ?_ | refine SE.trans (se_drop _ _) ?_)) _) (by (first | (apply vq_isBin; first | exact vq_neS rfl rfl | exact vq_neBoolS rfl rfl | (apply vq_isOp .neq; first | exact vq_neBS rfl rfl (by first | assumption | (simp; done)) | exact vq_neTxS rfl rfl (by assumption)) | (apply vq_isOp .eql; first | exact vq_eqS rfl rfl | exact vq_eqBS rfl rfl (by first | assumption | (simp; done)) | exact vq_eqTxS rfl rfl (by assumption) | exact vq_eqHdS rfl rfl (by assumption) | exact vq_eqRecS rfl rfl (by assumption) | exact vq_eqTx rfl rfl (by assumption) (by assumption))) | (apply vq_isBin; first | exact vq_lt rfl rfl | exact vq_eq rfl rfl | exact vq_ne rfl rfl | (apply vq_isOp .add; exact vq_add rfl rfl (by first | exact wr_add (by omega) | exact wu_add (by omega) | exact wr_id (by omega) (by omega) | rfl)) | (apply vq_isOp .sub; exact vq_minus rfl rfl (by first | exact wr_sub (by omega) (by omega) | exact wu_sub (by omega) (by omega) | exact wr_id (by omega) (by omega) | rfl)) | exact vq_gt rfl rfl | exact vq_le rfl rfl | exact vq_ge rfl rfl | (apply vq_isOp .mul; exact vq_mul rfl rfl (by first | exact wr_mul (by omega) | exact wr_id (by omega) (by omega) | rfl)) | (apply vq_isOp .or; exact vq_or rfl rfl (by rfl)) | (apply vq_isOp .and; exact vq_and rfl rfl (by rfl)) | (apply vq_isOp .xor; exact vq_xor rfl rfl (by rfl)) | (apply vq_isOp .shl; exact vq_shl rfl rfl (by omega) (by rfl)) | (apply vq_isOp .shr; exact vq_shr rfl rfl (by omega) (by rfl)) | (apply vq_isOp .quo; exact vq_quo rfl rfl (by decide) (by first | exact q8_i64 (by omega) | exact q2_u8 (by omega) | exact q4_i64 (by omega) | assumption | rfl)) | (apply vq_isOp .rem; exact vq_rem rfl rfl (by decide) (by first | exact r8 | exact r2 | exact r4 | exact r64 | assumption | rfl)) | exact vq_eqNil rfl rfl | exact vq_eqBool rfl rfl | (apply vq_isOp .eql; exact vq_eqB rfl rfl (by first | assumption | (simp; done)) (by first | assumption | (simp; done))) | (apply vq_isOp .neq; first | exact vq_neBool rfl rfl | exact vq_neB rfl rfl (by first | assumption | (simp; done)) (by first | assumption | (simp; done)))))) ?_ | refine va_passGA 18 rfl rfl rfl rfl rfl rfl rfl rfl ?_)) <;> (refine va_takeA 19 rfl rfl rfl rfl ?_) <;> (refine va_takeA 20 rfl rfl rfl rfl ?_) <;> (refine va_done (by kernel_rfl) ?_))
  repeat' (first | (refine goE ?_; intros) | (refine vl_caseG rfl rfl rfl rfl ?_ ?_ <;> (intro hb; (try simp only [decide_eq_true_eq, decide_eq_false_iff_not, Bool.not_eq_true', Bool.not_eq_false', ne_eq, Decidable.not_not, Option.isNone_iff_eq_none, not_true_eq_false, not_false_eq_true] at hb); try (exfalso; omega))) | (refine v_cond rfl ?_ ?_ <;> (intro hb; (try simp only [decide_eq_true_eq, decide_eq_false_iff_not, Bool.not_eq_true', Bool.not_eq_false', ne_eq, Decidable.not_not, Option.isNone_iff_eq_none, not_true_eq_false, not_false_eq_true] at hb); try (exfalso; omega))) | fail)
  refine v_sub (selE_sub [4, 5, 9, 10, 20, 26, 27] _ rfl) ?_
  (refine v_draw0 [] (by kernel_rfl) ?_ <;> (refine va_takeA 0 rfl rfl rfl rfl ?_) <;> (refine va_takeA 1 rfl rfl rfl rfl ?_) <;> (refine va_takeA 3 rfl rfl rfl rfl ?_) <;> (refine va_takeA 4 rfl rfl rfl rfl ?_))
  refine va_one 2 (by kernel_rfl) rfl rfl (vo_call rfl rfl ?_)
  refine vc_mono (qsameL_vc w0 _ _ o hw hh) ?_
  rintro v L' ⟨rfl, rfl⟩
  dsimp only
  refine ⟨.inr (SE.ent (by repeat' (first | exact SE.refl _ | refine SE.cons _ ?_ | refine SE.trans (se_drop _ _) ?_)) _), ?_⟩
  skip
  refine va_one 5 (by kernel_rfl) rfl rfl (vo_call rfl rfl ?_)
  refine vc_mono (rsameL_vc w0 _ l o h hh) ?_
  rintro v L' ⟨rfl, rfl⟩
  generalize decide (l.own = o.own ∧ l.xs = o.xs) = bs
  refine ⟨.inr (SE.ent (by repeat' (first | exact SE.refl _ | refine SE.cons _ ?_ | refine SE.trans (se_drop _ _) ?_)) _), ?_⟩
  ((refine va_take 6 rfl rfl rfl rfl (by kernel_rfl) (fun _ _ _ _ h => h) (SE.ent (by repeat' (first | exact SE.refl _ | refine SE.cons _ ?_ | refine SE.trans (se_drop _ _) ?_)) _) (by (first | (apply vq_isBin; first | exact vq_neS rfl rfl | exact vq_neBoolS rfl rfl | (apply vq_isOp .neq; first | exact vq_neBS rfl rfl (by first | assumption | (simp; done)) | exact vq_neTxS rfl rfl (by assumption)) | (apply vq_isOp .eql; first | exact vq_eqS rfl rfl | exact vq_eqBS rfl rfl (by first | assumption | (simp; done)) | exact vq_eqTxS rfl rfl (by assumption) | exact vq_eqHdS rfl rfl (by assumption) | exact vq_eqRecS rfl rfl (by assumption) | exact vq_eqTx rfl rfl (by assumption) (by assumption))) | (apply vq_isBin; first | exact vq_lt rfl rfl | exact vq_eq rfl rfl | exact vq_ne rfl rfl | (apply vq_isOp .add; exact vq_add rfl rfl (by first | exact wr_add (by omega) | exact wu_add (by omega) | exact wr_id (by omega) (by omega) | rfl)) | (apply vq_isOp .sub; exact vq_minus rfl rfl (by first | exact wr_sub (by omega) (by omega) | exact wu_sub (by omega) (by omega) | exact wr_id (by omega) (by omega) | rfl)) | exact vq_gt rfl rfl | exact vq_le rfl rfl | exact vq_ge rfl rfl | (apply vq_isOp .mul; exact vq_mul rfl rfl (by first | exact wr_mul (by omega) | exact wr_id (by omega) (by omega) | rfl)) | (apply vq_isOp .or; exact vq_or rfl rfl (by rfl)) | (apply vq_isOp .and; exact vq_and rfl rfl (by rfl)) | (apply vq_isOp .xor; exact vq_xor rfl rfl (by rfl)) | (apply vq_isOp .shl; exact vq_shl rfl rfl (by omega) (by rfl)) | (apply vq_isOp .shr; exact vq_shr rfl rfl (by omega) (by rfl)) | (apply vq_isOp .quo; exact vq_quo rfl rfl (by decide) (by first | exact q8_i64 (by omega) | exact q2_u8 (by omega) | exact q4_i64 (by omega) | assumption | rfl)) | (apply vq_isOp .rem; exact vq_rem rfl rfl (by decide) (by first | exact r8 | exact r2 | exact r4 | exact r64 | assumption | rfl)) | exact vq_eqNil rfl rfl | exact vq_eqBool rfl rfl | (apply vq_isOp .eql; exact vq_eqB rfl rfl (by first | assumption | (simp; done)) (by first | assumption | (simp; done))) | (apply vq_isOp .neq; first | exact vq_neBool rfl rfl | exact vq_neB rfl rfl (by first | assumption | (simp; done)) (by first | assumption | (simp; done)))))) ?_) <;> (refine va_takeA 7 rfl rfl rfl rfl ?_) <;> (first | refine va_takeGA 8 rfl rfl rfl rfl rfl rfl rfl rfl ?_ | refine va_passGA 8 rfl rfl rfl rfl rfl rfl rfl rfl ?_ | (refine va_caseG 8 rfl rfl rfl rfl rfl ?_ ?_ <;> (intro hb; (try simp only [decide_eq_true_eq, decide_eq_false_iff_not, Bool.not_eq_true', Bool.not_eq_false', ne_eq, Decidable.not_not, Option.isNone_iff_eq_none, not_true_eq_false, not_false_eq_true] at hb); try (exfalso; omega)) <;> first | refine va_takeGA 8 rfl rfl rfl rfl rfl rfl rfl rfl ?_ | refine va_passGA 8 rfl rfl rfl rfl rfl rfl rfl rfl ?_)) <;> (first | refine va_takeGA 9 rfl rfl rfl rfl rfl rfl rfl rfl ?_ | refine va_passGA 9 rfl rfl rfl rfl rfl rfl rfl rfl ?_ | (refine va_caseG 9 rfl rfl rfl rfl rfl ?_ ?_ <;> (intro hb; (try simp only [decide_eq_true_eq, decide_eq_false_iff_not, Bool.not_eq_true', Bool.not_eq_false', ne_eq, Decidable.not_not, Option.isNone_iff_eq_none, not_true_eq_false, not_false_eq_true] at hb); try (exfalso; omega)) <;> first | refine va_takeGA 9 rfl rfl rfl rfl rfl rfl rfl rfl ?_ | refine va_passGA 9 rfl rfl rfl rfl rfl rfl rfl rfl ?_)))
  refine va_oneG 10 (by kernel_rfl) rfl rfl rfl rfl rfl rfl (vo_call rfl rfl ?_)
  refine vc_mono (qsameL_vc w0 _ _ l hw h) ?_
  rintro v L' ⟨rfl, rfl⟩
  rw [decide_eq_true (show l.own = l.own ∧ l.xs = l.xs from ⟨rfl, rfl⟩)]
  refine ⟨.inr (SE.ent (by repeat' (first | exact SE.refl _ | refine SE.cons _ ?_ | refine SE.trans (se_drop _ _) ?_)) _), ?_⟩
  ((refine va_takeA 11 rfl rfl rfl rfl ?_) <;> (refine va_takeA 12 rfl rfl rfl rfl ?_) <;> (first | refine va_takeGA 13 rfl rfl rfl rfl rfl rfl rfl rfl ?_ | refine va_passGA 13 rfl rfl rfl rfl rfl rfl rfl rfl ?_ | (refine va_caseG 13 rfl rfl rfl rfl rfl ?_ ?_ <;> (intro hb; (try simp only [decide_eq_true_eq, decide_eq_false_iff_not, Bool.not_eq_true', Bool.not_eq_false', ne_eq, Decidable.not_not, Option.isNone_iff_eq_none, not_true_eq_false, not_false_eq_true] at hb); try (exfalso; omega)) <;> first | refine va_takeGA 13 rfl rfl rfl rfl rfl rfl rfl rfl ?_ | refine va_passGA 13 rfl rfl rfl rfl rfl rfl rfl rfl ?_)) <;> (first | refine va_takeGA 15 rfl rfl rfl rfl rfl rfl rfl rfl ?_ | refine va_passGA 15 rfl rfl rfl rfl rfl rfl rfl rfl ?_ | (refine va_caseG 15 rfl rfl rfl rfl rfl ?_ ?_ <;> (intro hb; (try simp only [decide_eq_true_eq, decide_eq_false_iff_not, Bool.not_eq_true', Bool.not_eq_false', ne_eq, Decidable.not_not, Option.isNone_iff_eq_none, not_true_eq_false, not_false_eq_true] at hb); try (exfalso; omega)) <;> first | refine va_takeGA 15 rfl rfl rfl rfl rfl rfl rfl rfl ?_ | refine va_passGA 15 rfl rfl rfl rfl rfl rfl rfl rfl ?_)))
  refine va_oneG 14 (by kernel_rfl) rfl rfl rfl rfl rfl rfl (vo_call rfl rfl ?_)
  refine vc_mono (qtwinL_vc w0 _ _ hw) ?_
  rintro v L' ⟨a7, c7, rfl, rfl⟩
  refine ⟨.inr (SE.ent (by repeat' (first | exact SE.refl _ | refine SE.cons _ ?_ | refine SE.trans (se_drop _ _) ?_)) _), ?_⟩
  skip
  refine va_oneG 16 (by kernel_rfl) rfl rfl rfl rfl rfl rfl (vo_call rfl rfl ?_)
  refine vc_mono (rsameL_vc w0 _ (Ln.mk l.own a7 c7 l.xs) l ⟨h.own, h.ts⟩ h) ?_
  rintro v L' ⟨rfl, rfl⟩
  rw [decide_eq_true (show l.own = l.own ∧ l.xs = l.xs from ⟨rfl, rfl⟩)]
  refine ⟨.inr (SE.ent (by repeat' (first | exact SE.refl _ | refine SE.cons _ ?_ | refine SE.trans (se_drop _ _) ?_)) _), ?_⟩
  ((refine va_takeA 17 rfl rfl rfl rfl ?_) <;> (refine va_takeA 18 rfl rfl rfl rfl ?_) <;> (refine va_done (by kernel_rfl) ?_))
  repeat' (first | (refine goE ?_; intros) | (refine vl_caseG rfl rfl rfl rfl ?_ ?_ <;> (intro hb; (try simp only [decide_eq_true_eq, decide_eq_false_iff_not, Bool.not_eq_true', Bool.not_eq_false', ne_eq, Decidable.not_not, Option.isNone_iff_eq_none, not_true_eq_false, not_false_eq_true] at hb); try (exfalso; omega))) | (refine v_cond rfl ?_ ?_ <;> (intro hb; (try simp only [decide_eq_true_eq, decide_eq_false_iff_not, Bool.not_eq_true', Bool.not_eq_false', ne_eq, Decidable.not_not, Option.isNone_iff_eq_none, not_true_eq_false, not_false_eq_true] at hb); try (exfalso; omega))) | fail)
  rotate_left
  · simp at hb
  have hf5 : (Ln.mk o5 a5 c5 xs5).cells[0 + 32]? = some (.slice a5 xs5.length c5) := Ln.f1 (l := Ln.mk o5 a5 c5 xs5) q1
  refine v_loopF (Nat × List Tx) [4, 9, 10, 20, 26, 27, 28] rfl (fun y => [(29, .int .i64 y.1)]) (fun L0 y => L0.set 6 (own 77 99 a5 xs5.length c5 (txc y.2))) (fun y => y.1 ≤ xs5.length ∧ TsOk y.2 ∧ y.2.length = xs5.length) (fun y => xs5.length - y.1) (0, xs5) ⟨Nat.zero_le _, q2, rfl⟩ (by (repeat' (first | exact Sub.nil _ | refine Sub.cons rfl rfl ?_ | refine Sub.cons rfl ?_ ?_))) (Ent.refl _ _) ?_
  rintro ⟨i, zs⟩ ⟨hi, hz, hzl⟩
  dsimp only [List.set] at hi hz hzl ⊢
  have hxsl := q2.len
  by_cases hlt : i < xs5.length
  · have hzi : i < zs.length := by omega
    obtain ⟨hz2, hsp⟩ := hz.zero hzi
    have hpos := hz.pos i hzi
    have hfit : i * 99 + 64 + [Value.int .u64 0].length ≤ (txc zs).length := by have := hz.wide.mul i hzi; show i * 99 + 64 + 1 ≤ (flat Tx.cells zs).length; omega
    generalize hyy : ({ zs[i] with nonce := 0 } : Tx) = yy at hz2 hsp
    repeat' (first | (refine go1 ?_; intros) | (refine vl_caseG rfl rfl rfl rfl ?_ ?_ <;> (intro hb; (try simp only [decide_eq_true_eq, decide_eq_false_iff_not, Bool.not_eq_true', Bool.not_eq_false', ne_eq, Decidable.not_not, Option.isNone_iff_eq_none, not_true_eq_false, not_false_eq_true] at hb); try (exfalso; omega))) | (refine v_cond rfl ?_ ?_ <;> (intro hb; (try simp only [decide_eq_true_eq, decide_eq_false_iff_not, Bool.not_eq_true', Bool.not_eq_false', ne_eq, Decidable.not_not, Option.isNone_iff_eq_none, not_true_eq_false, not_false_eq_true] at hb); try (exfalso; omega))) | fail)
    rw [hsp]
    refine ⟨rfl, (i + 1, zs.set i yy), ⟨by omega, hz2, by rw [List.length_set]; exact hzl⟩, by dsimp only; omega, by (repeat' (first | exact Sub.nil _ | refine Sub.cons rfl rfl ?_ | refine Sub.cons rfl ?_ ?_)), Ent.refl _ _⟩
  obtain rfl : i = xs5.length := by omega
  repeat' (first | (refine go1 ?_; intros) | (refine vl_caseG rfl rfl rfl rfl ?_ ?_ <;> (intro hb; (try simp only [decide_eq_true_eq, decide_eq_false_iff_not, Bool.not_eq_true', Bool.not_eq_false', ne_eq, Decidable.not_not, Option.isNone_iff_eq_none, not_true_eq_false, not_false_eq_true] at hb); try (exfalso; omega))) | (refine v_cond rfl ?_ ?_ <;> (intro hb; (try simp only [decide_eq_true_eq, decide_eq_false_iff_not, Bool.not_eq_true', Bool.not_eq_false', ne_eq, Decidable.not_not, Option.isNone_iff_eq_none, not_true_eq_false, not_false_eq_true] at hb); try (exfalso; omega))) | fail)
  have hf1 : (Ln.mk o1 a1 c1 xs1).cells[0 + 32]? = some (.slice a1 xs1.length c1) := Ln.f1 (l := Ln.mk o1 a1 c1 xs1) p1
  refine v_loopF (Nat × List Tx) [4, 9, 10, 26, 27, 28] rfl (fun y => [(30, .int .i64 y.1)]) (fun L0 y => L0.set 14 (own 77 99 a1 xs1.length c1 (txc y.2))) (fun y => y.1 ≤ xs1.length ∧ TsOk y.2 ∧ y.2.length = xs1.length) (fun y => xs1.length - y.1) (0, xs1) ⟨Nat.zero_le _, p2, rfl⟩ (by (repeat' (first | exact Sub.nil _ | refine Sub.cons rfl rfl ?_ | refine Sub.cons rfl ?_ ?_))) (Ent.refl _ _) ?_
  rintro ⟨i, zs⟩ ⟨hi, hz, hzl⟩
  dsimp only [List.set] at hi hz hzl ⊢
  have hxsl := p2.len
  by_cases hlt : i < xs1.length
  · have hzi : i < zs.length := by omega
    obtain ⟨hz2, hsp⟩ := hz.zero hzi
    have hpos := hz.pos i hzi
    have hfit : i * 99 + 64 + [Value.int .u64 0].length ≤ (txc zs).length := by have := hz.wide.mul i hzi; show i * 99 + 64 + 1 ≤ (flat Tx.cells zs).length; omega
    generalize hyy : ({ zs[i] with nonce := 0 } : Tx) = yy at hz2 hsp
    repeat' (first | (refine go1 ?_; intros) | (refine vl_caseG rfl rfl rfl rfl ?_ ?_ <;> (intro hb; (try simp only [decide_eq_true_eq, decide_eq_false_iff_not, Bool.not_eq_true', Bool.not_eq_false', ne_eq, Decidable.not_not, Option.isNone_iff_eq_none, not_true_eq_false, not_false_eq_true] at hb); try (exfalso; omega))) | (refine v_cond rfl ?_ ?_ <;> (intro hb; (try simp only [decide_eq_true_eq, decide_eq_false_iff_not, Bool.not_eq_true', Bool.not_eq_false', ne_eq, Decidable.not_not, Option.isNone_iff_eq_none, not_true_eq_false, not_false_eq_true] at hb); try (exfalso; omega))) | fail)
    rw [hsp]
    refine ⟨rfl, (i + 1, zs.set i yy), ⟨by omega, hz2, by rw [List.length_set]; exact hzl⟩, by dsimp only; omega, by (repeat' (first | exact Sub.nil _ | refine Sub.cons rfl rfl ?_ | refine Sub.cons rfl ?_ ?_)), Ent.refl _ _⟩
  obtain rfl : i = xs1.length := by omega
  repeat' (first | (refine go1 ?_; intros) | (refine vl_caseG rfl rfl rfl rfl ?_ ?_ <;> (intro hb; (try simp only [decide_eq_true_eq, decide_eq_false_iff_not, Bool.not_eq_true', Bool.not_eq_false', ne_eq, Decidable.not_not, Option.isNone_iff_eq_none, not_true_eq_false, not_false_eq_true] at hb); try (exfalso; omega))) | (refine v_cond rfl ?_ ?_ <;> (intro hb; (try simp only [decide_eq_true_eq, decide_eq_false_iff_not, Bool.not_eq_true', Bool.not_eq_false', ne_eq, Decidable.not_not, Option.isNone_iff_eq_none, not_true_eq_false, not_false_eq_true] at hb); try (exfalso; omega))) | fail)
  refine vl_o rfl (vo_call rfl rfl ?_)
  refine vc_mono (rsameL_vc w0 _ (Ln.mk l.own a0 c0 l.xs) l hw h) ?_
  rintro v L' ⟨rfl, rfl⟩
  rw [decide_eq_true (show l.own = l.own ∧ l.xs = l.xs from ⟨rfl, rfl⟩)]
  repeat' (first | (refine goE ?_; intros) | (refine vl_caseG rfl rfl rfl rfl ?_ ?_ <;> (intro hb; (try simp only [decide_eq_true_eq, decide_eq_false_iff_not, Bool.not_eq_true', Bool.not_eq_false', ne_eq, Decidable.not_not, Option.isNone_iff_eq_none, not_true_eq_false, not_false_eq_true] at hb); try (exfalso; omega))) | (refine v_cond rfl ?_ ?_ <;> (intro hb; (try simp only [decide_eq_true_eq, decide_eq_false_iff_not, Bool.not_eq_true', Bool.not_eq_false', ne_eq, Decidable.not_not, Option.isNone_iff_eq_none, not_true_eq_false, not_false_eq_true] at hb); try (exfalso; omega))) | fail)
  exact rfl
end Go.Proofs.YtmfpiodcioakhaaDoor
