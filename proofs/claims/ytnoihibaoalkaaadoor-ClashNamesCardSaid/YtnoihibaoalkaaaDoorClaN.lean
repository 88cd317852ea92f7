/-
  The errors' numbers of clashes, and the chapter's examples.
-/
import Derived.Test.YtnoihibaoalkaaaDoorClaH
import Derived.Test.YtnoihibaoalkaaaDoorTPrD
import Derived.Test.YtnoihibaoalkaaaDoorTPtB
set_option linter.unusedVariables false
set_option linter.unusedSimpArgs false
namespace Go.Proofs.YtnoihibaoalkaaaDoor
open Go Go.RowKit
set_option linter.unusedVariables false
set_option linter.unusedSimpArgs false
open Classical

theorem prfA_isT (b : Nat) : (prfA b).isT = true := by
  unfold Prf.isT
  rw [prfA_may]
  simp [prfA]
theorem prfA_tl (b : Nat) : (prfA b).tl = [97] := by
  unfold Prf.tl
  rw [if_pos (prfA_isT b)]
  rfl
theorem seek_same (b c : Nat) : seekG (prfA b) (prfA c) = ([], [], 2) := by
  have h : unC (prfA b) (prfA c) = false := by
    unfold unC unB
    rw [prfA_isT, prfA_isT, prfA_tl, prfA_tl]
    simp
  unfold seekG
  rw [prfA_may, prfA_may, h, if_pos (show (true && true) = true from rfl), if_neg (by decide)]
/-- A proof of a key and a kind alone. -/
def prfV (k : Nat) (a : List UInt8) : Prf := ⟨a, k, z32, none, 0, [], none, 0, []⟩
theorem prfV_ok {k : Nat} {a : List UInt8} (hk : k < 256) (ha : a.length = 32) : (prfV k a).ok := ⟨ha, hk, z32_len, fun x hx => absurd hx (by simp [prfV]), by simp [prfV], by simp [prfV]⟩
theorem prfV_fill {a : List UInt8} (ha : a.length = 32) : fillS [(0, 32), (32, 1), (33, 32), (65, 1), (66, 1)] (bvs (List.replicate 32 0) ++ (.int .u8 0 :: (bvs (List.replicate 32 0) ++ [.slice none 0 0, .slice none 0 0]))) [(0, bvs a)] = (prfV 0 a).cells := by
  simp [fillS, splice, ha, prfV, Prf.cells, z32, List.drop_append, List.drop_of_length_le, List.take_append]
theorem prfV_may : (prfV 3 z32).may = false := by
  unfold Prf.may
  simp [Prf.may1, prfV]
theorem prfV_may0 (a : List UInt8) : (prfV 0 a).may = true := by simp [Prf.may, Prf.may1, prfV, zero32, z32]
theorem seek_f (b : Nat) : seekG (prfA b) (prfV 0 (dk 1)) = ([], [], 2) := by
  have h : unC (prfA b) (prfV 0 (dk 1)) = false := by
    unfold unC
    rw [decide_eq_false (show ¬ (prfA b).key = (prfV 0 (dk 1)).key from (by decide : ¬ List.replicate 32 (0 : UInt8) = dk 1))]
    rfl
  unfold seekG
  rw [prfA_may, prfV_may0, h, if_pos (show (true && true) = true from rfl), if_neg (by decide)]
theorem seek_g (b : Nat) : seekG (prfA b) (prfV 3 z32) = ([], [], 8) := by
  unfold seekG
  rw [prfA_may, prfV_may, if_neg (by decide)]
theorem of_i {es : List Nd} {s : Int} (hok : NsOk es) (hm : MayP es s) (hf : forP es s.toNat = [(z32, [97])]) (b : Nat) : ofG es s (prfA b) = ([], [], 6) := by
  have e1 := prfT_isT (k := (prfA b).key) hok rfl hm
  have e2 := prfT_tl (k := (prfA b).key) hok rfl hm
  have h : unC (prfT es s (prfA b).key) (prfA b) = false := by
    unfold unC unB
    rw [e1, e2, prfA_isT, prfA_tl]
    unfold hasT getT
    rw [if_pos hm, if_pos hm, hf]
    simp [has, getF, prfA, z32]
  unfold ofG
  rw [if_pos ⟨hm, prfA_may b⟩, h, if_neg (fun e => by cases e.2)]
theorem sha_ex : sha [0] ≠ leaf1 z32 [97] := by decide +kernel
theorem of_j {es : List Nd} {s : Int} (hm : MayP es s) (hf : forP es s.toNat = [(z32, [97])]) : ofG es s prf0 = ([], [], 6) := by
  have h : ¬ prf0.root = sumP es s.toNat := by
    have := sum_law es s.toNat 0 257 zb (fun _ _ => rfl) rfl hm.right
    rw [this, hf, prf0_root]
    exact sha_ex
  unfold ofG
  rw [if_pos ⟨hm, prf0_may⟩, if_neg (fun e => h e.1)]
theorem put_z : putF [] z32 [97] = [(z32, [97])] := by simp [putF, lowF, highF]
set_option maxRecDepth 100000 in
set_option maxHeartbeats 8000000 in
theorem clashNames_vc (w0 : World) [hK : RdA w0 (some ⟨0, 0, none⟩) (wds K64)] :
    VC Tryd.prog w0 4 [] [] fun v L' => v = .bool true := by
  haveI hA : ∀ b M [h : RdC w0 M (some ⟨b, 0, none⟩) [.int .u8 97]], RdC w0 M (prfA b).va (bvs (prfA b).vl) := fun b M h => h
  have hk1 := dk_len 1
  have hV1 := prfV_ok (k := 0) (by decide) hk1
  have hV3 := prfV_ok (k := 3) (by decide) z32_len
  have hV1l := Prf.len hV1
  have hV3l := Prf.len hV3
  refine vc_in rfl rfl ?_
  repeat' (first | (refine goB ?_; intros) | (refine vl_caseG rfl rfl rfl rfl ?_ ?_ <;> (intro hb; (try simp only [decide_eq_true_eq, decide_eq_false_iff_not, Bool.not_eq_true', Bool.not_eq_false', ne_eq, Decidable.not_not, Option.isNone_iff_eq_none, not_true_eq_false, not_false_eq_true] at hb); try (exfalso; omega))) | (refine v_cond rfl ?_ ?_ <;> (intro hb; (try simp only [decide_eq_true_eq, decide_eq_false_iff_not, Bool.not_eq_true', Bool.not_eq_false', ne_eq, Decidable.not_not, Option.isNone_iff_eq_none, not_true_eq_false, not_false_eq_true] at hb); try (exfalso; omega))) | fail)
  refine vl_o rfl (vo_call rfl rfl ?_)
  refine vc_mono (lown9_vc w0 _) ?_
  rintro v L' ⟨b1, rfl, rfl⟩
  have l1 := Prf.len (prfA_ok b1)
  repeat' (first | (refine goB ?_; intros) | (refine vl_caseG rfl rfl rfl rfl ?_ ?_ <;> (intro hb; (try simp only [decide_eq_true_eq, decide_eq_false_iff_not, Bool.not_eq_true', Bool.not_eq_false', ne_eq, Decidable.not_not, Option.isNone_iff_eq_none, not_true_eq_false, not_false_eq_true] at hb); try (exfalso; omega))) | (refine v_cond rfl ?_ ?_ <;> (intro hb; (try simp only [decide_eq_true_eq, decide_eq_false_iff_not, Bool.not_eq_true', Bool.not_eq_false', ne_eq, Decidable.not_not, Option.isNone_iff_eq_none, not_true_eq_false, not_false_eq_true] at hb); try (exfalso; omega))) | fail)
  refine vl_o rfl (vo_call rfl rfl ?_)
  refine vc_mono (lown9_vc w0 _) ?_
  rintro v L' ⟨b2, rfl, rfl⟩
  have l2 := Prf.len (prfA_ok b2)
  repeat' (first | (refine goB ?_; intros) | (refine vl_caseG rfl rfl rfl rfl ?_ ?_ <;> (intro hb; (try simp only [decide_eq_true_eq, decide_eq_false_iff_not, Bool.not_eq_true', Bool.not_eq_false', ne_eq, Decidable.not_not, Option.isNone_iff_eq_none, not_true_eq_false, not_false_eq_true] at hb); try (exfalso; omega))) | (refine v_cond rfl ?_ ?_ <;> (intro hb; (try simp only [decide_eq_true_eq, decide_eq_false_iff_not, Bool.not_eq_true', Bool.not_eq_false', ne_eq, Decidable.not_not, Option.isNone_iff_eq_none, not_true_eq_false, not_false_eq_true] at hb); try (exfalso; omega))) | fail)
  refine vl_o rfl (vo_call rfl rfl ?_)
  refine vc_mono (cseekG_vc (hr2 := rdC_nil _ _ _) (hs2 := rdC_nil _ _ _) w0 _ (prfA b1) (prfA b2) (prfA_ok b1) (prfA_ok b2)) ?_
  rintro v L' ⟨x1, d1, y1, e1, rfl, rfl⟩
  rw [seek_same]
  dsimp only
  repeat' (first | (refine goB ?_; intros) | (refine vl_caseG rfl rfl rfl rfl ?_ ?_ <;> (intro hb; (try simp only [decide_eq_true_eq, decide_eq_false_iff_not, Bool.not_eq_true', Bool.not_eq_false', ne_eq, Decidable.not_not, Option.isNone_iff_eq_none, not_true_eq_false, not_false_eq_true] at hb); try (exfalso; omega))) | (refine v_cond rfl ?_ ?_ <;> (intro hb; (try simp only [decide_eq_true_eq, decide_eq_false_iff_not, Bool.not_eq_true', Bool.not_eq_false', ne_eq, Decidable.not_not, Option.isNone_iff_eq_none, not_true_eq_false, not_false_eq_true] at hb); try (exfalso; omega))) | fail)
  refine vl_o rfl (vo_call rfl rfl ?_)
  refine vc_mono (lown9_vc w0 _) ?_
  rintro v L' ⟨b3, rfl, rfl⟩
  have l3 := Prf.len (prfA_ok b3)
  repeat' (first | (refine goB ?_; intros) | (refine vl_caseG rfl rfl rfl rfl ?_ ?_ <;> (intro hb; (try simp only [decide_eq_true_eq, decide_eq_false_iff_not, Bool.not_eq_true', Bool.not_eq_false', ne_eq, Decidable.not_not, Option.isNone_iff_eq_none, not_true_eq_false, not_false_eq_true] at hb); try (exfalso; omega))) | (refine v_cond rfl ?_ ?_ <;> (intro hb; (try simp only [decide_eq_true_eq, decide_eq_false_iff_not, Bool.not_eq_true', Bool.not_eq_false', ne_eq, Decidable.not_not, Option.isNone_iff_eq_none, not_true_eq_false, not_false_eq_true] at hb); try (exfalso; omega))) | fail)
  refine vl_q rfl rfl rfl rfl (vq_dk (c := 1) rfl) ?_
  repeat' (first | (refine goB ?_; intros) | (refine vl_caseG rfl rfl rfl rfl ?_ ?_ <;> (intro hb; (try simp only [decide_eq_true_eq, decide_eq_false_iff_not, Bool.not_eq_true', Bool.not_eq_false', ne_eq, Decidable.not_not, Option.isNone_iff_eq_none, not_true_eq_false, not_false_eq_true] at hb); try (exfalso; omega))) | (refine v_cond rfl ?_ ?_ <;> (intro hb; (try simp only [decide_eq_true_eq, decide_eq_false_iff_not, Bool.not_eq_true', Bool.not_eq_false', ne_eq, Decidable.not_not, Option.isNone_iff_eq_none, not_true_eq_false, not_false_eq_true] at hb); try (exfalso; omega))) | fail)
  refine vl_q rfl rfl rfl rfl (vq_buildP (cs := (prfV 0 (dk 1)).cells) rfl (by simp [okS, Value.cells, hk1]) (prfV_fill hk1)) ?_
  repeat' (first | (refine goB ?_; intros) | (refine vl_caseG rfl rfl rfl rfl ?_ ?_ <;> (intro hb; (try simp only [decide_eq_true_eq, decide_eq_false_iff_not, Bool.not_eq_true', Bool.not_eq_false', ne_eq, Decidable.not_not, Option.isNone_iff_eq_none, not_true_eq_false, not_false_eq_true] at hb); try (exfalso; omega))) | (refine v_cond rfl ?_ ?_ <;> (intro hb; (try simp only [decide_eq_true_eq, decide_eq_false_iff_not, Bool.not_eq_true', Bool.not_eq_false', ne_eq, Decidable.not_not, Option.isNone_iff_eq_none, not_true_eq_false, not_false_eq_true] at hb); try (exfalso; omega))) | fail)
  refine vl_o rfl (vo_call rfl rfl ?_)
  refine vc_mono (cseekG_vc (hr2 := rdC_nil _ _ _) (hs := rdC_nil _ _ _) (hs2 := rdC_nil _ _ _) w0 _ (prfA b3) (prfV 0 (dk 1)) (prfA_ok b3) hV1) ?_
  rintro v L' ⟨x2, d2, y2, e2, rfl, rfl⟩
  rw [seek_f]
  dsimp only
  repeat' (first | (refine goB ?_; intros) | (refine vl_caseG rfl rfl rfl rfl ?_ ?_ <;> (intro hb; (try simp only [decide_eq_true_eq, decide_eq_false_iff_not, Bool.not_eq_true', Bool.not_eq_false', ne_eq, Decidable.not_not, Option.isNone_iff_eq_none, not_true_eq_false, not_false_eq_true] at hb); try (exfalso; omega))) | (refine v_cond rfl ?_ ?_ <;> (intro hb; (try simp only [decide_eq_true_eq, decide_eq_false_iff_not, Bool.not_eq_true', Bool.not_eq_false', ne_eq, Decidable.not_not, Option.isNone_iff_eq_none, not_true_eq_false, not_false_eq_true] at hb); try (exfalso; omega))) | fail)
  refine vl_o rfl (vo_call rfl rfl ?_)
  refine vc_mono (lown9_vc w0 _) ?_
  rintro v L' ⟨b4, rfl, rfl⟩
  have l4 := Prf.len (prfA_ok b4)
  repeat' (first | (refine goB ?_; intros) | (refine vl_caseG rfl rfl rfl rfl ?_ ?_ <;> (intro hb; (try simp only [decide_eq_true_eq, decide_eq_false_iff_not, Bool.not_eq_true', Bool.not_eq_false', ne_eq, Decidable.not_not, Option.isNone_iff_eq_none, not_true_eq_false, not_false_eq_true] at hb); try (exfalso; omega))) | (refine v_cond rfl ?_ ?_ <;> (intro hb; (try simp only [decide_eq_true_eq, decide_eq_false_iff_not, Bool.not_eq_true', Bool.not_eq_false', ne_eq, Decidable.not_not, Option.isNone_iff_eq_none, not_true_eq_false, not_false_eq_true] at hb); try (exfalso; omega))) | fail)
  refine vl_q rfl rfl rfl rfl (vq_buildP (cs := (prfV 3 z32).cells) rfl (by simp [okS, Value.cells]) rfl) ?_
  repeat' (first | (refine goB ?_; intros) | (refine vl_caseG rfl rfl rfl rfl ?_ ?_ <;> (intro hb; (try simp only [decide_eq_true_eq, decide_eq_false_iff_not, Bool.not_eq_true', Bool.not_eq_false', ne_eq, Decidable.not_not, Option.isNone_iff_eq_none, not_true_eq_false, not_false_eq_true] at hb); try (exfalso; omega))) | (refine v_cond rfl ?_ ?_ <;> (intro hb; (try simp only [decide_eq_true_eq, decide_eq_false_iff_not, Bool.not_eq_true', Bool.not_eq_false', ne_eq, Decidable.not_not, Option.isNone_iff_eq_none, not_true_eq_false, not_false_eq_true] at hb); try (exfalso; omega))) | fail)
  refine vl_o rfl (vo_call rfl rfl ?_)
  refine vc_mono (cseekG_vc (hr2 := rdC_nil _ _ _) (hs := rdC_nil _ _ _) (hs2 := rdC_nil _ _ _) w0 _ (prfA b4) (prfV 3 z32) (prfA_ok b4) hV3) ?_
  rintro v L' ⟨x3, d3, y3, e3, rfl, rfl⟩
  rw [seek_g]
  dsimp only
  repeat' (first | (refine goB ?_; intros) | (refine vl_caseG rfl rfl rfl rfl ?_ ?_ <;> (intro hb; (try simp only [decide_eq_true_eq, decide_eq_false_iff_not, Bool.not_eq_true', Bool.not_eq_false', ne_eq, Decidable.not_not, Option.isNone_iff_eq_none, not_true_eq_false, not_false_eq_true] at hb); try (exfalso; omega))) | (refine v_cond rfl ?_ ?_ <;> (intro hb; (try simp only [decide_eq_true_eq, decide_eq_false_iff_not, Bool.not_eq_true', Bool.not_eq_false', ne_eq, Decidable.not_not, Option.isNone_iff_eq_none, not_true_eq_false, not_false_eq_true] at hb); try (exfalso; omega))) | fail)
  refine vl_o rfl (vo_call rfl rfl ?_)
  refine vc_mono (tput_vc (hr := rdC_nil _ _ _) (hv := rdNs_nil _ _) w0 _ none 0 [] 0 (List.replicate 32 0) _ _ [97] rfl rfl nsOk_nil rfl (by decide)) ?_
  rintro v L' ⟨a2, c2, es, s, rfl, hes, rfl⟩
  have e0 : tputE [] 0 [97] = 0 := by
    unfold tputE
    rw [if_pos ⟨tw_may, by decide⟩]
    rfl
  rw [e0, if_pos rfl, show forP [] (Int.toNat 0) = [] by rw [show Int.toNat 0 = 0 from rfl, forP], show putF [] (List.replicate 32 0) [97] = [(z32, [97])] from put_z] at hes
  rw [e0]
  have hi := of_i hes.ok hes.may hes.for'
  have hj := of_j hes.may hes.for'
  have heo := hes.ok
  refine vl_ent (L' := ownNs a2 c2 es :: vnA es :: []) (sei _ _ _) ?_
  repeat' (first | (refine goB ?_; intros) | (refine vl_caseG rfl rfl rfl rfl ?_ ?_ <;> (intro hb; (try simp only [decide_eq_true_eq, decide_eq_false_iff_not, Bool.not_eq_true', Bool.not_eq_false', ne_eq, Decidable.not_not, Option.isNone_iff_eq_none, not_true_eq_false, not_false_eq_true] at hb); try (exfalso; omega))) | (refine v_cond rfl ?_ ?_ <;> (intro hb; (try simp only [decide_eq_true_eq, decide_eq_false_iff_not, Bool.not_eq_true', Bool.not_eq_false', ne_eq, Decidable.not_not, Option.isNone_iff_eq_none, not_true_eq_false, not_false_eq_true] at hb); try (exfalso; omega))) | fail)
  (refine v_draw0 [] (by kernel_rfl) ?_ <;> (refine va_takeA 0 rfl rfl rfl rfl ?_))
  refine va_one 1 (by kernel_rfl) rfl rfl (vo_call rfl rfl ?_)
  refine vc_mono (lown9_vc w0 _) ?_
  rintro v L' ⟨b5, rfl, rfl⟩
  have l5 := Prf.len (prfA_ok b5)
  refine ⟨.inr (SE.ent (by repeat' (first | exact SE.refl _ | refine SE.cons _ ?_ | refine SE.trans (se_drop _ _) ?_)) _), ?_⟩
  skip
  refine va_one 2 (by kernel_rfl) rfl rfl (vo_call rfl rfl ?_)
  refine vc_mono (cof_vc (hr2 := rdC_nil _ _ _) w0 _ a2 c2 es s (prfA b5) rfl heo (prfA_ok b5)) ?_
  rintro v L' ⟨x4, d4, y4, e4, rfl, rfl⟩
  rw [hi]
  dsimp only
  refine ⟨.inr (SE.ent (by repeat' (first | exact SE.refl _ | refine SE.cons _ ?_ | refine SE.trans (se_drop _ _) ?_)) _), ?_⟩
  ((refine va_takeA 3 rfl rfl rfl rfl ?_) <;> (refine va_takeA 4 rfl rfl rfl rfl ?_) <;> (refine va_takeA 5 rfl rfl rfl rfl ?_) <;> (refine va_takeA 6 rfl rfl rfl rfl ?_) <;> (refine va_takeA 7 rfl rfl rfl rfl ?_) <;> (refine va_takeA 8 rfl rfl rfl rfl ?_) <;> (refine va_takeA 9 rfl rfl rfl rfl ?_) <;> (refine va_done (by kernel_rfl) ?_))
  repeat' (first | (refine goB ?_; intros) | (refine vl_caseG rfl rfl rfl rfl ?_ ?_ <;> (intro hb; (try simp only [decide_eq_true_eq, decide_eq_false_iff_not, Bool.not_eq_true', Bool.not_eq_false', ne_eq, Decidable.not_not, Option.isNone_iff_eq_none, not_true_eq_false, not_false_eq_true] at hb); try (exfalso; omega))) | (refine v_cond rfl ?_ ?_ <;> (intro hb; (try simp only [decide_eq_true_eq, decide_eq_false_iff_not, Bool.not_eq_true', Bool.not_eq_false', ne_eq, Decidable.not_not, Option.isNone_iff_eq_none, not_true_eq_false, not_false_eq_true] at hb); try (exfalso; omega))) | fail)
  refine vl_o rfl (vo_call rfl rfl ?_)
  show VC _ _ _ [_, .agg prf0.cells.toArray] _ _
  refine vc_mono (cof_vc (hr := rdC_nil _ _ _) (hr2 := rdC_nil _ _ _) w0 _ a2 c2 es s prf0 rfl heo prf0_ok) ?_
  rintro v L' ⟨x5, d5, y5, e5, rfl, rfl⟩
  rw [hj]
  dsimp only
  repeat' (first | (refine goB ?_; intros) | (refine vl_caseG rfl rfl rfl rfl ?_ ?_ <;> (intro hb; (try simp only [decide_eq_true_eq, decide_eq_false_iff_not, Bool.not_eq_true', Bool.not_eq_false', ne_eq, Decidable.not_not, Option.isNone_iff_eq_none, not_true_eq_false, not_false_eq_true] at hb); try (exfalso; omega))) | (refine v_cond rfl ?_ ?_ <;> (intro hb; (try simp only [decide_eq_true_eq, decide_eq_false_iff_not, Bool.not_eq_true', Bool.not_eq_false', ne_eq, Decidable.not_not, Option.isNone_iff_eq_none, not_true_eq_false, not_false_eq_true] at hb); try (exfalso; omega))) | fail)
  refine vl_o rfl (vo_call rfl rfl ?_)
  refine vc_mono (lalive9_vc w0 _) ?_
  rintro v L' ⟨rfl, rfl⟩
  repeat' (first | (refine goB ?_; intros) | (refine vl_caseG rfl rfl rfl rfl ?_ ?_ <;> (intro hb; (try simp only [decide_eq_true_eq, decide_eq_false_iff_not, Bool.not_eq_true', Bool.not_eq_false', ne_eq, Decidable.not_not, Option.isNone_iff_eq_none, not_true_eq_false, not_false_eq_true] at hb); try (exfalso; omega))) | (refine v_cond rfl ?_ ?_ <;> (intro hb; (try simp only [decide_eq_true_eq, decide_eq_false_iff_not, Bool.not_eq_true', Bool.not_eq_false', ne_eq, Decidable.not_not, Option.isNone_iff_eq_none, not_true_eq_false, not_false_eq_true] at hb); try (exfalso; omega))) | fail)
  exact rfl
end Go.Proofs.YtnoihibaoalkaaaDoor
