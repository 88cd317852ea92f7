/-
  slices.Insert and slices.Delete, of pairs. Pairs: twins, and whether two are the same. Pairs: with a value for a key, and without a key.
-/
import Derived.Test.YtmaimkbppnpbnaaDoorGK
import Derived.Test.YtmaimkbppnpbnaaDoorGI
set_option linter.unusedVariables false
set_option linter.unusedSimpArgs false
namespace Go.Proofs.YtmaimkbppnpbnaaDoor
open Go Go.RowKit
set_option linter.unusedVariables false
set_option linter.unusedSimpArgs false

abbrev ownQs (a : Option Addr) (cap : Nat) (xs : List PR) : Asn := own 62 33 a xs.length cap (flat PR.cells xs)
theorem prins_flat {ws : List PR} (x : PR) (at' : Nat) : flat PR.cells (ws.take at' ++ x :: ws.drop at') = flat PR.cells (ws.take at') ++ (PR.cells x ++ flat PR.cells (ws.drop at')) := by
  rw [flat_append, flat_cons]
theorem prins_len {ws : List PR} (x : PR) {at' : Nat} (h : at' ≤ ws.length) : (ws.take at' ++ x :: ws.drop at').length = ws.length + 1 := by
  simp; omega

set_option maxRecDepth 100000 in
set_option maxHeartbeats 4000000 in
theorem prins_vc (w0 : World) (L : List Asn) (a : Option Addr) (c : Nat) (ws : List PR) (at' : Nat) (g : Nat) (x : PR) {n : Nat} (hn : n = ws.length) (hat : at' ≤ ws.length) (hw : Wide PR.cells 33 ws) (hx : (PR.cells x).length = 33) (hlen : ws.length ≤ 1000000) :
    VC Tryd.prog w0 85 [.slice a n c, .int .i64 at', .slice (some ⟨g, 0, none⟩) 1 1] (own 62 33 (some ⟨g, 0, none⟩) 1 1 (PR.cells x) :: ownQs a c ws :: L) fun v L' => ∃ a' c', v = .slice a' (ws.length + 1) c' ∧ L' = ownQs a' c' (ws.take at' ++ x :: ws.drop at') :: L := by
  subst hn
  refine vc_know (φ := ws.length ≤ c) (fun w hs => (hs.ownLen 1 rfl).2.1) (fun hc => ?_)
  have hfin : ∀ (a' : Option Addr) (c' : Nat) (L0 : List Asn), ownQs a' c' (ws.take at' ++ x :: ws.drop at') :: L0 = own 62 33 a' (ws.length + 1) c' (flat PR.cells (ws.take at') ++ (PR.cells x ++ flat PR.cells (ws.drop at'))) :: L0 := by
    intro a' c' L0
    unfold ownQs
    rw [prins_flat, prins_len x hat]
  have hT : (flat PR.cells (ws.take at')).length = at' * 33 := by
    rw [(hw.sub (fun y hy => List.mem_of_mem_take hy)).len, List.length_take, Nat.min_eq_left hat]
  have hD : (flat PR.cells (ws.drop at')).length = (ws.length - at') * 33 := by
    rw [(hw.sub (fun y hy => List.mem_of_mem_drop hy)).len, List.length_drop]
  have hTD : flat PR.cells ws = flat PR.cells (ws.take at') ++ flat PR.cells (ws.drop at') := by rw [← flat_append, List.take_append_drop]
  by_cases hA : at' = ws.length
  · refine vc_ent ?_
    refine vc_in rfl rfl ?_
    repeat' (first | (refine go1 ?_; intros) | (refine vl_caseG rfl rfl rfl rfl ?_ ?_ <;> (intro hb; (try simp only [decide_eq_true_eq, decide_eq_false_iff_not, Bool.not_eq_true', Bool.not_eq_false', ne_eq, Decidable.not_not, Option.isNone_iff_eq_none, not_true_eq_false, not_false_eq_true] at hb); try (exfalso; omega))) | (refine v_cond rfl ?_ ?_ <;> (intro hb; (try simp only [decide_eq_true_eq, decide_eq_false_iff_not, Bool.not_eq_true', Bool.not_eq_false', ne_eq, Decidable.not_not, Option.isNone_iff_eq_none, not_true_eq_false, not_false_eq_true] at hb); try (exfalso; omega))) | fail)
    rename_i a' c' _ _
    refine ⟨ownQs a' c' (ws.take at' ++ x :: ws.drop at') :: L, ?_, a', c', rfl, rfl⟩
    rw [hfin, hA, List.take_length, List.drop_length, flat_nil, List.append_nil]
    exact sei _ _ _
  by_cases hB : c < ws.length + 1
  · refine vc_ent ?_
    refine vc_in rfl rfl ?_
    repeat' (first | (refine go1 ?_; intros) | (refine vl_caseG rfl rfl rfl rfl ?_ ?_ <;> (intro hb; (try simp only [decide_eq_true_eq, decide_eq_false_iff_not, Bool.not_eq_true', Bool.not_eq_false', ne_eq, Decidable.not_not, Option.isNone_iff_eq_none, not_true_eq_false, not_false_eq_true] at hb); try (exfalso; omega))) | (refine v_cond rfl ?_ ?_ <;> (intro hb; (try simp only [decide_eq_true_eq, decide_eq_false_iff_not, Bool.not_eq_true', Bool.not_eq_false', ne_eq, Decidable.not_not, Option.isNone_iff_eq_none, not_true_eq_false, not_false_eq_true] at hb); try (exfalso; omega))) | fail)
    refine vl_q rfl rfl rfl rfl (vq_capSl rfl) ?_
    repeat' (first | (refine go1 ?_; intros) | (refine vl_caseG rfl rfl rfl rfl ?_ ?_ <;> (intro hb; (try simp only [decide_eq_true_eq, decide_eq_false_iff_not, Bool.not_eq_true', Bool.not_eq_false', ne_eq, Decidable.not_not, Option.isNone_iff_eq_none, not_true_eq_false, not_false_eq_true] at hb); try (exfalso; omega))) | (refine v_cond rfl ?_ ?_ <;> (intro hb; (try simp only [decide_eq_true_eq, decide_eq_false_iff_not, Bool.not_eq_true', Bool.not_eq_false', ne_eq, Decidable.not_not, Option.isNone_iff_eq_none, not_true_eq_false, not_false_eq_true] at hb); try (exfalso; omega))) | fail)
    rw [subA_0, Nat.sub_zero, Nat.sub_zero]
    haveI rT : RdC w0 (own 62 33 (some ⟨g, 0, none⟩) 1 1 (PR.cells x) :: ownQs a c ws :: L) a (flat PR.cells (ws.take at')) := rdF_take hw at'
    refine vl_o rfl (vo_appendZ (hr := rT) (k := ws.length + 1 - at') rfl rfl rfl rfl hT (by omega) (by omega) (by unfold maxLen; omega) (by omega) ?_)
    intro g2 c2 zs hz hc2
    rw [show at' + (ws.length + 1 - at') = ws.length + 1 by omega] at hc2 ⊢
    haveI rD : RdC w0 (own 62 33 (some ⟨g2, 0, none⟩) (ws.length + 1) c2 (flat PR.cells (ws.take at') ++ (PR.cells x ++ zs.drop 33)) :: own 62 33 (some ⟨g, 0, none⟩) 1 1 (PR.cells x) :: ownQs a c ws :: L) (subA a at' c 33) (flat PR.cells (ws.drop at')) := rdF_drop hw at' c hc
    repeat' (first | (refine go1 ?_; intros) | (refine vl_caseG rfl rfl rfl rfl ?_ ?_ <;> (intro hb; (try simp only [decide_eq_true_eq, decide_eq_false_iff_not, Bool.not_eq_true', Bool.not_eq_false', ne_eq, Decidable.not_not, Option.isNone_iff_eq_none, not_true_eq_false, not_false_eq_true] at hb); try (exfalso; omega))) | (refine v_cond rfl ?_ ?_ <;> (intro hb; (try simp only [decide_eq_true_eq, decide_eq_false_iff_not, Bool.not_eq_true', Bool.not_eq_false', ne_eq, Decidable.not_not, Option.isNone_iff_eq_none, not_true_eq_false, not_false_eq_true] at hb); try (exfalso; omega))) | fail)
    have hmin : min 1 (ws.length + 1 - at') = 1 := by omega
    have hsp : splice (flat PR.cells (ws.take at') ++ zs) (at' * 33) (PR.cells x) = flat PR.cells (ws.take at') ++ (PR.cells x ++ zs.drop 33) := by
      have e : zs = zs.take 33 ++ zs.drop 33 := by rw [List.take_append_drop]
      conv => lhs; rw [e]
      exact splice_mid _ _ _ _ _ hT (by rw [hx, List.length_take, hz]; omega)
    refine vl_o rfl (vo_copyO (lo := at') (q := c2) rfl rfl rfl (by omega) (by simp; omega) (us := PR.cells x) (by rw [hmin, Nat.one_mul, ← hx, List.take_length]) (by rw [hmin, hx]) (by simp only [List.length_append, hT, hx, hz]; omega) hsp ?_)
    rw [hmin]
    repeat' (first | (refine go1 ?_; intros) | (refine vl_caseG rfl rfl rfl rfl ?_ ?_ <;> (intro hb; (try simp only [decide_eq_true_eq, decide_eq_false_iff_not, Bool.not_eq_true', Bool.not_eq_false', ne_eq, Decidable.not_not, Option.isNone_iff_eq_none, not_true_eq_false, not_false_eq_true] at hb); try (exfalso; omega))) | (refine v_cond rfl ?_ ?_ <;> (intro hb; (try simp only [decide_eq_true_eq, decide_eq_false_iff_not, Bool.not_eq_true', Bool.not_eq_false', ne_eq, Decidable.not_not, Option.isNone_iff_eq_none, not_true_eq_false, not_false_eq_true] at hb); try (exfalso; omega))) | fail)
    have hmin2 : min (ws.length - at') (ws.length + 1 - (at' + 1)) = ws.length - at' := by omega
    have hsp2 : splice (flat PR.cells (ws.take at') ++ (PR.cells x ++ zs.drop 33)) ((at' + 1) * 33) (flat PR.cells (ws.drop at')) = flat PR.cells (ws.take at') ++ (PR.cells x ++ flat PR.cells (ws.drop at')) := by
      have := splice_mid (flat PR.cells (ws.take at') ++ PR.cells x) (zs.drop 33) [] (flat PR.cells (ws.drop at')) ((at' + 1) * 33) (by rw [List.length_append, hT, hx]; omega) (by rw [hD, List.length_drop, hz]; omega)
      simpa using this
    refine v_draw0 [8] (by kernel_rfl) ?_
    refine va_takeA 0 rfl rfl rfl rfl ?_
    refine va_takeA 1 rfl rfl rfl rfl ?_
    refine va_takeA 2 rfl rfl rfl rfl ?_
    refine va_takeA 3 rfl rfl rfl rfl ?_
    refine va_takeA 4 rfl rfl rfl rfl ?_
    refine va_takeA 5 rfl rfl rfl rfl ?_
    refine va_takeA 6 rfl rfl rfl rfl ?_
    refine va_takeA 7 rfl rfl rfl rfl ?_
    refine va_one 8 (by kernel_rfl) rfl rfl ?_
    refine vo_copyO (hr := rD) (lo := at' + 1) (q := c2) rfl rfl rfl (by omega) (by simp only [List.length_append, hT, hx, List.length_drop, hz]; omega) (us := flat PR.cells (ws.drop at')) (by rw [hmin2, ← hD, List.take_length]) (by rw [hmin2, hD]) (by simp only [List.length_append, hT, hx, hD, List.length_drop, hz]; omega) hsp2 ?_
    refine ⟨.inl (by kernel_rfl), ?_⟩
    refine va_done (by kernel_rfl) ?_
    skip
    repeat' (first | (refine go1 ?_; intros) | (refine vl_caseG rfl rfl rfl rfl ?_ ?_ <;> (intro hb; (try simp only [decide_eq_true_eq, decide_eq_false_iff_not, Bool.not_eq_true', Bool.not_eq_false', ne_eq, Decidable.not_not, Option.isNone_iff_eq_none, not_true_eq_false, not_false_eq_true] at hb); try (exfalso; omega))) | (refine v_cond rfl ?_ ?_ <;> (intro hb; (try simp only [decide_eq_true_eq, decide_eq_false_iff_not, Bool.not_eq_true', Bool.not_eq_false', ne_eq, Decidable.not_not, Option.isNone_iff_eq_none, not_true_eq_false, not_false_eq_true] at hb); try (exfalso; omega))) | fail)
    refine ⟨ownQs (some ⟨g2, 0, none⟩) c2 (ws.take at' ++ x :: ws.drop at') :: L, ?_, some ⟨g2, 0, none⟩, c2, rfl, rfl⟩
    rw [hfin]
    exact sei _ _ _
  · refine vc_ex (fun w hs => st_room _ hs) ?_
    rintro ⟨ys, hy⟩
    dsimp only
    have hYl : (flat PR.cells ws ++ ys).length = c * 33 := by rw [List.length_append, hw.len, hy, ← Nat.add_mul]; congr 1; omega
    have hYd : (flat PR.cells ws ++ ys).drop (at' * 33) = flat PR.cells (ws.drop at') ++ ys := by rw [hTD, List.append_assoc, ← hT, List.drop_left]
    haveI rD : RdC w0 (own 62 33 (some ⟨g, 0, none⟩) 1 1 (PR.cells x) :: own 62 33 a c c (flat PR.cells ws ++ ys) :: L) (subA a at' c 33) (flat PR.cells (ws.drop at') ++ ys) := ⟨fun w hs => (hs.rcOwn 1 rfl).sub at' c 33 _ (fun j u hu => by rw [← List.getElem?_drop, hYd]; exact hu) (fun e => by omega)⟩
    refine vc_ent ?_
    refine vc_in rfl rfl ?_
    repeat' (first | (refine go1 ?_; intros) | (refine vl_caseG rfl rfl rfl rfl ?_ ?_ <;> (intro hb; (try simp only [decide_eq_true_eq, decide_eq_false_iff_not, Bool.not_eq_true', Bool.not_eq_false', ne_eq, Decidable.not_not, Option.isNone_iff_eq_none, not_true_eq_false, not_false_eq_true] at hb); try (exfalso; omega))) | (refine v_cond rfl ?_ ?_ <;> (intro hb; (try simp only [decide_eq_true_eq, decide_eq_false_iff_not, Bool.not_eq_true', Bool.not_eq_false', ne_eq, Decidable.not_not, Option.isNone_iff_eq_none, not_true_eq_false, not_false_eq_true] at hb); try (exfalso; omega))) | fail)
    refine vl_q rfl rfl rfl rfl (vq_capSl rfl) ?_
    repeat' (first | (refine go1 ?_; intros) | (refine vl_caseG rfl rfl rfl rfl ?_ ?_ <;> (intro hb; (try simp only [decide_eq_true_eq, decide_eq_false_iff_not, Bool.not_eq_true', Bool.not_eq_false', ne_eq, Decidable.not_not, Option.isNone_iff_eq_none, not_true_eq_false, not_false_eq_true] at hb); try (exfalso; omega))) | (refine v_cond rfl ?_ ?_ <;> (intro hb; (try simp only [decide_eq_true_eq, decide_eq_false_iff_not, Bool.not_eq_true', Bool.not_eq_false', ne_eq, Decidable.not_not, Option.isNone_iff_eq_none, not_true_eq_false, not_false_eq_true] at hb); try (exfalso; omega))) | fail)
    rw [subA_0, Nat.sub_zero, Nat.sub_zero]
    refine vl_o rfl (vo_overlaps (tS := 48) (tR := 4) rfl rfl rfl (by rw [hYl]; omega) rfl Tryd.func118 (by kernel_rfl) (by kernel_rfl) (by kernel_rfl) (by kernel_rfl) ?_)
    repeat' (first | (refine go1 ?_; intros) | (refine vl_caseG rfl rfl rfl rfl ?_ ?_ <;> (intro hb; (try simp only [decide_eq_true_eq, decide_eq_false_iff_not, Bool.not_eq_true', Bool.not_eq_false', ne_eq, Decidable.not_not, Option.isNone_iff_eq_none, not_true_eq_false, not_false_eq_true] at hb); try (exfalso; omega))) | (refine v_cond rfl ?_ ?_ <;> (intro hb; (try simp only [decide_eq_true_eq, decide_eq_false_iff_not, Bool.not_eq_true', Bool.not_eq_false', ne_eq, Decidable.not_not, Option.isNone_iff_eq_none, not_true_eq_false, not_false_eq_true] at hb); try (exfalso; omega))) | fail)
    have hmin : min (ws.length + 1 - at') (ws.length + 1 - (at' + 1)) = ws.length - at' := by omega
    have hD0 : (flat PR.cells (ws.drop at') ++ ys).take ((ws.length - at') * 33) = flat PR.cells (ws.drop at') := by rw [← hD, List.take_left]
    obtain ⟨y1, y3, hY, hy1⟩ : ∃ y1 y3, flat PR.cells (ws.drop at') ++ ys = y1 ++ (((flat PR.cells (ws.drop at') ++ ys).drop 33).take ((ws.length - at') * 33) ++ y3) ∧ y1.length = 33 := by
      refine ⟨(flat PR.cells (ws.drop at') ++ ys).take 33, ((flat PR.cells (ws.drop at') ++ ys).drop 33).drop ((ws.length - at') * 33), by rw [List.take_append_drop, List.take_append_drop], ?_⟩
      simp only [List.length_take, List.length_append, hD, hy]
      omega
    have hy2 : (((flat PR.cells (ws.drop at') ++ ys).drop 33).take ((ws.length - at') * 33)).length = (ws.length - at') * 33 := by
      simp only [List.length_take, List.length_drop, List.length_append, hD, hy]
      omega
    have hsp : splice (flat PR.cells ws ++ ys) ((at' + 1) * 33) (flat PR.cells (ws.drop at')) = (flat PR.cells (ws.take at') ++ (y1 ++ (flat PR.cells (ws.drop at') ++ y3))) := by
      rw [hTD, List.append_assoc, hY]
      have := splice_mid (flat PR.cells (ws.take at') ++ y1) (((flat PR.cells (ws.drop at') ++ ys).drop 33).take ((ws.length - at') * 33)) y3 (flat PR.cells (ws.drop at')) ((at' + 1) * 33) (by rw [List.length_append, hT, hy1]; omega) (by rw [hD, hy2])
      simpa using this
    have hsp2 : splice (flat PR.cells (ws.take at') ++ (y1 ++ (flat PR.cells (ws.drop at') ++ y3))) (at' * 33) (PR.cells x) = flat PR.cells (ws.take at') ++ (PR.cells x ++ (flat PR.cells (ws.drop at') ++ y3)) :=
      splice_mid _ _ _ _ _ hT (by rw [hx, hy1])
    have hl3 : (flat PR.cells (ws.take at') ++ (y1 ++ (flat PR.cells (ws.drop at') ++ y3))).length = c * 33 := by
      rw [← hsp, length_splice _ _ _ (by rw [hYl, hD]; omega), hYl]
    refine v_draw0 [8] (by kernel_rfl) ?_
    refine va_takeA 0 rfl rfl rfl rfl ?_
    refine va_takeA 1 rfl rfl rfl rfl ?_
    refine va_takeA 2 rfl rfl rfl rfl ?_
    refine va_takeA 3 rfl rfl rfl rfl ?_
    refine va_takeA 4 rfl rfl rfl rfl ?_
    refine va_takeA 5 rfl rfl rfl rfl ?_
    refine va_takeA 6 rfl rfl rfl rfl ?_
    refine va_takeA 7 rfl rfl rfl rfl ?_
    refine va_one 8 (by kernel_rfl) rfl rfl ?_
    refine vo_copyO (hr := rD) (lo := at' + 1) (q := c) rfl rfl rfl (by omega) (by rw [hYl]; omega) (us := flat PR.cells (ws.drop at')) (by rw [hmin, hD0]) (by rw [hmin, hD]) (by rw [hYl, hD]; omega) hsp ?_
    skip
    refine ⟨.inl (by kernel_rfl), ?_⟩
    refine va_done (by kernel_rfl) ?_
    skip
    repeat' (first | (refine go1 ?_; intros) | (refine vl_caseG rfl rfl rfl rfl ?_ ?_ <;> (intro hb; (try simp only [decide_eq_true_eq, decide_eq_false_iff_not, Bool.not_eq_true', Bool.not_eq_false', ne_eq, Decidable.not_not, Option.isNone_iff_eq_none, not_true_eq_false, not_false_eq_true] at hb); try (exfalso; omega))) | (refine v_cond rfl ?_ ?_ <;> (intro hb; (try simp only [decide_eq_true_eq, decide_eq_false_iff_not, Bool.not_eq_true', Bool.not_eq_false', ne_eq, Decidable.not_not, Option.isNone_iff_eq_none, not_true_eq_false, not_false_eq_true] at hb); try (exfalso; omega))) | fail)
    have hmin3 : min 1 (ws.length + 1 - at') = 1 := by omega
    refine vl_o rfl (vo_copyO (lo := at') (q := c) rfl rfl rfl (by omega) (by rw [hl3]; omega) (us := PR.cells x) (by rw [hmin3, Nat.one_mul, ← hx, List.take_length]) (by rw [hmin3, hx]) (by rw [hl3, hx]; omega) hsp2 ?_)
    repeat' (first | (refine go1 ?_; intros) | (refine vl_caseG rfl rfl rfl rfl ?_ ?_ <;> (intro hb; (try simp only [decide_eq_true_eq, decide_eq_false_iff_not, Bool.not_eq_true', Bool.not_eq_false', ne_eq, Decidable.not_not, Option.isNone_iff_eq_none, not_true_eq_false, not_false_eq_true] at hb); try (exfalso; omega))) | (refine v_cond rfl ?_ ?_ <;> (intro hb; (try simp only [decide_eq_true_eq, decide_eq_false_iff_not, Bool.not_eq_true', Bool.not_eq_false', ne_eq, Decidable.not_not, Option.isNone_iff_eq_none, not_true_eq_false, not_false_eq_true] at hb); try (exfalso; omega))) | fail)
    refine ⟨_, ?_, a, c, rfl, rfl⟩
    rw [hfin]
    refine ((se_drop _ _).trans (se_head _ (fun w F h => ?_))).ent w0
    have := own_cut (ws.length + 1) c (by omega) (Nat.le_refl _) (by omega) w F h
    have e : (flat PR.cells (ws.take at') ++ (PR.cells x ++ (flat PR.cells (ws.drop at') ++ y3))).take ((ws.length + 1) * 33) = flat PR.cells (ws.take at') ++ (PR.cells x ++ flat PR.cells (ws.drop at')) := by
      have e2 : flat PR.cells (ws.take at') ++ (PR.cells x ++ (flat PR.cells (ws.drop at') ++ y3)) = (flat PR.cells (ws.take at') ++ (PR.cells x ++ flat PR.cells (ws.drop at'))) ++ y3 := by simp
      rw [e2, List.take_left']
      simp only [List.length_append, hT, hx, hD]
      omega
    rwa [e] at this

set_option maxRecDepth 100000 in
set_option maxHeartbeats 4000000 in
theorem prdel_vc (w0 : World) (L : List Asn) (a : Option Addr) (c : Nat) (ws : List PR) (at' : Nat) {n : Nat} (hn : n = ws.length) (hat : at' < ws.length) (hw : Wide PR.cells 33 ws) (hlen : ws.length ≤ 1000000) :
    VC Tryd.prog w0 86 [.slice a n c, .int .i64 at', .int .i64 ((at' + 1 : Nat) : Int)] (ownQs a c ws :: L) fun v L' => v = .slice a (ws.length - 1) c ∧ L' = ownQs a c (ws.take at' ++ ws.drop (at' + 1)) :: L := by
  subst hn
  refine vc_know (φ := ws.length ≤ c) (fun w hs => (hs.ownLen 0 rfl).2.1) (fun hc => ?_)
  have hD : (flat PR.cells (ws.drop (at' + 1))).length = (ws.length - (at' + 1)) * 33 := by
    rw [(hw.sub (fun y hy => List.mem_of_mem_drop hy)).len, List.length_drop]
  haveI rD : RdC w0 (ownQs a c ws :: L) (subA a (at' + 1) c 33) (flat PR.cells (ws.drop (at' + 1))) := rdF_drop hw (at' + 1) c hc
  have hL2 : (ws.take at' ++ ws.drop (at' + 1)).length = ws.length - 1 := by simp; omega
  refine vc_in rfl rfl ?_
  repeat' (first | (refine go1 ?_; intros) | (refine vl_caseG rfl rfl rfl rfl ?_ ?_ <;> (intro hb; (try simp only [decide_eq_true_eq, decide_eq_false_iff_not, Bool.not_eq_true', Bool.not_eq_false', ne_eq, Decidable.not_not, Option.isNone_iff_eq_none, not_true_eq_false, not_false_eq_true] at hb); try (exfalso; omega))) | (refine v_cond rfl ?_ ?_ <;> (intro hb; (try simp only [decide_eq_true_eq, decide_eq_false_iff_not, Bool.not_eq_true', Bool.not_eq_false', ne_eq, Decidable.not_not, Option.isNone_iff_eq_none, not_true_eq_false, not_false_eq_true] at hb); try (exfalso; omega))) | fail)
  refine v_draw0 [6] (by kernel_rfl) ?_
  refine va_takeA 0 rfl rfl rfl rfl ?_
  refine va_takeA 1 rfl rfl rfl rfl ?_
  refine va_takeA 2 rfl rfl rfl rfl ?_
  refine va_takeA 3 rfl rfl rfl rfl ?_
  refine va_takeA 4 rfl rfl rfl rfl ?_
  refine va_takeA 5 rfl rfl rfl rfl ?_
  rw [subA_0, Nat.sub_zero, Nat.sub_zero]
  refine va_one 6 (by kernel_rfl) rfl rfl ?_
  refine vo_isApp (vo_appendRoom (hr := rD) (m0 := at') rfl rfl rfl (by omega) (by omega) (by omega) hD ?_)
  rw [hw.take, show at' + (ws.length - (at' + 1)) = ws.length - 1 by omega]
  refine ⟨.inl (by kernel_rfl), ?_⟩
  refine va_takePA 7 rfl rfl rfl rfl ?_
  refine va_done (by kernel_rfl) ?_
  skip
  repeat' (first | (refine go1 ?_; intros) | (refine vl_caseG rfl rfl rfl rfl ?_ ?_ <;> (intro hb; (try simp only [decide_eq_true_eq, decide_eq_false_iff_not, Bool.not_eq_true', Bool.not_eq_false', ne_eq, Decidable.not_not, Option.isNone_iff_eq_none, not_true_eq_false, not_false_eq_true] at hb); try (exfalso; omega))) | (refine v_cond rfl ?_ ?_ <;> (intro hb; (try simp only [decide_eq_true_eq, decide_eq_false_iff_not, Bool.not_eq_true', Bool.not_eq_false', ne_eq, Decidable.not_not, Option.isNone_iff_eq_none, not_true_eq_false, not_false_eq_true] at hb); try (exfalso; omega))) | fail)
  refine vl_o rfl (vo_clear rfl (by omega) (by omega) ?_)
  repeat' (first | (refine go1 ?_; intros) | (refine vl_caseG rfl rfl rfl rfl ?_ ?_ <;> (intro hb; (try simp only [decide_eq_true_eq, decide_eq_false_iff_not, Bool.not_eq_true', Bool.not_eq_false', ne_eq, Decidable.not_not, Option.isNone_iff_eq_none, not_true_eq_false, not_false_eq_true] at hb); try (exfalso; omega))) | (refine v_cond rfl ?_ ?_ <;> (intro hb; (try simp only [decide_eq_true_eq, decide_eq_false_iff_not, Bool.not_eq_true', Bool.not_eq_false', ne_eq, Decidable.not_not, Option.isNone_iff_eq_none, not_true_eq_false, not_false_eq_true] at hb); try (exfalso; omega))) | fail)
  refine ⟨rfl, ?_⟩
  unfold ownQs
  rw [flat_append, hL2]
end Go.Proofs.YtmaimkbppnpbnaaDoor
namespace Go.Proofs.YtmaimkbppnpbnaaDoor
open Go Go.RowKit
set_option linter.unusedVariables false
set_option linter.unusedSimpArgs false
open Classical

theorem PsOk.of_kvs {ps ns : List PR} (h : PsOk ps) (e : kvs ns = kvs ps) : PsOk ns := by
  have hm : ∀ p ∈ ns, ∃ q ∈ ps, q.kv = p.kv := fun p hp => by
    have : p.kv ∈ kvs ns := List.mem_map.2 ⟨p, hp, rfl⟩
    rw [e] at this
    exact List.mem_map.1 this
  refine ⟨fun p hp => ?_, fun p hp => ?_, ?_⟩
  · obtain ⟨q, hq, e⟩ := hm p hp
    rw [← (Prod.mk.inj e).1]; exact h.key q hq
  · obtain ⟨q, hq, e⟩ := hm p hp
    rw [← (Prod.mk.inj e).2]; exact h.vl q hq
  · have := congrArg List.length e
    simp only [List.length_map] at this
    have := h.len
    omega
theorem psOk_one {p : PR} (h : p.key.length = 32) (hv : p.v.length ≤ 1000000) : PsOk [p] := ⟨by simpa, by simpa, by simp⟩
/-- New pairs: all of it the call's own. -/
def RPs (w0 : World) (L : List Asn) (l : List KV) (v : Value) (L' : List Asn) : Prop := ∃ a c ns, v = .slice a ns.length c ∧ kvs ns = l ∧ L' = ownPs a c ns :: vsA ns :: L
theorem se_ps_nil (L : List Asn) : SE L (ownPs none 0 [] :: vsA [] :: L) := (se_psA_nil L).trans (se_own_nil 62 33 _)
theorem se_ps_snoc (ns : List PR) (p : PR) (L : List Asn) : SE (ownB p.a p.c p.v :: vsA ns :: L) (vsA (ns ++ [p]) :: L) := by
  have := se_psA_snoc (ns.map PR.pb) L p.a p.c p.v
  rw [show ns.map PR.pb ++ [⟨p.a, p.c, p.v⟩] = (ns ++ [p]).map PR.pb by simp [PR.pb]] at this
  exact this

theorem clonePs_vc (w0 : World) (L : List Asn) (a : Option Addr) (cap : Nat) (ps : List PR) {n : Nat} (hn : n = ps.length) (h : PsOk ps) [hr : RdC w0 L a (prc ps)] :
    VC Tryd.prog w0 117 [.slice a n cap] L fun v L' => ∃ a' c', v = .slice a' ps.length c' ∧ L' = ownPs a' c' ps :: L := by
  subst hn
  have hlen := h.len
  have hfx : (prc ps).length = ps.length * 33 := h.wide.len
  refine vc_know (φ := a = none → ps.length = 0) (fun w hs e => ?_) (fun hnil => ?_)
  · rcases hr.out w hs with h | ⟨_, _, e', _⟩
    · rw [h] at hfx
      simp only [List.length_nil] at hfx
      omega
    · rw [e] at e'; cases e'
  refine vc_ent ?_
  refine vc_in rfl rfl ?_
  repeat' (first | (refine go1 ?_; intros) | (refine vl_caseG rfl rfl rfl rfl ?_ ?_ <;> (intro hb; (try simp only [decide_eq_true_eq, decide_eq_false_iff_not, Bool.not_eq_true', Bool.not_eq_false', ne_eq, Decidable.not_not, Option.isNone_iff_eq_none, not_true_eq_false, not_false_eq_true] at hb); try (exfalso; omega))) | (refine v_cond rfl ?_ ?_ <;> (intro hb; (try simp only [decide_eq_true_eq, decide_eq_false_iff_not, Bool.not_eq_true', Bool.not_eq_false', ne_eq, Decidable.not_not, Option.isNone_iff_eq_none, not_true_eq_false, not_false_eq_true] at hb); try (exfalso; omega))) | fail)
  · have h0 := hnil hb
    obtain rfl : ps = [] := List.eq_nil_of_length_eq_zero h0
    exact ⟨_, (se_own_nil _ 33 _).ent w0, none, 0, rfl, rfl⟩
  · rename_i g a' c' _ _
    refine ⟨_, Ent.refl _ _, a', c', ?_, ?_⟩
    · rw [Nat.zero_add]
    · rw [Nat.zero_add]; rfl

set_option maxRecDepth 100000 in
set_option maxHeartbeats 1000000 in
theorem ptwin_vc (w0 : World) (L : List Asn) (a : Option Addr) (cap : Nat) (ps : List PR) {n : Nat} (hn : n = ps.length) (h : PsOk ps) [hr : RdC w0 L a (prc ps)] [hv : RdVs w0 L ps] :
    VC Tryd.prog w0 84 [.slice a n cap] L (RPs w0 L (kvs ps)) := by
  subst hn
  have hlen := h.len
  refine vc_ent ?_
  refine vc_in rfl rfl ?_
  repeat' (first | (refine go1 ?_; intros) | (refine vl_caseG rfl rfl rfl rfl ?_ ?_ <;> (intro hb; (try simp only [decide_eq_true_eq, decide_eq_false_iff_not, Bool.not_eq_true', Bool.not_eq_false', ne_eq, Decidable.not_not, Option.isNone_iff_eq_none, not_true_eq_false, not_false_eq_true] at hb); try (exfalso; omega))) | (refine v_cond rfl ?_ ?_ <;> (intro hb; (try simp only [decide_eq_true_eq, decide_eq_false_iff_not, Bool.not_eq_true', Bool.not_eq_false', ne_eq, Decidable.not_not, Option.isNone_iff_eq_none, not_true_eq_false, not_false_eq_true] at hb); try (exfalso; omega))) | fail)
  refine vl_o rfl (vo_call rfl rfl ?_)
  refine vc_mono (clonePs_vc w0 _ a cap ps rfl h) ?_
  rintro v L' ⟨a', c', rfl, rfl⟩
  repeat' (first | (refine go1 ?_; intros) | (refine vl_caseG rfl rfl rfl rfl ?_ ?_ <;> (intro hb; (try simp only [decide_eq_true_eq, decide_eq_false_iff_not, Bool.not_eq_true', Bool.not_eq_false', ne_eq, Decidable.not_not, Option.isNone_iff_eq_none, not_true_eq_false, not_false_eq_true] at hb); try (exfalso; omega))) | (refine v_cond rfl ?_ ?_ <;> (intro hb; (try simp only [decide_eq_true_eq, decide_eq_false_iff_not, Bool.not_eq_true', Bool.not_eq_false', ne_eq, Decidable.not_not, Option.isNone_iff_eq_none, not_true_eq_false, not_false_eq_true] at hb); try (exfalso; omega))) | fail)
  refine v_loopF (List PR) [3, 8] rfl (fun ns => [(9, .int .i64 ns.length)]) (fun _ ns => own 62 33 a' ps.length c' (prc (ns ++ ps.drop ns.length)) :: vsA ns :: L) (fun ns => ns.length ≤ ps.length ∧ kvs ns = (kvs ps).take ns.length) (fun ns => ps.length - ns.length) [] ⟨Nat.zero_le _, by simp⟩ (by (repeat' (first | exact Sub.nil _ | refine Sub.cons rfl rfl ?_ | refine Sub.cons rfl ?_ ?_))) ?_ ?_
  · exact (SE.cons _ (se_psA_nil L)).ent w0
  rintro ns ⟨hi, hk⟩
  obtain ⟨i, hni⟩ : ∃ i, i = ns.length := ⟨_, rfl⟩
  rw [← hni] at hi hk ⊢
  by_cases hlt : i < ps.length
  · obtain ⟨ws, hws⟩ : ∃ ws, ws = ns ++ ps.drop i := ⟨_, rfl⟩
    rw [← hws]
    have hkw : kvs ws = kvs ps := by
      rw [hws]
      simp only [List.map_append]
      rw [show ns.map PR.kv = kvs ns from rfl, hk, List.map_drop, List.take_append_drop]
    have okw := h.of_kvs hkw
    have hwl : ws.length = ps.length := by have := congrArg List.length hkw; simpa using this
    have hwi : ws[i]'(by omega) = ps[i] := by
      have : ws[i]? = ps[i]? := by rw [hws, List.getElem?_append_right (by omega), List.getElem?_drop, show i + (i - ns.length) = i by omega]
      rw [List.getElem?_eq_getElem (by omega), List.getElem?_eq_getElem hlt] at this
      exact Option.some.inj this
    have e1 := okw.e1 i (by omega)
    rw [hwi] at e1
    have hpos := okw.pos i (by omega)
    have hmul : i * 33 + 33 ≤ (prc ws).length := okw.wide.mul i (by omega)
    have hvl := h.vlat i hlt
    haveI := hv.at i hlt
    have hsp : ∀ a2 c2, splice (prc ws) (i * 33 + 32) [.slice a2 ps[i].v.length c2] = prc (ns ++ [⟨ps[i].key, a2, c2, ps[i].v⟩] ++ ps.drop (i + 1)) := by
      intro a2 c2
      have hset : ws.set i ⟨ps[i].key, a2, c2, ps[i].v⟩ = ns ++ [⟨ps[i].key, a2, c2, ps[i].v⟩] ++ ps.drop (i + 1) := by
        rw [hws, List.set_append_right _ _ (by omega), show i - ns.length = 0 by omega, List.drop_eq_getElem_cons hlt, List.set_cons_zero, List.append_assoc]
        rfl
      rw [← hset]
      refine okw.wide.splIn (x := ⟨ps[i].key, a2, c2, ps[i].v⟩) i (by omega) 32 _ (by simp) ?_
      rw [hwi]
      have := splice_mid (bvs ps[i].key) [.slice ps[i].a ps[i].v.length ps[i].c] [] [.slice a2 ps[i].v.length c2] 32 (by simp [h.k32at i hlt]) rfl
      rw [List.append_nil, List.append_nil] at this
      exact this
    generalize prc ws = cs at *
    repeat' (first | (refine go1 ?_; intros) | (refine vl_caseG rfl rfl rfl rfl ?_ ?_ <;> (intro hb; (try simp only [decide_eq_true_eq, decide_eq_false_iff_not, Bool.not_eq_true', Bool.not_eq_false', ne_eq, Decidable.not_not, Option.isNone_iff_eq_none, not_true_eq_false, not_false_eq_true] at hb); try (exfalso; omega))) | (refine v_cond rfl ?_ ?_ <;> (intro hb; (try simp only [decide_eq_true_eq, decide_eq_false_iff_not, Bool.not_eq_true', Bool.not_eq_false', ne_eq, Decidable.not_not, Option.isNone_iff_eq_none, not_true_eq_false, not_false_eq_true] at hb); try (exfalso; omega))) | fail)
    refine vl_o rfl (vo_call rfl rfl ?_)
    refine vc_mono (clone_vc w0 _ ps[i].a ps[i].c ps[i].v rfl (by omega)) ?_
    rintro v L' ⟨a2, c2, _, rfl, rfl⟩
    repeat' (first | (refine go1 ?_; intros) | (refine vl_caseG rfl rfl rfl rfl ?_ ?_ <;> (intro hb; (try simp only [decide_eq_true_eq, decide_eq_false_iff_not, Bool.not_eq_true', Bool.not_eq_false', ne_eq, Decidable.not_not, Option.isNone_iff_eq_none, not_true_eq_false, not_false_eq_true] at hb); try (exfalso; omega))) | (refine v_cond rfl ?_ ?_ <;> (intro hb; (try simp only [decide_eq_true_eq, decide_eq_false_iff_not, Bool.not_eq_true', Bool.not_eq_false', ne_eq, Decidable.not_not, Option.isNone_iff_eq_none, not_true_eq_false, not_false_eq_true] at hb); try (exfalso; omega))) | fail)
    rw [hsp]
    refine ⟨rfl, ns ++ [⟨ps[i].key, a2, c2, ps[i].v⟩], ⟨by simp; omega, ?_⟩, by simp; omega, ?_, ?_⟩
    · simp only [List.map_append, List.map_cons, List.map_nil, List.length_append, List.length_cons, List.length_nil, ← hni, Nat.zero_add]
      rw [show ns.map PR.kv = kvs ns from rfl, hk, List.take_succ_eq_append_getElem (by simpa using hlt)]
      simp [PR.kv]
    · simp only [List.length_append, List.length_cons, List.length_nil, ← hni, Nat.zero_add]
      (repeat' (first | exact Sub.nil _ | refine Sub.cons rfl rfl ?_ | refine Sub.cons rfl ?_ ?_))
    · simp only [List.length_append, List.length_cons, List.length_nil, ← hni, Nat.zero_add]
      exact ((se_swap _ _ _).trans (SE.cons _ (se_ps_snoc ns ⟨ps[i].key, a2, c2, ps[i].v⟩ L))).ent w0
  · have hin : i = ps.length := by omega
    rw [List.drop_eq_nil_of_le (by omega), List.append_nil]
    repeat' (first | (refine go1 ?_; intros) | (refine vl_caseG rfl rfl rfl rfl ?_ ?_ <;> (intro hb; (try simp only [decide_eq_true_eq, decide_eq_false_iff_not, Bool.not_eq_true', Bool.not_eq_false', ne_eq, Decidable.not_not, Option.isNone_iff_eq_none, not_true_eq_false, not_false_eq_true] at hb); try (exfalso; omega))) | (refine v_cond rfl ?_ ?_ <;> (intro hb; (try simp only [decide_eq_true_eq, decide_eq_false_iff_not, Bool.not_eq_true', Bool.not_eq_false', ne_eq, Decidable.not_not, Option.isNone_iff_eq_none, not_true_eq_false, not_false_eq_true] at hb); try (exfalso; omega))) | fail)
    refine ⟨_, Ent.refl _ _, a', c', ns, by rw [← hni, hin], by rw [hk, List.take_of_length_le (by simp; omega)], ?_⟩
    unfold ownPs
    rw [← hni, hin]


/-! ### Whether two are the same -/
theorem kvs_get (ps : List PR) (i : Nat) (h : i < ps.length) : (kvs ps)[i]'(by simpa) = ps[i].kv := by simp
theorem kvs_step {ps qs : List PR} {i : Nat} (h : i < ps.length) (k : i < qs.length) (he : (kvs ps).take i = (kvs qs).take i) (h1 : ps[i].key = qs[i].key) (h2 : ps[i].v = qs[i].v) : (kvs ps).take (i + 1) = (kvs qs).take (i + 1) := by
  rw [List.take_succ_eq_append_getElem (by simpa using h), List.take_succ_eq_append_getElem (by simpa using k), he, kvs_get ps i h, kvs_get qs i k]
  simp [PR.kv, h1, h2]
theorem kvs_ne1 {ps qs : List PR} {i : Nat} (h : i < ps.length) (k : i < qs.length) (hn : ¬ ps[i].key = qs[i].key) : ¬ kvs ps = kvs qs := fun e => hn (by
  have := kvs_get ps i h
  have h2 := kvs_get qs i k
  have h3 : (kvs ps)[i]'(by simpa) = (kvs qs)[i]'(by simpa) := by congr 1
  rw [this, h2] at h3
  exact (Prod.mk.inj h3).1)
theorem kvs_ne2 {ps qs : List PR} {i : Nat} (h : i < ps.length) (k : i < qs.length) (hn : ¬ ps[i].v = qs[i].v) : ¬ kvs ps = kvs qs := fun e => hn (by
  have := kvs_get ps i h
  have h2 := kvs_get qs i k
  have h3 : (kvs ps)[i]'(by simpa) = (kvs qs)[i]'(by simpa) := by congr 1
  rw [this, h2] at h3
  exact (Prod.mk.inj h3).2)
theorem kvs_nel {ps qs : List PR} (hn : ¬ ps.length = qs.length) : ¬ kvs ps = kvs qs := fun e => hn (by simpa using congrArg List.length e)

set_option maxRecDepth 100000 in
set_option maxHeartbeats 1000000 in
theorem rsame_vc (w0 : World) (L : List Asn) (a : Option Addr) (cap : Nat) (ps : List PR) (b : Option Addr) (cb : Nat) (qs : List PR) {n m : Nat} (hn : n = ps.length) (hm : m = qs.length) (h : PsOk ps) (k : PsOk qs) [hr : RdC w0 L a (prc ps)] [hv : RdVs w0 L ps] [hr2 : RdC w0 L b (prc qs)] [hv2 : RdVs w0 L qs] :
    VC Tryd.prog w0 29 [.slice a n cap, .slice b m cb] L fun v L' => v = .bool (decide (kvs ps = kvs qs)) ∧ L' = L := by
  subst hn; subst hm
  have hlen := h.len
  have hlen2 := k.len
  refine vc_in rfl rfl ?_
  repeat' (first | (refine go1 ?_; intros) | (refine vl_caseG rfl rfl rfl rfl ?_ ?_ <;> (intro hb; (try simp only [decide_eq_true_eq, decide_eq_false_iff_not, Bool.not_eq_true', Bool.not_eq_false', ne_eq, Decidable.not_not, Option.isNone_iff_eq_none, not_true_eq_false, not_false_eq_true] at hb); try (exfalso; omega))) | (refine v_cond rfl ?_ ?_ <;> (intro hb; (try simp only [decide_eq_true_eq, decide_eq_false_iff_not, Bool.not_eq_true', Bool.not_eq_false', ne_eq, Decidable.not_not, Option.isNone_iff_eq_none, not_true_eq_false, not_false_eq_true] at hb); try (exfalso; omega))) | fail)
  · exact ⟨by rw [decide_eq_false (kvs_nel (by omega))], rfl⟩
  have hl : ps.length = qs.length := by omega
  refine v_loopS Nat [0, 1] rfl (fun i => [(5, .int .i64 i)]) (fun i => i ≤ ps.length ∧ (kvs ps).take i = (kvs qs).take i) (fun i => ps.length - i) 0 ⟨Nat.zero_le _, by simp⟩ (by (repeat' (first | exact Sub.nil _ | refine Sub.cons rfl rfl ?_ | refine Sub.cons rfl ?_ ?_))) (fun i ⟨hi, he⟩ => ?_)
  by_cases hlt : i < ps.length
  · have hlt2 : i < qs.length := by omega
    have e0 := h.e0 i hlt
    have e1 := h.e1 i hlt
    have hk32 := h.k32at i hlt
    have hpos := h.pos i hlt
    have d0 := k.e0 i hlt2
    have d1 := k.e1 i hlt2
    have hk32b := k.k32at i hlt2
    have hpos2 := k.pos i hlt2
    haveI := hv.at i hlt
    haveI := hv2.at i hlt2
    by_cases hkk : ps[i].key = qs[i].key
    · repeat' (first | (refine go1 ?_; intros) | (refine vl_caseG rfl rfl rfl rfl ?_ ?_ <;> (intro hb; (try simp only [decide_eq_true_eq, decide_eq_false_iff_not, Bool.not_eq_true', Bool.not_eq_false', ne_eq, Decidable.not_not, Option.isNone_iff_eq_none, not_true_eq_false, not_false_eq_true] at hb); try (exfalso; omega))) | (refine v_cond rfl ?_ ?_ <;> (intro hb; (try simp only [decide_eq_true_eq, decide_eq_false_iff_not, Bool.not_eq_true', Bool.not_eq_false', ne_eq, Decidable.not_not, Option.isNone_iff_eq_none, not_true_eq_false, not_false_eq_true] at hb); try (exfalso; omega))) | fail)
      (refine v_draw0 [] (by kernel_rfl) ?_ <;> (refine va_takeA 0 rfl rfl rfl rfl ?_) <;> (refine va_takeA 1 rfl rfl rfl rfl ?_) <;> (refine va_takeA 2 rfl rfl rfl rfl ?_) <;> (refine va_takeA 3 rfl rfl rfl rfl ?_) <;> (refine va_takeA 4 rfl rfl rfl rfl ?_) <;> (refine va_takeA 5 rfl rfl rfl rfl ?_) <;> (refine va_takeA 6 rfl rfl rfl rfl ?_) <;> (refine va_takeA 7 rfl rfl rfl rfl ?_) <;> (refine va_takeA 8 rfl rfl rfl rfl ?_) <;> (refine va_takeA 9 rfl rfl rfl rfl ?_) <;> (refine va_takeA 10 rfl rfl rfl rfl ?_) <;> (refine va_takeA 11 rfl rfl rfl rfl ?_) <;> (first | refine va_takeGA 12 rfl rfl rfl rfl rfl rfl rfl rfl ?_ | refine va_passGA 12 rfl rfl rfl rfl rfl rfl rfl rfl ?_ | (refine va_caseG 12 rfl rfl rfl rfl rfl ?_ ?_ <;> (intro hb; (try simp only [decide_eq_true_eq, decide_eq_false_iff_not, Bool.not_eq_true', Bool.not_eq_false', ne_eq, Decidable.not_not, Option.isNone_iff_eq_none, not_true_eq_false, not_false_eq_true] at hb); try (exfalso; omega)) <;> first | refine va_takeGA 12 rfl rfl rfl rfl rfl rfl rfl rfl ?_ | refine va_passGA 12 rfl rfl rfl rfl rfl rfl rfl rfl ?_)) <;> (first | refine va_takeGA 13 rfl rfl rfl rfl rfl rfl rfl rfl ?_ | refine va_passGA 13 rfl rfl rfl rfl rfl rfl rfl rfl ?_ | (refine va_caseG 13 rfl rfl rfl rfl rfl ?_ ?_ <;> (intro hb; (try simp only [decide_eq_true_eq, decide_eq_false_iff_not, Bool.not_eq_true', Bool.not_eq_false', ne_eq, Decidable.not_not, Option.isNone_iff_eq_none, not_true_eq_false, not_false_eq_true] at hb); try (exfalso; omega)) <;> first | refine va_takeGA 13 rfl rfl rfl rfl rfl rfl rfl rfl ?_ | refine va_passGA 13 rfl rfl rfl rfl rfl rfl rfl rfl ?_)) <;> (first | refine va_takeGA 14 rfl rfl rfl rfl rfl rfl rfl rfl ?_ | refine va_passGA 14 rfl rfl rfl rfl rfl rfl rfl rfl ?_ | (refine va_caseG 14 rfl rfl rfl rfl rfl ?_ ?_ <;> (intro hb; (try simp only [decide_eq_true_eq, decide_eq_false_iff_not, Bool.not_eq_true', Bool.not_eq_false', ne_eq, Decidable.not_not, Option.isNone_iff_eq_none, not_true_eq_false, not_false_eq_true] at hb); try (exfalso; omega)) <;> first | refine va_takeGA 14 rfl rfl rfl rfl rfl rfl rfl rfl ?_ | refine va_passGA 14 rfl rfl rfl rfl rfl rfl rfl rfl ?_)) <;> (first | refine va_takeGA 15 rfl rfl rfl rfl rfl rfl rfl rfl ?_ | refine va_passGA 15 rfl rfl rfl rfl rfl rfl rfl rfl ?_ | (refine va_caseG 15 rfl rfl rfl rfl rfl ?_ ?_ <;> (intro hb; (try simp only [decide_eq_true_eq, decide_eq_false_iff_not, Bool.not_eq_true', Bool.not_eq_false', ne_eq, Decidable.not_not, Option.isNone_iff_eq_none, not_true_eq_false, not_false_eq_true] at hb); try (exfalso; omega)) <;> first | refine va_takeGA 15 rfl rfl rfl rfl rfl rfl rfl rfl ?_ | refine va_passGA 15 rfl rfl rfl rfl rfl rfl rfl rfl ?_)) <;> (first | refine va_takeGA 16 rfl rfl rfl rfl rfl rfl rfl rfl ?_ | refine va_passGA 16 rfl rfl rfl rfl rfl rfl rfl rfl ?_ | (refine va_caseG 16 rfl rfl rfl rfl rfl ?_ ?_ <;> (intro hb; (try simp only [decide_eq_true_eq, decide_eq_false_iff_not, Bool.not_eq_true', Bool.not_eq_false', ne_eq, Decidable.not_not, Option.isNone_iff_eq_none, not_true_eq_false, not_false_eq_true] at hb); try (exfalso; omega)) <;> first | refine va_takeGA 16 rfl rfl rfl rfl rfl rfl rfl rfl ?_ | refine va_passGA 16 rfl rfl rfl rfl rfl rfl rfl rfl ?_)) <;> (first | refine va_takeGA 17 rfl rfl rfl rfl rfl rfl rfl rfl ?_ | refine va_passGA 17 rfl rfl rfl rfl rfl rfl rfl rfl ?_ | (refine va_caseG 17 rfl rfl rfl rfl rfl ?_ ?_ <;> (intro hb; (try simp only [decide_eq_true_eq, decide_eq_false_iff_not, Bool.not_eq_true', Bool.not_eq_false', ne_eq, Decidable.not_not, Option.isNone_iff_eq_none, not_true_eq_false, not_false_eq_true] at hb); try (exfalso; omega)) <;> first | refine va_takeGA 17 rfl rfl rfl rfl rfl rfl rfl rfl ?_ | refine va_passGA 17 rfl rfl rfl rfl rfl rfl rfl rfl ?_)) <;> (first | refine va_takeGA 18 rfl rfl rfl rfl rfl rfl rfl rfl ?_ | refine va_passGA 18 rfl rfl rfl rfl rfl rfl rfl rfl ?_ | (refine va_caseG 18 rfl rfl rfl rfl rfl ?_ ?_ <;> (intro hb; (try simp only [decide_eq_true_eq, decide_eq_false_iff_not, Bool.not_eq_true', Bool.not_eq_false', ne_eq, Decidable.not_not, Option.isNone_iff_eq_none, not_true_eq_false, not_false_eq_true] at hb); try (exfalso; omega)) <;> first | refine va_takeGA 18 rfl rfl rfl rfl rfl rfl rfl rfl ?_ | refine va_passGA 18 rfl rfl rfl rfl rfl rfl rfl rfl ?_)) <;> (first | refine va_takeGA 19 rfl rfl rfl rfl rfl rfl rfl rfl ?_ | refine va_passGA 19 rfl rfl rfl rfl rfl rfl rfl rfl ?_ | (refine va_caseG 19 rfl rfl rfl rfl rfl ?_ ?_ <;> (intro hb; (try simp only [decide_eq_true_eq, decide_eq_false_iff_not, Bool.not_eq_true', Bool.not_eq_false', ne_eq, Decidable.not_not, Option.isNone_iff_eq_none, not_true_eq_false, not_false_eq_true] at hb); try (exfalso; omega)) <;> first | refine va_takeGA 19 rfl rfl rfl rfl rfl rfl rfl rfl ?_ | refine va_passGA 19 rfl rfl rfl rfl rfl rfl rfl rfl ?_)) <;> (first | refine va_takeGA 20 rfl rfl rfl rfl rfl rfl rfl rfl ?_ | refine va_passGA 20 rfl rfl rfl rfl rfl rfl rfl rfl ?_ | (refine va_caseG 20 rfl rfl rfl rfl rfl ?_ ?_ <;> (intro hb; (try simp only [decide_eq_true_eq, decide_eq_false_iff_not, Bool.not_eq_true', Bool.not_eq_false', ne_eq, Decidable.not_not, Option.isNone_iff_eq_none, not_true_eq_false, not_false_eq_true] at hb); try (exfalso; omega)) <;> first | refine va_takeGA 20 rfl rfl rfl rfl rfl rfl rfl rfl ?_ | refine va_passGA 20 rfl rfl rfl rfl rfl rfl rfl rfl ?_)) <;> (first | refine va_takeGA 21 rfl rfl rfl rfl rfl rfl rfl rfl ?_ | refine va_passGA 21 rfl rfl rfl rfl rfl rfl rfl rfl ?_ | (refine va_caseG 21 rfl rfl rfl rfl rfl ?_ ?_ <;> (intro hb; (try simp only [decide_eq_true_eq, decide_eq_false_iff_not, Bool.not_eq_true', Bool.not_eq_false', ne_eq, Decidable.not_not, Option.isNone_iff_eq_none, not_true_eq_false, not_false_eq_true] at hb); try (exfalso; omega)) <;> first | refine va_takeGA 21 rfl rfl rfl rfl rfl rfl rfl rfl ?_ | refine va_passGA 21 rfl rfl rfl rfl rfl rfl rfl rfl ?_)))
      all_goals first | (exact absurd hkk hb) | (exact absurd hb hkk) | skip
      refine va_oneG 22 (by kernel_rfl) rfl rfl rfl rfl rfl rfl (vo_call rfl rfl ?_)
      refine vc_mono (same_vc w0 _ ps[i].a ps[i].c ps[i].v qs[i].a qs[i].c qs[i].v rfl rfl) ?_
      rintro v L' ⟨rfl, rfl⟩
      refine ⟨.inr (SE.ent (by repeat' (first | exact SE.refl _ | refine SE.cons _ ?_ | refine SE.trans (se_drop _ _) ?_)) _), ?_⟩
      by_cases hs : ps[i].v = qs[i].v
      · rw [decide_eq_true hs]
        ((first | refine va_takeGA 23 rfl rfl rfl rfl rfl rfl rfl rfl ?_ | refine va_passGA 23 rfl rfl rfl rfl rfl rfl rfl rfl ?_ | (refine va_caseG 23 rfl rfl rfl rfl rfl ?_ ?_ <;> (intro hb; (try simp only [decide_eq_true_eq, decide_eq_false_iff_not, Bool.not_eq_true', Bool.not_eq_false', ne_eq, Decidable.not_not, Option.isNone_iff_eq_none, not_true_eq_false, not_false_eq_true] at hb); try (exfalso; omega)) <;> first | refine va_takeGA 23 rfl rfl rfl rfl rfl rfl rfl rfl ?_ | refine va_passGA 23 rfl rfl rfl rfl rfl rfl rfl rfl ?_)) <;> (refine va_takeA 24 rfl rfl rfl rfl ?_) <;> (refine va_done (by kernel_rfl) ?_))
        repeat' (first | (refine go1 ?_; intros) | (refine vl_caseG rfl rfl rfl rfl ?_ ?_ <;> (intro hb; (try simp only [decide_eq_true_eq, decide_eq_false_iff_not, Bool.not_eq_true', Bool.not_eq_false', ne_eq, Decidable.not_not, Option.isNone_iff_eq_none, not_true_eq_false, not_false_eq_true] at hb); try (exfalso; omega))) | (refine v_cond rfl ?_ ?_ <;> (intro hb; (try simp only [decide_eq_true_eq, decide_eq_false_iff_not, Bool.not_eq_true', Bool.not_eq_false', ne_eq, Decidable.not_not, Option.isNone_iff_eq_none, not_true_eq_false, not_false_eq_true] at hb); try (exfalso; omega))) | fail)
        exact ⟨rfl, i + 1, ⟨by omega, kvs_step hlt hlt2 he hkk hs⟩, by omega, by (repeat' (first | exact Sub.nil _ | refine Sub.cons rfl rfl ?_ | refine Sub.cons rfl ?_ ?_)), Ent.refl _ _⟩
      · rw [decide_eq_false hs]
        ((first | refine va_takeGA 23 rfl rfl rfl rfl rfl rfl rfl rfl ?_ | refine va_passGA 23 rfl rfl rfl rfl rfl rfl rfl rfl ?_ | (refine va_caseG 23 rfl rfl rfl rfl rfl ?_ ?_ <;> (intro hb; (try simp only [decide_eq_true_eq, decide_eq_false_iff_not, Bool.not_eq_true', Bool.not_eq_false', ne_eq, Decidable.not_not, Option.isNone_iff_eq_none, not_true_eq_false, not_false_eq_true] at hb); try (exfalso; omega)) <;> first | refine va_takeGA 23 rfl rfl rfl rfl rfl rfl rfl rfl ?_ | refine va_passGA 23 rfl rfl rfl rfl rfl rfl rfl rfl ?_)) <;> (refine va_takeA 24 rfl rfl rfl rfl ?_) <;> (refine va_done (by kernel_rfl) ?_))
        repeat' (first | (refine go1 ?_; intros) | (refine vl_caseG rfl rfl rfl rfl ?_ ?_ <;> (intro hb; (try simp only [decide_eq_true_eq, decide_eq_false_iff_not, Bool.not_eq_true', Bool.not_eq_false', ne_eq, Decidable.not_not, Option.isNone_iff_eq_none, not_true_eq_false, not_false_eq_true] at hb); try (exfalso; omega))) | (refine v_cond rfl ?_ ?_ <;> (intro hb; (try simp only [decide_eq_true_eq, decide_eq_false_iff_not, Bool.not_eq_true', Bool.not_eq_false', ne_eq, Decidable.not_not, Option.isNone_iff_eq_none, not_true_eq_false, not_false_eq_true] at hb); try (exfalso; omega))) | fail)
        exact ⟨by rw [decide_eq_false (kvs_ne2 hlt hlt2 hs)], rfl⟩
    · repeat' (first | (refine go1 ?_; intros) | (refine vl_caseG rfl rfl rfl rfl ?_ ?_ <;> (intro hb; (try simp only [decide_eq_true_eq, decide_eq_false_iff_not, Bool.not_eq_true', Bool.not_eq_false', ne_eq, Decidable.not_not, Option.isNone_iff_eq_none, not_true_eq_false, not_false_eq_true] at hb); try (exfalso; omega))) | (refine v_cond rfl ?_ ?_ <;> (intro hb; (try simp only [decide_eq_true_eq, decide_eq_false_iff_not, Bool.not_eq_true', Bool.not_eq_false', ne_eq, Decidable.not_not, Option.isNone_iff_eq_none, not_true_eq_false, not_false_eq_true] at hb); try (exfalso; omega))) | fail)
      (refine v_draw0 [] (by kernel_rfl) ?_ <;> (refine va_takeA 0 rfl rfl rfl rfl ?_) <;> (refine va_takeA 1 rfl rfl rfl rfl ?_) <;> (refine va_takeA 2 rfl rfl rfl rfl ?_) <;> (refine va_takeA 3 rfl rfl rfl rfl ?_) <;> (refine va_takeA 4 rfl rfl rfl rfl ?_) <;> (refine va_takeA 5 rfl rfl rfl rfl ?_) <;> (refine va_takeA 6 rfl rfl rfl rfl ?_) <;> (refine va_takeA 7 rfl rfl rfl rfl ?_) <;> (refine va_takeA 8 rfl rfl rfl rfl ?_) <;> (refine va_takeA 9 rfl rfl rfl rfl ?_) <;> (refine va_takeA 10 rfl rfl rfl rfl ?_) <;> (refine va_takeA 11 rfl rfl rfl rfl ?_) <;> (first | refine va_takeGA 12 rfl rfl rfl rfl rfl rfl rfl rfl ?_ | refine va_passGA 12 rfl rfl rfl rfl rfl rfl rfl rfl ?_ | (refine va_caseG 12 rfl rfl rfl rfl rfl ?_ ?_ <;> (intro hb; (try simp only [decide_eq_true_eq, decide_eq_false_iff_not, Bool.not_eq_true', Bool.not_eq_false', ne_eq, Decidable.not_not, Option.isNone_iff_eq_none, not_true_eq_false, not_false_eq_true] at hb); try (exfalso; omega)) <;> first | refine va_takeGA 12 rfl rfl rfl rfl rfl rfl rfl rfl ?_ | refine va_passGA 12 rfl rfl rfl rfl rfl rfl rfl rfl ?_)) <;> (first | refine va_takeGA 13 rfl rfl rfl rfl rfl rfl rfl rfl ?_ | refine va_passGA 13 rfl rfl rfl rfl rfl rfl rfl rfl ?_ | (refine va_caseG 13 rfl rfl rfl rfl rfl ?_ ?_ <;> (intro hb; (try simp only [decide_eq_true_eq, decide_eq_false_iff_not, Bool.not_eq_true', Bool.not_eq_false', ne_eq, Decidable.not_not, Option.isNone_iff_eq_none, not_true_eq_false, not_false_eq_true] at hb); try (exfalso; omega)) <;> first | refine va_takeGA 13 rfl rfl rfl rfl rfl rfl rfl rfl ?_ | refine va_passGA 13 rfl rfl rfl rfl rfl rfl rfl rfl ?_)) <;> (first | refine va_takeGA 14 rfl rfl rfl rfl rfl rfl rfl rfl ?_ | refine va_passGA 14 rfl rfl rfl rfl rfl rfl rfl rfl ?_ | (refine va_caseG 14 rfl rfl rfl rfl rfl ?_ ?_ <;> (intro hb; (try simp only [decide_eq_true_eq, decide_eq_false_iff_not, Bool.not_eq_true', Bool.not_eq_false', ne_eq, Decidable.not_not, Option.isNone_iff_eq_none, not_true_eq_false, not_false_eq_true] at hb); try (exfalso; omega)) <;> first | refine va_takeGA 14 rfl rfl rfl rfl rfl rfl rfl rfl ?_ | refine va_passGA 14 rfl rfl rfl rfl rfl rfl rfl rfl ?_)) <;> (first | refine va_takeGA 15 rfl rfl rfl rfl rfl rfl rfl rfl ?_ | refine va_passGA 15 rfl rfl rfl rfl rfl rfl rfl rfl ?_ | (refine va_caseG 15 rfl rfl rfl rfl rfl ?_ ?_ <;> (intro hb; (try simp only [decide_eq_true_eq, decide_eq_false_iff_not, Bool.not_eq_true', Bool.not_eq_false', ne_eq, Decidable.not_not, Option.isNone_iff_eq_none, not_true_eq_false, not_false_eq_true] at hb); try (exfalso; omega)) <;> first | refine va_takeGA 15 rfl rfl rfl rfl rfl rfl rfl rfl ?_ | refine va_passGA 15 rfl rfl rfl rfl rfl rfl rfl rfl ?_)) <;> (first | refine va_takeGA 16 rfl rfl rfl rfl rfl rfl rfl rfl ?_ | refine va_passGA 16 rfl rfl rfl rfl rfl rfl rfl rfl ?_ | (refine va_caseG 16 rfl rfl rfl rfl rfl ?_ ?_ <;> (intro hb; (try simp only [decide_eq_true_eq, decide_eq_false_iff_not, Bool.not_eq_true', Bool.not_eq_false', ne_eq, Decidable.not_not, Option.isNone_iff_eq_none, not_true_eq_false, not_false_eq_true] at hb); try (exfalso; omega)) <;> first | refine va_takeGA 16 rfl rfl rfl rfl rfl rfl rfl rfl ?_ | refine va_passGA 16 rfl rfl rfl rfl rfl rfl rfl rfl ?_)) <;> (first | refine va_takeGA 17 rfl rfl rfl rfl rfl rfl rfl rfl ?_ | refine va_passGA 17 rfl rfl rfl rfl rfl rfl rfl rfl ?_ | (refine va_caseG 17 rfl rfl rfl rfl rfl ?_ ?_ <;> (intro hb; (try simp only [decide_eq_true_eq, decide_eq_false_iff_not, Bool.not_eq_true', Bool.not_eq_false', ne_eq, Decidable.not_not, Option.isNone_iff_eq_none, not_true_eq_false, not_false_eq_true] at hb); try (exfalso; omega)) <;> first | refine va_takeGA 17 rfl rfl rfl rfl rfl rfl rfl rfl ?_ | refine va_passGA 17 rfl rfl rfl rfl rfl rfl rfl rfl ?_)) <;> (first | refine va_takeGA 18 rfl rfl rfl rfl rfl rfl rfl rfl ?_ | refine va_passGA 18 rfl rfl rfl rfl rfl rfl rfl rfl ?_ | (refine va_caseG 18 rfl rfl rfl rfl rfl ?_ ?_ <;> (intro hb; (try simp only [decide_eq_true_eq, decide_eq_false_iff_not, Bool.not_eq_true', Bool.not_eq_false', ne_eq, Decidable.not_not, Option.isNone_iff_eq_none, not_true_eq_false, not_false_eq_true] at hb); try (exfalso; omega)) <;> first | refine va_takeGA 18 rfl rfl rfl rfl rfl rfl rfl rfl ?_ | refine va_passGA 18 rfl rfl rfl rfl rfl rfl rfl rfl ?_)) <;> (first | refine va_takeGA 19 rfl rfl rfl rfl rfl rfl rfl rfl ?_ | refine va_passGA 19 rfl rfl rfl rfl rfl rfl rfl rfl ?_ | (refine va_caseG 19 rfl rfl rfl rfl rfl ?_ ?_ <;> (intro hb; (try simp only [decide_eq_true_eq, decide_eq_false_iff_not, Bool.not_eq_true', Bool.not_eq_false', ne_eq, Decidable.not_not, Option.isNone_iff_eq_none, not_true_eq_false, not_false_eq_true] at hb); try (exfalso; omega)) <;> first | refine va_takeGA 19 rfl rfl rfl rfl rfl rfl rfl rfl ?_ | refine va_passGA 19 rfl rfl rfl rfl rfl rfl rfl rfl ?_)) <;> (first | refine va_takeGA 20 rfl rfl rfl rfl rfl rfl rfl rfl ?_ | refine va_passGA 20 rfl rfl rfl rfl rfl rfl rfl rfl ?_ | (refine va_caseG 20 rfl rfl rfl rfl rfl ?_ ?_ <;> (intro hb; (try simp only [decide_eq_true_eq, decide_eq_false_iff_not, Bool.not_eq_true', Bool.not_eq_false', ne_eq, Decidable.not_not, Option.isNone_iff_eq_none, not_true_eq_false, not_false_eq_true] at hb); try (exfalso; omega)) <;> first | refine va_takeGA 20 rfl rfl rfl rfl rfl rfl rfl rfl ?_ | refine va_passGA 20 rfl rfl rfl rfl rfl rfl rfl rfl ?_)) <;> (first | refine va_takeGA 21 rfl rfl rfl rfl rfl rfl rfl rfl ?_ | refine va_passGA 21 rfl rfl rfl rfl rfl rfl rfl rfl ?_ | (refine va_caseG 21 rfl rfl rfl rfl rfl ?_ ?_ <;> (intro hb; (try simp only [decide_eq_true_eq, decide_eq_false_iff_not, Bool.not_eq_true', Bool.not_eq_false', ne_eq, Decidable.not_not, Option.isNone_iff_eq_none, not_true_eq_false, not_false_eq_true] at hb); try (exfalso; omega)) <;> first | refine va_takeGA 21 rfl rfl rfl rfl rfl rfl rfl rfl ?_ | refine va_passGA 21 rfl rfl rfl rfl rfl rfl rfl rfl ?_)))
      all_goals first | (exact absurd hkk hb) | (exact absurd hb hkk) | skip
      refine va_passGA 22 rfl rfl rfl rfl rfl rfl rfl rfl ?_
      ((first | refine va_takeGA 23 rfl rfl rfl rfl rfl rfl rfl rfl ?_ | refine va_passGA 23 rfl rfl rfl rfl rfl rfl rfl rfl ?_ | (refine va_caseG 23 rfl rfl rfl rfl rfl ?_ ?_ <;> (intro hb; (try simp only [decide_eq_true_eq, decide_eq_false_iff_not, Bool.not_eq_true', Bool.not_eq_false', ne_eq, Decidable.not_not, Option.isNone_iff_eq_none, not_true_eq_false, not_false_eq_true] at hb); try (exfalso; omega)) <;> first | refine va_takeGA 23 rfl rfl rfl rfl rfl rfl rfl rfl ?_ | refine va_passGA 23 rfl rfl rfl rfl rfl rfl rfl rfl ?_)) <;> (refine va_takeA 24 rfl rfl rfl rfl ?_) <;> (refine va_done (by kernel_rfl) ?_))
      repeat' (first | (refine go1 ?_; intros) | (refine vl_caseG rfl rfl rfl rfl ?_ ?_ <;> (intro hb; (try simp only [decide_eq_true_eq, decide_eq_false_iff_not, Bool.not_eq_true', Bool.not_eq_false', ne_eq, Decidable.not_not, Option.isNone_iff_eq_none, not_true_eq_false, not_false_eq_true] at hb); try (exfalso; omega))) | (refine v_cond rfl ?_ ?_ <;> (intro hb; (try simp only [decide_eq_true_eq, decide_eq_false_iff_not, Bool.not_eq_true', Bool.not_eq_false', ne_eq, Decidable.not_not, Option.isNone_iff_eq_none, not_true_eq_false, not_false_eq_true] at hb); try (exfalso; omega))) | fail)
      exact ⟨by rw [decide_eq_false (kvs_ne1 hlt hlt2 hkk)], rfl⟩
  · obtain rfl : i = ps.length := by omega
    repeat' (first | (refine go1 ?_; intros) | (refine vl_caseG rfl rfl rfl rfl ?_ ?_ <;> (intro hb; (try simp only [decide_eq_true_eq, decide_eq_false_iff_not, Bool.not_eq_true', Bool.not_eq_false', ne_eq, Decidable.not_not, Option.isNone_iff_eq_none, not_true_eq_false, not_false_eq_true] at hb); try (exfalso; omega))) | (refine v_cond rfl ?_ ?_ <;> (intro hb; (try simp only [decide_eq_true_eq, decide_eq_false_iff_not, Bool.not_eq_true', Bool.not_eq_false', ne_eq, Decidable.not_not, Option.isNone_iff_eq_none, not_true_eq_false, not_false_eq_true] at hb); try (exfalso; omega))) | fail)
    refine ⟨?_, rfl⟩
    rw [List.take_of_length_le (by simp), List.take_of_length_le (by simp; omega)] at he
    rw [decide_eq_true he]
end Go.Proofs.YtmaimkbppnpbnaaDoor
namespace Go.Proofs.YtmaimkbppnpbnaaDoor
open Go Go.RowKit
set_option linter.unusedVariables false
set_option linter.unusedSimpArgs false
open Classical

/-- With a value for a key, without a key: the error, and the map. -/
noncomputable def putE (l : List KV) (k v : List UInt8) : Int := if MapOk l ∧ okVal v.length = true then (if (putF l k v).length ≤ 512 then 0 else 9) else 8
noncomputable def putM (l : List KV) (k v : List UInt8) : List KV := if putE l k v = 0 then putF l k v else []
noncomputable def dropE (l : List KV) (k : List UInt8) : Int := if MapOk l then (if has l k = true then 0 else 6) else 8
noncomputable def dropM (l : List KV) (k : List UInt8) : List KV := if dropE l k = 0 then dropF l k else []
theorem RPs.nil (w0 : World) (L : List Asn) (c : Nat) : ∃ L'', Ent w0 L L'' ∧ RPs w0 L [] (.slice none 0 0) L'' := ⟨_, (se_ps_nil L).ent w0, none, 0, [], rfl, rfl, rfl⟩
theorem kv_len (ps : List PR) : (kvs ps).length = ps.length := by simp
theorem low_le (l : List KV) (k : List UInt8) : (lowF l k).length ≤ l.length := List.length_filter_le _ _
theorem take_of {l A B : List KV} (b : l = A ++ B) : l.take A.length = A := by rw [b, List.take_left]
theorem drop_of {l A B : List KV} (b : l = A ++ B) : l.drop A.length = B := by rw [b, List.drop_left]
theorem set_of {l A B : List KV} {x y : KV} (b : l = A ++ x :: B) : l.set A.length y = A ++ y :: B := by rw [b, List.set_append_right _ _ (Nat.le_refl _), Nat.sub_self, List.set_cons_zero]
/-- A key's pair in the place of its old one, or between the others: the headers. -/
theorem put_in {l : List KV} (h : Srt l) (hl : K32 l) {k v : List UInt8} (hk : k.length = 32) (hh : has l k = false) : putF l k v = l.take (lowF l k).length ++ (k, v) :: l.drop (lowF l k).length := by
  rcases srt_three h hl hk with ⟨a, b⟩ | ⟨a, b⟩
  · unfold putF
    have e1 : l.take (lowF l k).length = lowF l k := take_of b
    have e2 : l.drop (lowF l k).length = highF l k := drop_of b
    rw [e1, e2]
  · rw [a] at hh; cases hh
theorem put_at {l : List KV} (h : Srt l) (hl : K32 l) {k v : List UInt8} (hk : k.length = 32) (hh : has l k = true) : putF l k v = l.set (lowF l k).length (k, v) := by
  rcases srt_three h hl hk with ⟨a, b⟩ | ⟨a, b⟩
  · rw [a] at hh; cases hh
  · exact (set_of b).symm
theorem drop_at {l : List KV} (h : Srt l) (hl : K32 l) {k : List UInt8} (hk : k.length = 32) (hh : has l k = true) : dropF l k = l.take (lowF l k).length ++ l.drop ((lowF l k).length + 1) := by
  rw [drop_three h hl hk]
  rcases srt_three h hl hk with ⟨a, b⟩ | ⟨a, b⟩
  · rw [a] at hh; cases hh
  · have e1 : l.take (lowF l k).length = lowF l k := take_of b
    have e2 : l.drop ((lowF l k).length + 1) = highF l k := by
      rw [← List.drop_drop]
      have : l.drop (lowF l k).length = (k, getF l k) :: highF l k := drop_of b
      rw [this]; rfl
    rw [e1, e2]

set_option maxRecDepth 100000 in
set_option maxHeartbeats 1000000 in
theorem pdrop_vc (w0 : World) (L : List Asn) (a : Option Addr) (cap : Nat) (ps : List PR) (k : List UInt8) {n : Nat} (hn : n = ps.length) (h : PsOk ps) (hk : k.length = 32) [hr : RdC w0 L a (prc ps)] [hv : RdVs w0 L ps] :
    VC Tryd.prog w0 41 [.slice a n cap, .agg (bvs k).toArray] L fun v L' => ∃ u, v = .tuple #[u, .int .i64 (dropE (kvs ps) k)] ∧ RPs w0 L (dropM (kvs ps) k) u L' := by
  subst hn
  have hlen := h.len
  refine vc_ent ?_
  refine vc_in rfl rfl ?_
  repeat' (first | (refine go1 ?_; intros) | (refine vl_caseG rfl rfl rfl rfl ?_ ?_ <;> (intro hb; (try simp only [decide_eq_true_eq, decide_eq_false_iff_not, Bool.not_eq_true', Bool.not_eq_false', ne_eq, Decidable.not_not, Option.isNone_iff_eq_none, not_true_eq_false, not_false_eq_true] at hb); try (exfalso; omega))) | (refine v_cond rfl ?_ ?_ <;> (intro hb; (try simp only [decide_eq_true_eq, decide_eq_false_iff_not, Bool.not_eq_true', Bool.not_eq_false', ne_eq, Decidable.not_not, Option.isNone_iff_eq_none, not_true_eq_false, not_false_eq_true] at hb); try (exfalso; omega))) | fail)
  refine vl_o rfl (vo_call rfl rfl ?_)
  refine vc_mono (pcheck_vc w0 _ a cap ps rfl h) ?_
  rintro v L' ⟨rfl, rfl⟩
  by_cases hm : MapOk (kvs ps)
  · rw [if_pos hm]
    repeat' (first | (refine go1 ?_; intros) | (refine vl_caseG rfl rfl rfl rfl ?_ ?_ <;> (intro hb; (try simp only [decide_eq_true_eq, decide_eq_false_iff_not, Bool.not_eq_true', Bool.not_eq_false', ne_eq, Decidable.not_not, Option.isNone_iff_eq_none, not_true_eq_false, not_false_eq_true] at hb); try (exfalso; omega))) | (refine v_cond rfl ?_ ?_ <;> (intro hb; (try simp only [decide_eq_true_eq, decide_eq_false_iff_not, Bool.not_eq_true', Bool.not_eq_false', ne_eq, Decidable.not_not, Option.isNone_iff_eq_none, not_true_eq_false, not_false_eq_true] at hb); try (exfalso; omega))) | fail)
    refine vl_o rfl (vo_call rfl rfl ?_)
    refine vc_mono (pfind_vc w0 _ a cap ps k rfl h hk hm.2.2) ?_
    rintro v L' ⟨rfl, rfl⟩
    cases hh : has (kvs ps) k
    · have e1 : dropE (kvs ps) k = 6 := by simp [dropE, hm, hh]
      have e2 : dropM (kvs ps) k = [] := by simp [dropM, e1]
      rw [e1, e2]
      repeat' (first | (refine go1 ?_; intros) | (refine vl_caseG rfl rfl rfl rfl ?_ ?_ <;> (intro hb; (try simp only [decide_eq_true_eq, decide_eq_false_iff_not, Bool.not_eq_true', Bool.not_eq_false', ne_eq, Decidable.not_not, Option.isNone_iff_eq_none, not_true_eq_false, not_false_eq_true] at hb); try (exfalso; omega))) | (refine v_cond rfl ?_ ?_ <;> (intro hb; (try simp only [decide_eq_true_eq, decide_eq_false_iff_not, Bool.not_eq_true', Bool.not_eq_false', ne_eq, Decidable.not_not, Option.isNone_iff_eq_none, not_true_eq_false, not_false_eq_true] at hb); try (exfalso; omega))) | fail)
      exact ⟨_, ((SEI.out (M := L)).trans (se_ps_nil L)).ent w0, _, rfl, none, 0, [], rfl, rfl, rfl⟩
    · have e1 : dropE (kvs ps) k = 0 := by simp [dropE, hm, hh]
      have e2 : dropM (kvs ps) k = dropF (kvs ps) k := by simp [dropM, e1]
      rw [e1, e2]
      obtain ⟨hi, hke⟩ := (has_at hm.2.2 h.k32 hk).1 hh
      have hdr := drop_at hm.2.2 h.k32 hk hh
      generalize (lowF (kvs ps) k).length = at' at *
      have hlt : at' < ps.length := by simpa using hi
      repeat' (first | (refine go1 ?_; intros) | (refine vl_caseG rfl rfl rfl rfl ?_ ?_ <;> (intro hb; (try simp only [decide_eq_true_eq, decide_eq_false_iff_not, Bool.not_eq_true', Bool.not_eq_false', ne_eq, Decidable.not_not, Option.isNone_iff_eq_none, not_true_eq_false, not_false_eq_true] at hb); try (exfalso; omega))) | (refine v_cond rfl ?_ ?_ <;> (intro hb; (try simp only [decide_eq_true_eq, decide_eq_false_iff_not, Bool.not_eq_true', Bool.not_eq_false', ne_eq, Decidable.not_not, Option.isNone_iff_eq_none, not_true_eq_false, not_false_eq_true] at hb); try (exfalso; omega))) | fail)
      refine vl_o rfl (vo_call rfl rfl ?_)
      refine vc_mono (ptwin_vc w0 _ a cap ps rfl h) ?_
      rintro v L' ⟨a2, c2, ns, rfl, hns, rfl⟩
      have okn := h.of_kvs hns
      have hnl : ns.length = ps.length := by simpa using congrArg List.length hns
      repeat' (first | (refine go1 ?_; intros) | (refine vl_caseG rfl rfl rfl rfl ?_ ?_ <;> (intro hb; (try simp only [decide_eq_true_eq, decide_eq_false_iff_not, Bool.not_eq_true', Bool.not_eq_false', ne_eq, Decidable.not_not, Option.isNone_iff_eq_none, not_true_eq_false, not_false_eq_true] at hb); try (exfalso; omega))) | (refine v_cond rfl ?_ ?_ <;> (intro hb; (try simp only [decide_eq_true_eq, decide_eq_false_iff_not, Bool.not_eq_true', Bool.not_eq_false', ne_eq, Decidable.not_not, Option.isNone_iff_eq_none, not_true_eq_false, not_false_eq_true] at hb); try (exfalso; omega))) | fail)
      refine vl_o rfl (vo_call rfl rfl ?_)
      refine vc_pre (L2 := ownQs a2 c2 ns :: vsA ns :: L) (sei _ _ _) ?_
      refine vc_mono (prdel_vc w0 _ a2 c2 ns at' rfl (by omega) okn.wide okn.len) ?_
      rintro v L' ⟨rfl, rfl⟩
      repeat' (first | (refine go1 ?_; intros) | (refine vl_caseG rfl rfl rfl rfl ?_ ?_ <;> (intro hb; (try simp only [decide_eq_true_eq, decide_eq_false_iff_not, Bool.not_eq_true', Bool.not_eq_false', ne_eq, Decidable.not_not, Option.isNone_iff_eq_none, not_true_eq_false, not_false_eq_true] at hb); try (exfalso; omega))) | (refine v_cond rfl ?_ ?_ <;> (intro hb; (try simp only [decide_eq_true_eq, decide_eq_false_iff_not, Bool.not_eq_true', Bool.not_eq_false', ne_eq, Decidable.not_not, Option.isNone_iff_eq_none, not_true_eq_false, not_false_eq_true] at hb); try (exfalso; omega))) | fail)
      refine ⟨ownPs a2 c2 (ns.take at' ++ ns.drop (at' + 1)) :: vsA (ns.take at' ++ ns.drop (at' + 1)) :: L, ?_, _, rfl, a2, c2, ns.take at' ++ ns.drop (at' + 1), ?_, ?_, rfl⟩
      · refine (SE.cons _ ?_).ent w0
        have hp := se_psA_pull (ns.map PR.pb) L at' (by simp; omega)
        refine hp.trans ((se_drop _ _).trans ?_)
        have e : (ns.map PR.pb).eraseIdx at' = (ns.take at' ++ ns.drop (at' + 1)).map PR.pb := by
          rw [List.eraseIdx_eq_take_drop_succ, ← List.map_take, ← List.map_drop, List.map_append]
        rw [e]
        exact SE.refl _
      · rw [show (ns.take at' ++ ns.drop (at' + 1)).length = ns.length - 1 by simp; omega]
      · rw [hdr, ← hns]
        simp [List.map_take, List.map_drop]
  · have e1 : dropE (kvs ps) k = 8 := by simp [dropE, hm]
    have e2 : dropM (kvs ps) k = [] := by simp [dropM, e1]
    rw [if_neg hm, e1, e2]
    repeat' (first | (refine go1 ?_; intros) | (refine vl_caseG rfl rfl rfl rfl ?_ ?_ <;> (intro hb; (try simp only [decide_eq_true_eq, decide_eq_false_iff_not, Bool.not_eq_true', Bool.not_eq_false', ne_eq, Decidable.not_not, Option.isNone_iff_eq_none, not_true_eq_false, not_false_eq_true] at hb); try (exfalso; omega))) | (refine v_cond rfl ?_ ?_ <;> (intro hb; (try simp only [decide_eq_true_eq, decide_eq_false_iff_not, Bool.not_eq_true', Bool.not_eq_false', ne_eq, Decidable.not_not, Option.isNone_iff_eq_none, not_true_eq_false, not_false_eq_true] at hb); try (exfalso; omega))) | fail)
    exact ⟨_, ((SEI.out (M := L)).trans (se_ps_nil L)).ent w0, _, rfl, none, 0, [], rfl, rfl, rfl⟩

set_option maxRecDepth 100000 in
set_option maxHeartbeats 2000000 in
theorem pput_vc (w0 : World) (L : List Asn) (a : Option Addr) (cap : Nat) (ps : List PR) (k : List UInt8) (va : Option Addr) (vc : Nat) (v : List UInt8) {n vn : Nat} (hn : n = ps.length) (hvn : vn = v.length) (h : PsOk ps) (hk : k.length = 32) (hvl : v.length ≤ 1000000) [hr : RdC w0 L a (prc ps)] [hv : RdVs w0 L ps] [hrv : RdC w0 L va (bvs v)] :
    VC Tryd.prog w0 40 [.slice a n cap, .agg (bvs k).toArray, .slice va vn vc] L fun u L' => ∃ x, u = .tuple #[x, .int .i64 (putE (kvs ps) k v)] ∧ RPs w0 L (putM (kvs ps) k v) x L' := by
  subst hn; subst hvn
  have hlen := h.len
  refine vc_ent ?_
  refine vc_in rfl rfl ?_
  repeat' (first | (refine go1 ?_; intros) | (refine vl_caseG rfl rfl rfl rfl ?_ ?_ <;> (intro hb; (try simp only [decide_eq_true_eq, decide_eq_false_iff_not, Bool.not_eq_true', Bool.not_eq_false', ne_eq, Decidable.not_not, Option.isNone_iff_eq_none, not_true_eq_false, not_false_eq_true] at hb); try (exfalso; omega))) | (refine v_cond rfl ?_ ?_ <;> (intro hb; (try simp only [decide_eq_true_eq, decide_eq_false_iff_not, Bool.not_eq_true', Bool.not_eq_false', ne_eq, Decidable.not_not, Option.isNone_iff_eq_none, not_true_eq_false, not_false_eq_true] at hb); try (exfalso; omega))) | fail)
  refine vl_o rfl (vo_call rfl rfl ?_)
  refine vc_mono (pcheck_vc w0 _ a cap ps rfl h) ?_
  rintro u L' ⟨rfl, rfl⟩
  by_cases hm : MapOk (kvs ps)
  · rw [if_pos hm]
    repeat' (first | (refine go1 ?_; intros) | (refine vl_caseG rfl rfl rfl rfl ?_ ?_ <;> (intro hb; (try simp only [decide_eq_true_eq, decide_eq_false_iff_not, Bool.not_eq_true', Bool.not_eq_false', ne_eq, Decidable.not_not, Option.isNone_iff_eq_none, not_true_eq_false, not_false_eq_true] at hb); try (exfalso; omega))) | (refine v_cond rfl ?_ ?_ <;> (intro hb; (try simp only [decide_eq_true_eq, decide_eq_false_iff_not, Bool.not_eq_true', Bool.not_eq_false', ne_eq, Decidable.not_not, Option.isNone_iff_eq_none, not_true_eq_false, not_false_eq_true] at hb); try (exfalso; omega))) | fail)
    refine vl_o rfl (vo_call rfl rfl ?_)
    refine vc_mono (pval_vc w0 _ va v.length vc (by omega)) ?_
    rintro u L' ⟨rfl, rfl⟩
    cases hov : okVal v.length
    · have e1 : putE (kvs ps) k v = 8 := by simp [putE, hov]
      have e2 : putM (kvs ps) k v = [] := by simp [putM, e1]
      rw [e1, e2]
      repeat' (first | (refine go1 ?_; intros) | (refine vl_caseG rfl rfl rfl rfl ?_ ?_ <;> (intro hb; (try simp only [decide_eq_true_eq, decide_eq_false_iff_not, Bool.not_eq_true', Bool.not_eq_false', ne_eq, Decidable.not_not, Option.isNone_iff_eq_none, not_true_eq_false, not_false_eq_true] at hb); try (exfalso; omega))) | (refine v_cond rfl ?_ ?_ <;> (intro hb; (try simp only [decide_eq_true_eq, decide_eq_false_iff_not, Bool.not_eq_true', Bool.not_eq_false', ne_eq, Decidable.not_not, Option.isNone_iff_eq_none, not_true_eq_false, not_false_eq_true] at hb); try (exfalso; omega))) | fail)
      exact ⟨_, ((SEI.out (M := L)).trans (se_ps_nil L)).ent w0, _, rfl, none, 0, [], rfl, rfl, rfl⟩
    · repeat' (first | (refine go1 ?_; intros) | (refine vl_caseG rfl rfl rfl rfl ?_ ?_ <;> (intro hb; (try simp only [decide_eq_true_eq, decide_eq_false_iff_not, Bool.not_eq_true', Bool.not_eq_false', ne_eq, Decidable.not_not, Option.isNone_iff_eq_none, not_true_eq_false, not_false_eq_true] at hb); try (exfalso; omega))) | (refine v_cond rfl ?_ ?_ <;> (intro hb; (try simp only [decide_eq_true_eq, decide_eq_false_iff_not, Bool.not_eq_true', Bool.not_eq_false', ne_eq, Decidable.not_not, Option.isNone_iff_eq_none, not_true_eq_false, not_false_eq_true] at hb); try (exfalso; omega))) | fail)
      refine vl_o rfl (vo_call rfl rfl ?_)
      refine vc_mono (pfind_vc w0 _ a cap ps k rfl h hk hm.2.2) ?_
      rintro u L' ⟨rfl, rfl⟩
      have hpl := put_len (v := v) hm.2.2 h.k32 hk
      have hkl := kv_len ps
      have h512 := hm.1
      cases hh : has (kvs ps) k
      · rw [hh] at hpl
        simp only [Bool.false_eq_true, if_false] at hpl
        by_cases hfull : ps.length = 512
        · have e1 : putE (kvs ps) k v = 9 := by
            rw [putE, if_pos ⟨hm, hov⟩, if_neg (by omega)]
          have e2 : putM (kvs ps) k v = [] := by simp [putM, e1]
          rw [e1, e2]
          repeat' (first | (refine go1 ?_; intros) | (refine vl_caseG rfl rfl rfl rfl ?_ ?_ <;> (intro hb; (try simp only [decide_eq_true_eq, decide_eq_false_iff_not, Bool.not_eq_true', Bool.not_eq_false', ne_eq, Decidable.not_not, Option.isNone_iff_eq_none, not_true_eq_false, not_false_eq_true] at hb); try (exfalso; omega))) | (refine v_cond rfl ?_ ?_ <;> (intro hb; (try simp only [decide_eq_true_eq, decide_eq_false_iff_not, Bool.not_eq_true', Bool.not_eq_false', ne_eq, Decidable.not_not, Option.isNone_iff_eq_none, not_true_eq_false, not_false_eq_true] at hb); try (exfalso; omega))) | fail)
          exact ⟨_, ((SEI.out (M := L)).trans (se_ps_nil L)).ent w0, _, rfl, none, 0, [], rfl, rfl, rfl⟩
        · have e1 : putE (kvs ps) k v = 0 := by
            rw [putE, if_pos ⟨hm, hov⟩, if_pos (by omega)]
          have e2 : putM (kvs ps) k v = putF (kvs ps) k v := by simp [putM, e1]
          rw [e1, e2]
          have hput := put_in (v := v) hm.2.2 h.k32 hk hh
          have hle := low_le (kvs ps) k
          generalize (lowF (kvs ps) k).length = at' at *
          repeat' (first | (refine go1 ?_; intros) | (refine vl_caseG rfl rfl rfl rfl ?_ ?_ <;> (intro hb; (try simp only [decide_eq_true_eq, decide_eq_false_iff_not, Bool.not_eq_true', Bool.not_eq_false', ne_eq, Decidable.not_not, Option.isNone_iff_eq_none, not_true_eq_false, not_false_eq_true] at hb); try (exfalso; omega))) | (refine v_cond rfl ?_ ?_ <;> (intro hb; (try simp only [decide_eq_true_eq, decide_eq_false_iff_not, Bool.not_eq_true', Bool.not_eq_false', ne_eq, Decidable.not_not, Option.isNone_iff_eq_none, not_true_eq_false, not_false_eq_true] at hb); try (exfalso; omega))) | fail)
          refine vl_o rfl (vo_call rfl rfl ?_)
          refine vc_mono (ptwin_vc w0 _ a cap ps rfl h) ?_
          rintro u L' ⟨a2, c2, ns, rfl, hns, rfl⟩
          have okn := h.of_kvs hns
          have hnl : ns.length = ps.length := by simpa using congrArg List.length hns
          repeat' (first | (refine go1 ?_; intros) | (refine vl_caseG rfl rfl rfl rfl ?_ ?_ <;> (intro hb; (try simp only [decide_eq_true_eq, decide_eq_false_iff_not, Bool.not_eq_true', Bool.not_eq_false', ne_eq, Decidable.not_not, Option.isNone_iff_eq_none, not_true_eq_false, not_false_eq_true] at hb); try (exfalso; omega))) | (refine v_cond rfl ?_ ?_ <;> (intro hb; (try simp only [decide_eq_true_eq, decide_eq_false_iff_not, Bool.not_eq_true', Bool.not_eq_false', ne_eq, Decidable.not_not, Option.isNone_iff_eq_none, not_true_eq_false, not_false_eq_true] at hb); try (exfalso; omega))) | fail)
          refine v_cut (Nat × Option Addr × Nat) [8, 9, 10] rfl (fun x => [(11, .pointer (some ⟨x.1, 0, none⟩))]) (fun x => blk x.1 62 (PR.cells ⟨k, x.2.1, x.2.2, v⟩) :: ownB x.2.1 x.2.2 v :: ownPs a2 c2 ns :: vsA ns :: L) ?_ ?_
          · refine v_id ?_
            refine v_draw0 [5] (by kernel_rfl) ?_
            refine va_takeA 0 rfl rfl rfl rfl ?_
            refine va_takeA 1 rfl rfl rfl rfl ?_
            refine va_two 2 4 (by kernel_rfl) rfl rfl rfl rfl ?_ ?_
            · first | refine vo_call rfl rfl ?_ | refine vo_callV rfl rfl rfl ?_
              refine vc_mono (clone_vc w0 _ va vc v rfl (by omega)) ?_
              rintro u L' ⟨a3, c3, _, rfl, rfl⟩
              have hx33 : (PR.cells ⟨k, a3, c3, v⟩).length = 33 := PR.len hk
              refine ⟨.inr (sei _ _ _), ?_⟩
              refine va_take 3 rfl rfl rfl rfl (by kernel_rfl) (fun _ _ _ _ h => h) (sei _ _ _) (vq_build (us := PR.cells ⟨k, a3, c3, v⟩) rfl rfl (by simp [plOf, Value.cells, hk]) (PR.len hk)) ?_
              refine va_one 4 (by kernel_rfl) rfl rfl ?_
              (first | (refine vo_box rfl rfl rfl ?_; intro _) | (refine vo_alloc rfl ?_; intro _) | (refine vo_isStore ?_; first | (refine vo_isPt0 rfl ?_; refine vo_stWA rfl rfl ?_) | (refine vo_isPt rfl ?_; refine vo_stBA rfl rfl ?_) | (refine vo_stO rfl rfl (by rfl) (by first | rfl | assumption) (by first | assumption | (simp; done) | (simp; omega) | omega) rfl ?_; skip)) | (refine vo_isCall ?_; first | (refine vo_isApp ?_; first | (refine vo_append0A rfl rfl rfl ?_; intro _ _ _ _) | (refine vo_appendA rfl rfl rfl ?_; intro _ _ _ _)) | (refine vo_isCopy ?_; refine vo_copyB rfl rfl rfl (by assumption) (by assumption) (by assumption) (by assumption) ?_) | refine vo_yield rfl rfl rfl rfl rfl ?_ | refine vo_callV rfl rfl rfl (vc_in rfl rfl ?_)) | refine vo_convRow rfl rfl ?_ | (refine vo_isBs ?_; refine vo_buildSlice rfl rfl rfl (by decide) (by repeat' (first | exact trivial | rfl | assumption | refine ⟨?_, ?_⟩ | (simp; done) | (simp; omega))) (by decide) rfl ?_; intro _) | (refine vo_buildSlice0 rfl ?_; intro _) | fail)
              refine ⟨.inr (sei _ _ _), ?_⟩
              refine va_one 5 (by kernel_rfl) rfl rfl ?_
              (first | (refine vo_box rfl rfl rfl ?_; intro _) | (refine vo_alloc rfl ?_; intro _) | (refine vo_isStore ?_; first | (refine vo_isPt0 rfl ?_; refine vo_stWA rfl rfl ?_) | (refine vo_isPt rfl ?_; refine vo_stBA rfl rfl ?_) | (refine vo_stO rfl rfl (by rfl) (by first | rfl | assumption) (by first | assumption | (simp; done) | (simp; omega) | omega) rfl ?_; skip)) | (refine vo_isCall ?_; first | (refine vo_isApp ?_; first | (refine vo_append0A rfl rfl rfl ?_; intro _ _ _ _) | (refine vo_appendA rfl rfl rfl ?_; intro _ _ _ _)) | (refine vo_isCopy ?_; refine vo_copyB rfl rfl rfl (by assumption) (by assumption) (by assumption) (by assumption) ?_) | refine vo_yield rfl rfl rfl rfl rfl ?_ | refine vo_callV rfl rfl rfl (vc_in rfl rfl ?_)) | refine vo_convRow rfl rfl ?_ | (refine vo_isBs ?_; refine vo_buildSlice rfl rfl rfl (by decide) (by repeat' (first | exact trivial | rfl | assumption | refine ⟨?_, ?_⟩ | (simp; done) | (simp; omega))) (by decide) rfl ?_; intro _) | (refine vo_buildSlice0 rfl ?_; intro _) | fail)
              refine ⟨.inl (by kernel_rfl), ?_⟩
              refine va_done (by kernel_rfl) ?_
              refine ⟨rfl, (_, a3, c3), by (repeat' (first | exact Sub.nil _ | refine Sub.cons rfl rfl ?_ | refine Sub.cons rfl ?_ ?_)), ?_⟩
              exact sei _ _ _
            · (first | (refine vo_box rfl rfl rfl ?_; intro _) | (refine vo_alloc rfl ?_; intro _) | (refine vo_isStore ?_; first | (refine vo_isPt0 rfl ?_; refine vo_stWA rfl rfl ?_) | (refine vo_isPt rfl ?_; refine vo_stBA rfl rfl ?_) | (refine vo_stO rfl rfl (by rfl) (by first | rfl | assumption) (by first | assumption | (simp; done) | (simp; omega) | omega) rfl ?_; skip)) | (refine vo_isCall ?_; first | (refine vo_isApp ?_; first | (refine vo_append0A rfl rfl rfl ?_; intro _ _ _ _) | (refine vo_appendA rfl rfl rfl ?_; intro _ _ _ _)) | (refine vo_isCopy ?_; refine vo_copyB rfl rfl rfl (by assumption) (by assumption) (by assumption) (by assumption) ?_) | refine vo_yield rfl rfl rfl rfl rfl ?_ | refine vo_callV rfl rfl rfl (vc_in rfl rfl ?_)) | refine vo_convRow rfl rfl ?_ | (refine vo_isBs ?_; refine vo_buildSlice rfl rfl rfl (by decide) (by repeat' (first | exact trivial | rfl | assumption | refine ⟨?_, ?_⟩ | (simp; done) | (simp; omega))) (by decide) rfl ?_; intro _) | (refine vo_buildSlice0 rfl ?_; intro _) | fail)
              refine ⟨.inr (sei _ _ _), ?_⟩
              refine va_one 2 (by kernel_rfl) rfl rfl ?_
              first | refine vo_call rfl rfl ?_ | refine vo_callV rfl rfl rfl ?_
              refine vc_mono (clone_vc w0 _ va vc v rfl (by omega)) ?_
              rintro u L' ⟨a3, c3, _, rfl, rfl⟩
              have hx33 : (PR.cells ⟨k, a3, c3, v⟩).length = 33 := PR.len hk
              refine ⟨.inr (sei _ _ _), ?_⟩
              refine va_take 3 rfl rfl rfl rfl (by kernel_rfl) (fun _ _ _ _ h => h) (sei _ _ _) (vq_build (us := PR.cells ⟨k, a3, c3, v⟩) rfl rfl (by simp [plOf, Value.cells, hk]) (PR.len hk)) ?_
              refine va_one 5 (by kernel_rfl) rfl rfl ?_
              (first | (refine vo_box rfl rfl rfl ?_; intro _) | (refine vo_alloc rfl ?_; intro _) | (refine vo_isStore ?_; first | (refine vo_isPt0 rfl ?_; refine vo_stWA rfl rfl ?_) | (refine vo_isPt rfl ?_; refine vo_stBA rfl rfl ?_) | (refine vo_stO rfl rfl (by rfl) (by first | rfl | assumption) (by first | assumption | (simp; done) | (simp; omega) | omega) rfl ?_; skip)) | (refine vo_isCall ?_; first | (refine vo_isApp ?_; first | (refine vo_append0A rfl rfl rfl ?_; intro _ _ _ _) | (refine vo_appendA rfl rfl rfl ?_; intro _ _ _ _)) | (refine vo_isCopy ?_; refine vo_copyB rfl rfl rfl (by assumption) (by assumption) (by assumption) (by assumption) ?_) | refine vo_yield rfl rfl rfl rfl rfl ?_ | refine vo_callV rfl rfl rfl (vc_in rfl rfl ?_)) | refine vo_convRow rfl rfl ?_ | (refine vo_isBs ?_; refine vo_buildSlice rfl rfl rfl (by decide) (by repeat' (first | exact trivial | rfl | assumption | refine ⟨?_, ?_⟩ | (simp; done) | (simp; omega))) (by decide) rfl ?_; intro _) | (refine vo_buildSlice0 rfl ?_; intro _) | fail)
              refine ⟨.inl (by kernel_rfl), ?_⟩
              refine va_done (by kernel_rfl) ?_
              refine ⟨rfl, (_, a3, c3), by (repeat' (first | exact Sub.nil _ | refine Sub.cons rfl rfl ?_ | refine Sub.cons rfl ?_ ?_)), ?_⟩
              exact sei _ _ _
          rintro ⟨g, a3, c3⟩
          dsimp only
          have hx33 : (PR.cells ⟨k, a3, c3, v⟩).length = 33 := PR.len hk
          generalize hxc : PR.cells ⟨k, a3, c3, v⟩ = xc at *
          haveI hoc : OC xc := by rw [← hxc]; infer_instance
          repeat' (first | (refine go1 ?_; intros) | (refine vl_caseG rfl rfl rfl rfl ?_ ?_ <;> (intro hb; (try simp only [decide_eq_true_eq, decide_eq_false_iff_not, Bool.not_eq_true', Bool.not_eq_false', ne_eq, Decidable.not_not, Option.isNone_iff_eq_none, not_true_eq_false, not_false_eq_true] at hb); try (exfalso; omega))) | (refine v_cond rfl ?_ ?_ <;> (intro hb; (try simp only [decide_eq_true_eq, decide_eq_false_iff_not, Bool.not_eq_true', Bool.not_eq_false', ne_eq, Decidable.not_not, Option.isNone_iff_eq_none, not_true_eq_false, not_false_eq_true] at hb); try (exfalso; omega))) | fail)
          rename_i gx
          refine vl_o rfl (vo_call rfl rfl ?_)
          refine vc_pre (L2 := own 62 33 (some ⟨gx, 0, none⟩) 1 1 (PR.cells ⟨k, a3, c3, v⟩) :: ownQs a2 c2 ns :: ownB a3 c3 v :: vsA ns :: L) (by rw [hxc]; rw [List.append_nil]; exact sei _ _ _) ?_
          refine vc_mono (prins_vc w0 _ a2 c2 ns at' gx ⟨k, a3, c3, v⟩ rfl (by omega) okn.wide (PR.len hk) okn.len) ?_
          rintro u L' ⟨a5, c5, rfl, rfl⟩
          repeat' (first | (refine go1 ?_; intros) | (refine vl_caseG rfl rfl rfl rfl ?_ ?_ <;> (intro hb; (try simp only [decide_eq_true_eq, decide_eq_false_iff_not, Bool.not_eq_true', Bool.not_eq_false', ne_eq, Decidable.not_not, Option.isNone_iff_eq_none, not_true_eq_false, not_false_eq_true] at hb); try (exfalso; omega))) | (refine v_cond rfl ?_ ?_ <;> (intro hb; (try simp only [decide_eq_true_eq, decide_eq_false_iff_not, Bool.not_eq_true', Bool.not_eq_false', ne_eq, Decidable.not_not, Option.isNone_iff_eq_none, not_true_eq_false, not_false_eq_true] at hb); try (exfalso; omega))) | fail)
          refine ⟨ownPs a5 c5 (ns.take at' ++ ⟨k, a3, c3, v⟩ :: ns.drop at') :: vsA (ns.take at' ++ ⟨k, a3, c3, v⟩ :: ns.drop at') :: L, ?_, _, rfl, a5, c5, ns.take at' ++ ⟨k, a3, c3, v⟩ :: ns.drop at', ?_, ?_, rfl⟩
          · refine (SE.cons _ (se_psA_push (ns.map PR.pb) _ L ⟨a3, c3, v⟩ ?_)).ent w0
            have : (⟨a3, c3, v⟩ :: ns.map PR.pb : List PB).Perm ((⟨k, a3, c3, v⟩ :: (ns.take at' ++ ns.drop at')).map PR.pb) := by
              rw [List.take_append_drop]; exact List.Perm.refl _
            exact this.trans ((List.perm_middle.symm).map PR.pb)
          · rw [prins_len _ (by omega)]
          · rw [hput, ← hns]
            simp [List.map_take, List.map_drop, PR.kv]
      · rw [hh] at hpl
        simp only [if_true] at hpl
        have e1 : putE (kvs ps) k v = 0 := by
          rw [putE, if_pos ⟨hm, hov⟩, if_pos (by omega)]
        have e2 : putM (kvs ps) k v = putF (kvs ps) k v := by simp [putM, e1]
        rw [e1, e2]
        have hput := put_at (v := v) hm.2.2 h.k32 hk hh
        obtain ⟨hi, hke⟩ := (has_at hm.2.2 h.k32 hk).1 hh
        generalize (lowF (kvs ps) k).length = at' at *
        have hlt : at' < ps.length := by simpa using hi
        repeat' (first | (refine go1 ?_; intros) | (refine vl_caseG rfl rfl rfl rfl ?_ ?_ <;> (intro hb; (try simp only [decide_eq_true_eq, decide_eq_false_iff_not, Bool.not_eq_true', Bool.not_eq_false', ne_eq, Decidable.not_not, Option.isNone_iff_eq_none, not_true_eq_false, not_false_eq_true] at hb); try (exfalso; omega))) | (refine v_cond rfl ?_ ?_ <;> (intro hb; (try simp only [decide_eq_true_eq, decide_eq_false_iff_not, Bool.not_eq_true', Bool.not_eq_false', ne_eq, Decidable.not_not, Option.isNone_iff_eq_none, not_true_eq_false, not_false_eq_true] at hb); try (exfalso; omega))) | fail)
        refine vl_o rfl (vo_call rfl rfl ?_)
        refine vc_mono (ptwin_vc w0 _ a cap ps rfl h) ?_
        rintro u L' ⟨a2, c2, ns, rfl, hns, rfl⟩
        have okn := h.of_kvs hns
        have hnl : ns.length = ps.length := by simpa using congrArg List.length hns
        repeat' (first | (refine go1 ?_; intros) | (refine vl_caseG rfl rfl rfl rfl ?_ ?_ <;> (intro hb; (try simp only [decide_eq_true_eq, decide_eq_false_iff_not, Bool.not_eq_true', Bool.not_eq_false', ne_eq, Decidable.not_not, Option.isNone_iff_eq_none, not_true_eq_false, not_false_eq_true] at hb); try (exfalso; omega))) | (refine v_cond rfl ?_ ?_ <;> (intro hb; (try simp only [decide_eq_true_eq, decide_eq_false_iff_not, Bool.not_eq_true', Bool.not_eq_false', ne_eq, Decidable.not_not, Option.isNone_iff_eq_none, not_true_eq_false, not_false_eq_true] at hb); try (exfalso; omega))) | fail)
        refine v_cut (Nat × Option Addr × Nat) [8, 9, 10] rfl (fun x => [(11, .pointer (some ⟨x.1, 0, none⟩))]) (fun x => blk x.1 62 (PR.cells ⟨k, x.2.1, x.2.2, v⟩) :: ownB x.2.1 x.2.2 v :: ownPs a2 c2 ns :: vsA ns :: L) ?_ ?_
        · refine v_id ?_
          refine v_draw0 [5] (by kernel_rfl) ?_
          refine va_takeA 0 rfl rfl rfl rfl ?_
          refine va_takeA 1 rfl rfl rfl rfl ?_
          refine va_two 2 4 (by kernel_rfl) rfl rfl rfl rfl ?_ ?_
          · first | refine vo_call rfl rfl ?_ | refine vo_callV rfl rfl rfl ?_
            refine vc_mono (clone_vc w0 _ va vc v rfl (by omega)) ?_
            rintro u L' ⟨a3, c3, _, rfl, rfl⟩
            have hx33 : (PR.cells ⟨k, a3, c3, v⟩).length = 33 := PR.len hk
            refine ⟨.inr (sei _ _ _), ?_⟩
            refine va_take 3 rfl rfl rfl rfl (by kernel_rfl) (fun _ _ _ _ h => h) (sei _ _ _) (vq_build (us := PR.cells ⟨k, a3, c3, v⟩) rfl rfl (by simp [plOf, Value.cells, hk]) (PR.len hk)) ?_
            refine va_one 4 (by kernel_rfl) rfl rfl ?_
            (first | (refine vo_box rfl rfl rfl ?_; intro _) | (refine vo_alloc rfl ?_; intro _) | (refine vo_isStore ?_; first | (refine vo_isPt0 rfl ?_; refine vo_stWA rfl rfl ?_) | (refine vo_isPt rfl ?_; refine vo_stBA rfl rfl ?_) | (refine vo_stO rfl rfl (by rfl) (by first | rfl | assumption) (by first | assumption | (simp; done) | (simp; omega) | omega) rfl ?_; skip)) | (refine vo_isCall ?_; first | (refine vo_isApp ?_; first | (refine vo_append0A rfl rfl rfl ?_; intro _ _ _ _) | (refine vo_appendA rfl rfl rfl ?_; intro _ _ _ _)) | (refine vo_isCopy ?_; refine vo_copyB rfl rfl rfl (by assumption) (by assumption) (by assumption) (by assumption) ?_) | refine vo_yield rfl rfl rfl rfl rfl ?_ | refine vo_callV rfl rfl rfl (vc_in rfl rfl ?_)) | refine vo_convRow rfl rfl ?_ | (refine vo_isBs ?_; refine vo_buildSlice rfl rfl rfl (by decide) (by repeat' (first | exact trivial | rfl | assumption | refine ⟨?_, ?_⟩ | (simp; done) | (simp; omega))) (by decide) rfl ?_; intro _) | (refine vo_buildSlice0 rfl ?_; intro _) | fail)
            refine ⟨.inr (sei _ _ _), ?_⟩
            refine va_one 5 (by kernel_rfl) rfl rfl ?_
            (first | (refine vo_box rfl rfl rfl ?_; intro _) | (refine vo_alloc rfl ?_; intro _) | (refine vo_isStore ?_; first | (refine vo_isPt0 rfl ?_; refine vo_stWA rfl rfl ?_) | (refine vo_isPt rfl ?_; refine vo_stBA rfl rfl ?_) | (refine vo_stO rfl rfl (by rfl) (by first | rfl | assumption) (by first | assumption | (simp; done) | (simp; omega) | omega) rfl ?_; skip)) | (refine vo_isCall ?_; first | (refine vo_isApp ?_; first | (refine vo_append0A rfl rfl rfl ?_; intro _ _ _ _) | (refine vo_appendA rfl rfl rfl ?_; intro _ _ _ _)) | (refine vo_isCopy ?_; refine vo_copyB rfl rfl rfl (by assumption) (by assumption) (by assumption) (by assumption) ?_) | refine vo_yield rfl rfl rfl rfl rfl ?_ | refine vo_callV rfl rfl rfl (vc_in rfl rfl ?_)) | refine vo_convRow rfl rfl ?_ | (refine vo_isBs ?_; refine vo_buildSlice rfl rfl rfl (by decide) (by repeat' (first | exact trivial | rfl | assumption | refine ⟨?_, ?_⟩ | (simp; done) | (simp; omega))) (by decide) rfl ?_; intro _) | (refine vo_buildSlice0 rfl ?_; intro _) | fail)
            refine ⟨.inl (by kernel_rfl), ?_⟩
            refine va_done (by kernel_rfl) ?_
            refine ⟨rfl, (_, a3, c3), by (repeat' (first | exact Sub.nil _ | refine Sub.cons rfl rfl ?_ | refine Sub.cons rfl ?_ ?_)), ?_⟩
            exact sei _ _ _
          · (first | (refine vo_box rfl rfl rfl ?_; intro _) | (refine vo_alloc rfl ?_; intro _) | (refine vo_isStore ?_; first | (refine vo_isPt0 rfl ?_; refine vo_stWA rfl rfl ?_) | (refine vo_isPt rfl ?_; refine vo_stBA rfl rfl ?_) | (refine vo_stO rfl rfl (by rfl) (by first | rfl | assumption) (by first | assumption | (simp; done) | (simp; omega) | omega) rfl ?_; skip)) | (refine vo_isCall ?_; first | (refine vo_isApp ?_; first | (refine vo_append0A rfl rfl rfl ?_; intro _ _ _ _) | (refine vo_appendA rfl rfl rfl ?_; intro _ _ _ _)) | (refine vo_isCopy ?_; refine vo_copyB rfl rfl rfl (by assumption) (by assumption) (by assumption) (by assumption) ?_) | refine vo_yield rfl rfl rfl rfl rfl ?_ | refine vo_callV rfl rfl rfl (vc_in rfl rfl ?_)) | refine vo_convRow rfl rfl ?_ | (refine vo_isBs ?_; refine vo_buildSlice rfl rfl rfl (by decide) (by repeat' (first | exact trivial | rfl | assumption | refine ⟨?_, ?_⟩ | (simp; done) | (simp; omega))) (by decide) rfl ?_; intro _) | (refine vo_buildSlice0 rfl ?_; intro _) | fail)
            refine ⟨.inr (sei _ _ _), ?_⟩
            refine va_one 2 (by kernel_rfl) rfl rfl ?_
            first | refine vo_call rfl rfl ?_ | refine vo_callV rfl rfl rfl ?_
            refine vc_mono (clone_vc w0 _ va vc v rfl (by omega)) ?_
            rintro u L' ⟨a3, c3, _, rfl, rfl⟩
            have hx33 : (PR.cells ⟨k, a3, c3, v⟩).length = 33 := PR.len hk
            refine ⟨.inr (sei _ _ _), ?_⟩
            refine va_take 3 rfl rfl rfl rfl (by kernel_rfl) (fun _ _ _ _ h => h) (sei _ _ _) (vq_build (us := PR.cells ⟨k, a3, c3, v⟩) rfl rfl (by simp [plOf, Value.cells, hk]) (PR.len hk)) ?_
            refine va_one 5 (by kernel_rfl) rfl rfl ?_
            (first | (refine vo_box rfl rfl rfl ?_; intro _) | (refine vo_alloc rfl ?_; intro _) | (refine vo_isStore ?_; first | (refine vo_isPt0 rfl ?_; refine vo_stWA rfl rfl ?_) | (refine vo_isPt rfl ?_; refine vo_stBA rfl rfl ?_) | (refine vo_stO rfl rfl (by rfl) (by first | rfl | assumption) (by first | assumption | (simp; done) | (simp; omega) | omega) rfl ?_; skip)) | (refine vo_isCall ?_; first | (refine vo_isApp ?_; first | (refine vo_append0A rfl rfl rfl ?_; intro _ _ _ _) | (refine vo_appendA rfl rfl rfl ?_; intro _ _ _ _)) | (refine vo_isCopy ?_; refine vo_copyB rfl rfl rfl (by assumption) (by assumption) (by assumption) (by assumption) ?_) | refine vo_yield rfl rfl rfl rfl rfl ?_ | refine vo_callV rfl rfl rfl (vc_in rfl rfl ?_)) | refine vo_convRow rfl rfl ?_ | (refine vo_isBs ?_; refine vo_buildSlice rfl rfl rfl (by decide) (by repeat' (first | exact trivial | rfl | assumption | refine ⟨?_, ?_⟩ | (simp; done) | (simp; omega))) (by decide) rfl ?_; intro _) | (refine vo_buildSlice0 rfl ?_; intro _) | fail)
            refine ⟨.inl (by kernel_rfl), ?_⟩
            refine va_done (by kernel_rfl) ?_
            refine ⟨rfl, (_, a3, c3), by (repeat' (first | exact Sub.nil _ | refine Sub.cons rfl rfl ?_ | refine Sub.cons rfl ?_ ?_)), ?_⟩
            exact sei _ _ _
        rintro ⟨g, a3, c3⟩
        dsimp only
        have hx33 : (PR.cells ⟨k, a3, c3, v⟩).length = 33 := PR.len hk
        have hsp : splice (prc ns) (at' * 33) (PR.cells ⟨k, a3, c3, v⟩) = prc (ns.set at' ⟨k, a3, c3, v⟩) := okn.wide.spl (PR.len hk) at' (by omega)
        have hmul : at' * 33 + 33 ≤ (prc ns).length := okn.wide.mul at' (by omega)
        have hpos := okn.pos at' (by omega)
        have hfit : at' * 33 + (PR.cells ⟨k, a3, c3, v⟩).length ≤ (prc ns).length := by rw [hx33]; exact hmul
        generalize hxc : PR.cells ⟨k, a3, c3, v⟩ = xc at *
        haveI hoc : OC xc := by rw [← hxc]; infer_instance
        repeat' (first | (refine go1 ?_; intros) | (refine vl_caseG rfl rfl rfl rfl ?_ ?_ <;> (intro hb; (try simp only [decide_eq_true_eq, decide_eq_false_iff_not, Bool.not_eq_true', Bool.not_eq_false', ne_eq, Decidable.not_not, Option.isNone_iff_eq_none, not_true_eq_false, not_false_eq_true] at hb); try (exfalso; omega))) | (refine v_cond rfl ?_ ?_ <;> (intro hb; (try simp only [decide_eq_true_eq, decide_eq_false_iff_not, Bool.not_eq_true', Bool.not_eq_false', ne_eq, Decidable.not_not, Option.isNone_iff_eq_none, not_true_eq_false, not_false_eq_true] at hb); try (exfalso; omega))) | fail)
        rw [hsp]
        refine ⟨ownPs a2 c2 (ns.set at' ⟨k, a3, c3, v⟩) :: vsA (ns.set at' ⟨k, a3, c3, v⟩) :: L, ?_, _, rfl, a2, c2, ns.set at' ⟨k, a3, c3, v⟩, ?_, ?_, rfl⟩
        · have ho : ∀ L0, ownPs a2 c2 (ns.set at' ⟨k, a3, c3, v⟩) :: L0 = own 62 33 a2 ns.length c2 (prc (ns.set at' ⟨k, a3, c3, v⟩)) :: L0 := fun L0 => by unfold ownPs; rw [List.length_set]
          rw [ho]
          refine ((se_drop _ _).trans ((se_swap _ _ _).trans (SE.cons _ ?_))).ent w0
          refine (SE.cons _ ((se_psA_pull (ns.map PR.pb) L at' (by simp; omega)).trans (se_drop _ _))).trans ?_
          refine se_psA_push _ _ L ⟨a3, c3, v⟩ ?_
          have e : (ns.set at' ⟨k, a3, c3, v⟩).map PR.pb = (ns.map PR.pb).take at' ++ ⟨a3, c3, v⟩ :: (ns.map PR.pb).drop (at' + 1) := by
            rw [List.set_eq_take_append_cons_drop, if_pos (by omega)]
            simp [List.map_take, List.map_drop, PR.pb]
          rw [e, List.eraseIdx_eq_take_drop_succ]
          exact List.perm_middle.symm
        · rw [List.length_set]
        · rw [hput, ← hns]
          simp [List.map_set, PR.kv]
  · have e1 : putE (kvs ps) k v = 8 := by simp [putE, hm]
    have e2 : putM (kvs ps) k v = [] := by simp [putM, e1]
    rw [if_neg hm, e1, e2]
    repeat' (first | (refine go1 ?_; intros) | (refine vl_caseG rfl rfl rfl rfl ?_ ?_ <;> (intro hb; (try simp only [decide_eq_true_eq, decide_eq_false_iff_not, Bool.not_eq_true', Bool.not_eq_false', ne_eq, Decidable.not_not, Option.isNone_iff_eq_none, not_true_eq_false, not_false_eq_true] at hb); try (exfalso; omega))) | (refine v_cond rfl ?_ ?_ <;> (intro hb; (try simp only [decide_eq_true_eq, decide_eq_false_iff_not, Bool.not_eq_true', Bool.not_eq_false', ne_eq, Decidable.not_not, Option.isNone_iff_eq_none, not_true_eq_false, not_false_eq_true] at hb); try (exfalso; omega))) | fail)
    exact ⟨_, ((SEI.out (M := L)).trans (se_ps_nil L)).ent w0, _, rfl, none, 0, [], rfl, rfl, rfl⟩
end Go.Proofs.YtmaimkbppnpbnaaDoor
