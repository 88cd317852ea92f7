/-
  slices.Insert and slices.Delete, of lines.
-/
import Derived.Test.YtcpndfffdbogbaaGreatDoorGK
import Derived.Test.YtcpndfffdbogbaaGreatDoorGS
set_option linter.unusedVariables false
set_option linter.unusedSimpArgs false
set_option linter.unusedSectionVars false
set_option maxRecDepth 100000
set_option maxHeartbeats 4000000
namespace Go.Proofs.YtcpndfffdbogbaaGreatDoor
open Go Go.RowKit

abbrev ownLq (a : Option Addr) (cap : Nat) (xs : List Ln) : Asn := own 69 33 a xs.length cap (flat Ln.cells xs)
theorem lnins_flat {ws : List Ln} (x : Ln) (at' : Nat) : flat Ln.cells (ws.take at' ++ x :: ws.drop at') = flat Ln.cells (ws.take at') ++ (Ln.cells x ++ flat Ln.cells (ws.drop at')) := by
  rw [flat_append, flat_cons]
theorem lnins_len {ws : List Ln} (x : Ln) {at' : Nat} (h : at' ≤ ws.length) : (ws.take at' ++ x :: ws.drop at').length = ws.length + 1 := by
  simp; omega

theorem lnins_vc (w0 : World) (L : List Asn) (a : Option Addr) (c : Nat) (ws : List Ln) (at' : Nat) (g : Nat) (x : Ln) {n : Nat} (hn : n = ws.length) (hat : at' ≤ ws.length) (hw : Wide Ln.cells 33 ws) (hx : (Ln.cells x).length = 33) (hlen : ws.length ≤ 1000000) :
    VC Tryz.prog w0 78 [.slice a n c, .int .i64 at', .slice (some ⟨g, 0, none⟩) 1 1] (own 69 33 (some ⟨g, 0, none⟩) 1 1 (Ln.cells x) :: ownLq a c ws :: L) fun v L' => ∃ a' c', v = .slice a' (ws.length + 1) c' ∧ L' = ownLq a' c' (ws.take at' ++ x :: ws.drop at') :: L := by
  subst hn
  refine vc_know (φ := ws.length ≤ c) (fun w hs => (hs.ownLen 1 rfl).2.1) (fun hc => ?_)
  have hfin : ∀ (a' : Option Addr) (c' : Nat) (L0 : List Asn), ownLq a' c' (ws.take at' ++ x :: ws.drop at') :: L0 = own 69 33 a' (ws.length + 1) c' (flat Ln.cells (ws.take at') ++ (Ln.cells x ++ flat Ln.cells (ws.drop at'))) :: L0 := by
    intro a' c' L0
    unfold ownLq
    rw [lnins_flat, lnins_len x hat]
  have hT : (flat Ln.cells (ws.take at')).length = at' * 33 := by
    rw [(hw.sub (fun y hy => List.mem_of_mem_take hy)).len, List.length_take, Nat.min_eq_left hat]
  have hD : (flat Ln.cells (ws.drop at')).length = (ws.length - at') * 33 := by
    rw [(hw.sub (fun y hy => List.mem_of_mem_drop hy)).len, List.length_drop]
  have hTD : flat Ln.cells ws = flat Ln.cells (ws.take at') ++ flat Ln.cells (ws.drop at') := by rw [← flat_append, List.take_append_drop]
  by_cases hA : at' = ws.length
  · refine vc_ent ?_
    refine vc_in rfl rfl ?_
    repeat' (first | (refine go1 ?_; intros) | (refine goCC ?_ ?_ <;> (intro hb; (try simp only [hSQ] at hb); try (exfalso; omega))) | fail)
    rename_i a' c' _ _
    refine ⟨ownLq a' c' (ws.take at' ++ x :: ws.drop at') :: L, ?_, a', c', rfl, rfl⟩
    rw [hfin, hA, List.take_length, List.drop_length, flat_nil, List.append_nil]
    exact sei _ _ _
  by_cases hB : c < ws.length + 1
  · refine vc_ent ?_
    refine vc_in rfl rfl ?_
    repeat' (first | (refine go1 ?_; intros) | (refine goCC ?_ ?_ <;> (intro hb; (try simp only [hSQ] at hb); try (exfalso; omega))) | fail)
    refine vl_q rfl rfl rfl rfl (vq_capSl rfl) ?_
    repeat' (first | (refine go1 ?_; intros) | (refine goCC ?_ ?_ <;> (intro hb; (try simp only [hSQ] at hb); try (exfalso; omega))) | fail)
    rw [subA_0, Nat.sub_zero, Nat.sub_zero]
    haveI rT : RdC w0 (own 69 33 (some ⟨g, 0, none⟩) 1 1 (Ln.cells x) :: ownLq a c ws :: L) a (flat Ln.cells (ws.take at')) := rdF_take hw at'
    refine vl_o rfl (vo_appendZ (hr := rT) (k := ws.length + 1 - at') rfl rfl rfl rfl hT (by omega) (by omega) (by unfold maxLen; omega) (by omega) ?_)
    intro g2 c2 zs hz hc2
    rw [show at' + (ws.length + 1 - at') = ws.length + 1 by omega] at hc2 ⊢
    haveI rD : RdC w0 (own 69 33 (some ⟨g2, 0, none⟩) (ws.length + 1) c2 (flat Ln.cells (ws.take at') ++ (Ln.cells x ++ zs.drop 33)) :: own 69 33 (some ⟨g, 0, none⟩) 1 1 (Ln.cells x) :: ownLq a c ws :: L) (subA a at' c 33) (flat Ln.cells (ws.drop at')) := rdF_drop hw at' c hc
    repeat' (first | (refine go1 ?_; intros) | (refine goCC ?_ ?_ <;> (intro hb; (try simp only [hSQ] at hb); try (exfalso; omega))) | fail)
    have hmin : min 1 (ws.length + 1 - at') = 1 := by omega
    have hsp : splice (flat Ln.cells (ws.take at') ++ zs) (at' * 33) (Ln.cells x) = flat Ln.cells (ws.take at') ++ (Ln.cells x ++ zs.drop 33) := by
      have e : zs = zs.take 33 ++ zs.drop 33 := by rw [List.take_append_drop]
      conv => lhs; rw [e]
      exact splice_mid _ _ _ _ _ hT (by rw [hx, List.length_take, hz]; omega)
    refine vl_o rfl (vo_copyO (lo := at') (q := c2) rfl rfl rfl (by omega) (by simp; omega) (us := Ln.cells x) (by rw [hmin, Nat.one_mul, ← hx, List.take_length]) (by rw [hmin, hx]) (by simp only [List.length_append, hT, hx, hz]; omega) hsp ?_)
    rw [hmin]
    repeat' (first | (refine go1 ?_; intros) | (refine goCC ?_ ?_ <;> (intro hb; (try simp only [hSQ] at hb); try (exfalso; omega))) | fail)
    have hmin2 : min (ws.length - at') (ws.length + 1 - (at' + 1)) = ws.length - at' := by omega
    have hsp2 : splice (flat Ln.cells (ws.take at') ++ (Ln.cells x ++ zs.drop 33)) ((at' + 1) * 33) (flat Ln.cells (ws.drop at')) = flat Ln.cells (ws.take at') ++ (Ln.cells x ++ flat Ln.cells (ws.drop at')) := by
      have := splice_mid (flat Ln.cells (ws.take at') ++ Ln.cells x) (zs.drop 33) [] (flat Ln.cells (ws.drop at')) ((at' + 1) * 33) (by rw [List.length_append, hT, hx]; omega) (by rw [hD, List.length_drop, hz]; omega)
      simpa using this
    refine v_draw0 [8] (by kernel_rfl) ?_
    refine tA 0 ?_
    refine tA 1 ?_
    refine tA 2 ?_
    refine tA 3 ?_
    refine tA 4 ?_
    refine tA 5 ?_
    refine tA 6 ?_
    refine tA 7 ?_
    refine va_one 8 (by kernel_rfl) rfl rfl ?_
    refine vo_copyO (hr := rD) (lo := at' + 1) (q := c2) rfl rfl rfl (by omega) (by simp only [List.length_append, hT, hx, List.length_drop, hz]; omega) (us := flat Ln.cells (ws.drop at')) (by rw [hmin2, ← hD, List.take_length]) (by rw [hmin2, hD]) (by simp only [List.length_append, hT, hx, hD, List.length_drop, hz]; omega) hsp2 ?_
    refine ⟨.inl (by kernel_rfl), ?_⟩
    refine va_done (by kernel_rfl) ?_
    skip
    repeat' (first | (refine go1 ?_; intros) | (refine goCC ?_ ?_ <;> (intro hb; (try simp only [hSQ] at hb); try (exfalso; omega))) | fail)
    refine ⟨ownLq (some ⟨g2, 0, none⟩) c2 (ws.take at' ++ x :: ws.drop at') :: L, ?_, some ⟨g2, 0, none⟩, c2, rfl, rfl⟩
    rw [hfin]
    exact sei _ _ _
  · refine vc_ex (fun w hs => st_room _ hs) ?_
    rintro ⟨ys, hy⟩
    dsimp only
    have hYl : (flat Ln.cells ws ++ ys).length = c * 33 := by rw [List.length_append, hw.len, hy, ← Nat.add_mul]; congr 1; omega
    have hYd : (flat Ln.cells ws ++ ys).drop (at' * 33) = flat Ln.cells (ws.drop at') ++ ys := by rw [hTD, List.append_assoc, ← hT, List.drop_left]
    haveI rD : RdC w0 (own 69 33 (some ⟨g, 0, none⟩) 1 1 (Ln.cells x) :: own 69 33 a c c (flat Ln.cells ws ++ ys) :: L) (subA a at' c 33) (flat Ln.cells (ws.drop at') ++ ys) := ⟨fun w hs => (hs.rcOwn 1 rfl).sub at' c 33 _ (fun j u hu => by rw [← List.getElem?_drop, hYd]; exact hu) (fun e => by omega)⟩
    refine vc_ent ?_
    refine vc_in rfl rfl ?_
    repeat' (first | (refine go1 ?_; intros) | (refine goCC ?_ ?_ <;> (intro hb; (try simp only [hSQ] at hb); try (exfalso; omega))) | fail)
    refine vl_q rfl rfl rfl rfl (vq_capSl rfl) ?_
    repeat' (first | (refine go1 ?_; intros) | (refine goCC ?_ ?_ <;> (intro hb; (try simp only [hSQ] at hb); try (exfalso; omega))) | fail)
    rw [subA_0, Nat.sub_zero, Nat.sub_zero]
    refine vl_o rfl (vo_overlaps (tS := 22) (tR := 4) rfl rfl rfl (by rw [hYl]; omega) rfl Tryz.func119 (by kernel_rfl) (by kernel_rfl) (by kernel_rfl) (by kernel_rfl) ?_)
    repeat' (first | (refine go1 ?_; intros) | (refine goCC ?_ ?_ <;> (intro hb; (try simp only [hSQ] at hb); try (exfalso; omega))) | fail)
    have hmin : min (ws.length + 1 - at') (ws.length + 1 - (at' + 1)) = ws.length - at' := by omega
    have hD0 : (flat Ln.cells (ws.drop at') ++ ys).take ((ws.length - at') * 33) = flat Ln.cells (ws.drop at') := by rw [← hD, List.take_left]
    obtain ⟨y1, y3, hY, hy1⟩ : ∃ y1 y3, flat Ln.cells (ws.drop at') ++ ys = y1 ++ (((flat Ln.cells (ws.drop at') ++ ys).drop 33).take ((ws.length - at') * 33) ++ y3) ∧ y1.length = 33 := by
      refine ⟨(flat Ln.cells (ws.drop at') ++ ys).take 33, ((flat Ln.cells (ws.drop at') ++ ys).drop 33).drop ((ws.length - at') * 33), by rw [List.take_append_drop, List.take_append_drop], ?_⟩
      simp only [List.length_take, List.length_append, hD, hy]
      omega
    have hy2 : (((flat Ln.cells (ws.drop at') ++ ys).drop 33).take ((ws.length - at') * 33)).length = (ws.length - at') * 33 := by
      simp only [List.length_take, List.length_drop, List.length_append, hD, hy]
      omega
    have hsp : splice (flat Ln.cells ws ++ ys) ((at' + 1) * 33) (flat Ln.cells (ws.drop at')) = (flat Ln.cells (ws.take at') ++ (y1 ++ (flat Ln.cells (ws.drop at') ++ y3))) := by
      rw [hTD, List.append_assoc, hY]
      have := splice_mid (flat Ln.cells (ws.take at') ++ y1) (((flat Ln.cells (ws.drop at') ++ ys).drop 33).take ((ws.length - at') * 33)) y3 (flat Ln.cells (ws.drop at')) ((at' + 1) * 33) (by rw [List.length_append, hT, hy1]; omega) (by rw [hD, hy2])
      simpa using this
    have hsp2 : splice (flat Ln.cells (ws.take at') ++ (y1 ++ (flat Ln.cells (ws.drop at') ++ y3))) (at' * 33) (Ln.cells x) = flat Ln.cells (ws.take at') ++ (Ln.cells x ++ (flat Ln.cells (ws.drop at') ++ y3)) :=
      splice_mid _ _ _ _ _ hT (by rw [hx, hy1])
    have hl3 : (flat Ln.cells (ws.take at') ++ (y1 ++ (flat Ln.cells (ws.drop at') ++ y3))).length = c * 33 := by
      rw [← hsp, length_splice _ _ _ (by rw [hYl, hD]; omega), hYl]
    refine v_draw0 [8] (by kernel_rfl) ?_
    refine tA 0 ?_
    refine tA 1 ?_
    refine tA 2 ?_
    refine tA 3 ?_
    refine tA 4 ?_
    refine tA 5 ?_
    refine tA 6 ?_
    refine tA 7 ?_
    refine va_one 8 (by kernel_rfl) rfl rfl ?_
    refine vo_copyO (hr := rD) (lo := at' + 1) (q := c) rfl rfl rfl (by omega) (by rw [hYl]; omega) (us := flat Ln.cells (ws.drop at')) (by rw [hmin, hD0]) (by rw [hmin, hD]) (by rw [hYl, hD]; omega) hsp ?_
    skip
    refine ⟨.inl (by kernel_rfl), ?_⟩
    refine va_done (by kernel_rfl) ?_
    skip
    repeat' (first | (refine go1 ?_; intros) | (refine goCC ?_ ?_ <;> (intro hb; (try simp only [hSQ] at hb); try (exfalso; omega))) | fail)
    have hmin3 : min 1 (ws.length + 1 - at') = 1 := by omega
    refine vl_o rfl (vo_copyO (lo := at') (q := c) rfl rfl rfl (by omega) (by rw [hl3]; omega) (us := Ln.cells x) (by rw [hmin3, Nat.one_mul, ← hx, List.take_length]) (by rw [hmin3, hx]) (by rw [hl3, hx]; omega) hsp2 ?_)
    repeat' (first | (refine go1 ?_; intros) | (refine goCC ?_ ?_ <;> (intro hb; (try simp only [hSQ] at hb); try (exfalso; omega))) | fail)
    refine ⟨_, ?_, a, c, rfl, rfl⟩
    rw [hfin]
    refine ((se_drop _ _).trans (se_head _ (fun w F h => ?_))).ent w0
    have := own_cut (ws.length + 1) c (by omega) (Nat.le_refl _) (by omega) w F h
    have e : (flat Ln.cells (ws.take at') ++ (Ln.cells x ++ (flat Ln.cells (ws.drop at') ++ y3))).take ((ws.length + 1) * 33) = flat Ln.cells (ws.take at') ++ (Ln.cells x ++ flat Ln.cells (ws.drop at')) := by
      have e2 : flat Ln.cells (ws.take at') ++ (Ln.cells x ++ (flat Ln.cells (ws.drop at') ++ y3)) = (flat Ln.cells (ws.take at') ++ (Ln.cells x ++ flat Ln.cells (ws.drop at'))) ++ y3 := by simp
      rw [e2, List.take_left']
      simp only [List.length_append, hT, hx, hD]
      omega
    rwa [e] at this

theorem lndel_vc (w0 : World) (L : List Asn) (a : Option Addr) (c : Nat) (ws : List Ln) (at' : Nat) {n : Nat} (hn : n = ws.length) (hat : at' < ws.length) (hw : Wide Ln.cells 33 ws) (hlen : ws.length ≤ 1000000) :
    VC Tryz.prog w0 77 [.slice a n c, .int .i64 at', .int .i64 ((at' + 1 : Nat) : Int)] (ownLq a c ws :: L) fun v L' => v = .slice a (ws.length - 1) c ∧ L' = ownLq a c (ws.take at' ++ ws.drop (at' + 1)) :: L := by
  subst hn
  refine vc_know (φ := ws.length ≤ c) (fun w hs => (hs.ownLen 0 rfl).2.1) (fun hc => ?_)
  have hD : (flat Ln.cells (ws.drop (at' + 1))).length = (ws.length - (at' + 1)) * 33 := by
    rw [(hw.sub (fun y hy => List.mem_of_mem_drop hy)).len, List.length_drop]
  haveI rD : RdC w0 (ownLq a c ws :: L) (subA a (at' + 1) c 33) (flat Ln.cells (ws.drop (at' + 1))) := rdF_drop hw (at' + 1) c hc
  have hL2 : (ws.take at' ++ ws.drop (at' + 1)).length = ws.length - 1 := by simp; omega
  refine vc_in rfl rfl ?_
  repeat' (first | (refine go1 ?_; intros) | (refine goCC ?_ ?_ <;> (intro hb; (try simp only [hSQ] at hb); try (exfalso; omega))) | fail)
  refine v_draw0 [6] (by kernel_rfl) ?_
  refine tA 0 ?_
  refine tA 1 ?_
  refine tA 2 ?_
  refine tA 3 ?_
  refine tA 4 ?_
  refine tA 5 ?_
  rw [subA_0, Nat.sub_zero, Nat.sub_zero]
  refine va_one 6 (by kernel_rfl) rfl rfl ?_
  refine vo_isApp (vo_appendRoom (hr := rD) (m0 := at') rfl rfl rfl (by omega) (by omega) (by omega) hD ?_)
  rw [hw.take, show at' + (ws.length - (at' + 1)) = ws.length - 1 by omega]
  refine ⟨.inl (by kernel_rfl), ?_⟩
  refine tP 7 ?_
  refine va_done (by kernel_rfl) ?_
  skip
  repeat' (first | (refine go1 ?_; intros) | (refine goCC ?_ ?_ <;> (intro hb; (try simp only [hSQ] at hb); try (exfalso; omega))) | fail)
  refine vl_o rfl (vo_clear rfl (by omega) (by omega) ?_)
  repeat' (first | (refine go1 ?_; intros) | (refine goCC ?_ ?_ <;> (intro hb; (try simp only [hSQ] at hb); try (exfalso; omega))) | fail)
  refine ⟨rfl, ?_⟩
  unfold ownLq
  rw [flat_append, hL2]
end Go.Proofs.YtcpndfffdbogbaaGreatDoor
